/- bundle.laid, Encode, Valid. -/
import Derived.Test.YteokkpmndfekoaaBY
import Derived.Test.YteokkpmndfekoaaO4
namespace Go.Proofs.Yteokkpmndfekoaa
open Go Go.RowKit Go.ChangeShapes Go.WideShapes Go.ChangeAt
set_option maxRecDepth 100000

def numsL (b : Bdl) : List Nat := [b.fl, b.e0, b.e1, b.e2, b.e3, b.e4, b.e5, b.ti, b.sq, b.li, b.bl.length]
theorem headL_nums (b : Bdl) : headL b = [6] ++ ((numsL b).map sd).flatten := by simp [headL, numsL, List.append_assoc]
theorem flat_next (l : List Nat) (q : Nat) (h : q < l.length) (p : List UInt8) : p ++ ((l.take (q + 1)).map sd).flatten = p ++ ((l.take q).map sd).flatten ++ sd l[q] := by
  rw [List.take_succ_eq_append_getElem h, List.map_append, List.flatten_append, List.append_assoc]
  simp only [List.map_cons, List.map_nil, List.flatten_cons, List.flatten_nil, List.append_nil]
theorem flatB_next (l : List Blk) (q : Nat) (h : q < l.length) (p : List UInt8) : p ++ ((l.take (q + 1)).map blkL).flatten = p ++ ((l.take q).map blkL).flatten ++ blkL l[q] := by
  rw [List.take_succ_eq_append_getElem h, List.map_append, List.flatten_append, List.append_assoc]
  simp only [List.map_cons, List.map_nil, List.flatten_cons, List.flatten_nil, List.append_nil]
theorem sdAll_len : ∀ (l : List Nat), (∀ z ∈ l, U64 z) → ((l.map sd).flatten).length ≤ l.length * 10
  | [], _ => by simp
  | z :: l, h => by
    have := sdAll_len l (fun y hy => h y (by simp [hy]))
    have := sd_length z (h z (by simp))
    simp only [List.map_cons, List.flatten_cons, List.length_append, List.length_cons]
    omega
theorem blkL_len {x : Blk} (h : U64 x.ty ∧ U64 x.nu ∧ U64 x.fl) (hd : x.da.length ≤ 100000000000) : (blkL x).length ≤ x.da.length + 40 := by
  have := sd_length _ h.1
  have := sd_length _ h.2.1
  have := sd_length _ h.2.2
  have := lb_length x.da (by omega)
  unfold blkL
  simp only [List.length_append]
  omega
theorem blkAll_len : ∀ (l : List Blk), (∀ x ∈ l, U64 x.ty ∧ U64 x.nu ∧ U64 x.fl) → (l.map blkSize).sum ≤ 10000000 → ((l.map blkL).flatten).length ≤ (l.map blkSize).sum * 10
  | [], _, _ => by simp
  | x :: l, h, hs => by
    simp only [List.map_cons, List.sum_cons] at hs ⊢
    have := blkAll_len l (fun y hy => h y (by simp [hy])) (by omega)
    have := blkL_len (h x (by simp)) (by unfold blkSize at hs; omega)
    simp only [List.flatten_cons, List.length_append]
    have : blkSize x = x.da.length + 4 := rfl
    omega
theorem blk_u64 {w : World} {v : Value} {l : List Blk} (h : SlAt w 4 BlkAt v l) : ∀ x ∈ l, U64 x.ty ∧ U64 x.nu ∧ U64 x.fl := fun x hx => by
  obtain ⟨j, hj, rfl⟩ := List.mem_iff_getElem.1 hx
  obtain ⟨A, c, rfl, -⟩ := h.form
  obtain ⟨ad, cs, -, -, -, hb⟩ := h.row j hj
  exact hb.2
theorem take_sum (l : List Blk) (q : Nat) : ((l.take q).map blkSize).sum ≤ (l.map blkSize).sum := by
  conv => rhs; rw [← List.take_append_drop q l]
  rw [List.map_append, List.sum_append]
  omega
theorem laidB_len {w : World} {bv pv : Value} {b : Bdl} (h : RdBd w bv pv b) (hsz : bdSize b ≤ 10000000) : (laid b).length ≤ 200000000 := by
  obtain ⟨h1, h2, h3⟩ := bdSize_len b
  have h4 : ((numsL b).map sd).flatten.length ≤ 110 := by
    have := sdAll_len (numsL b) (fun z hz => by
      obtain ⟨o0, o1, o2, o3, o4, o5, o6, o7, o8, o9⟩ := h.ok
      simp only [numsL, List.mem_cons, List.not_mem_nil, or_false] at hz
      rcases hz with rfl | rfl | rfl | rfl | rfl | rfl | rfl | rfl | rfl | rfl | rfl
      all_goals first | assumption | (unfold U64; omega))
    simpa [numsL] using this
  have h5 := blkAll_len b.bl (blk_u64 h.bl) (by unfold bdSize at hsz; omega)
  have h6 := lb_length b.pl (by omega)
  rw [laid_front, frontL, headL_nums]
  simp only [List.length_append, List.length_cons, List.length_nil]
  unfold bdSize at hsz
  omega
set_option maxHeartbeats 12800000 in
theorem laid_c {w : World} {bv pv : Value} {b : Bdl} (h : RdBd w bv pv b) (hsz : bdSize b ≤ 10000000) : Calls Try.prog 60 #[bdV b bv pv] w (GotB 5 w (laid b)) := by
  have HU := Lib.hid (blk_u64 h.bl)
  have HO := Lib.hid h.ok
  obtain ⟨hbl, hpl, hda⟩ := bdSize_len b
  obtain ⟨hok, hb, hp⟩ := h
  obtain ⟨bA, bc, rfl, hbc⟩ := hb.form
  obtain ⟨pA, pc, rfl, -⟩ := hp.form
  have hL := laid_front b
  have hLf : frontL b = ([6] ++ ((numsL b).map sd).flatten) ++ (b.bl.map blkL).flatten := by rw [frontL, headL_nums]
  obtain ⟨LL, hLL⟩ : ∃ z, laid b = z := ⟨_, rfl⟩
  rw [hLL] at hL ⊢
  rw [hLf] at hL
  clear hLf
  obtain ⟨fl, e0, e1, e2, e3, e4, e5, ti, sq, li, l, pl⟩ := b
  dsimp only at hb hp hbc hbl hpl hda HU hL ⊢
  obtain ⟨N, hN⟩ : ∃ n, l.length = n := ⟨_, rfl⟩
  obtain ⟨M, hM⟩ : ∃ m, pl.length = m := ⟨_, rfl⟩
  obtain ⟨nl, hnl⟩ : ∃ nl, nl = [fl, e0, e1, e2, e3, e4, e5, ti, sq, li, N] := ⟨_, rfl⟩
  have hLn : numsL ⟨fl, e0, e1, e2, e3, e4, e5, ti, sq, li, l, pl⟩ = nl := by rw [hnl, ← hN]; rfl
  rw [hLn] at hL
  rw [hN] at hb hbc hbl ⊢
  rw [hM] at hpl hp ⊢
  have hnb : N ≤ 2500000 := by omega
  have hmb : M ≤ 10000000 := by omega
  have hnu : ∀ z ∈ nl, U64 z := fun z hz => by
    rw [hnl] at hz
    obtain ⟨o0, o1, o2, o3, o4, o5, o6, o7, o8, o9⟩ := HO.out
    simp only [List.mem_cons, List.not_mem_nil, or_false] at hz
    rcases hz with rfl | rfl | rfl | rfl | rfl | rfl | rfl | rfl | rfl | rfl | rfl
    all_goals first | assumption | (unfold U64; omega)
  have hn11 : nl.length = 11 := by rw [hnl]; rfl
  have hnlen := sdAll_len nl hnu
  obtain ⟨w2, hw2⟩ : ∃ w2, ((w.alloc (.cells #[n64 fl, n64 e0, n64 e1, n64 e2, n64 e3, n64 e4, n64 e5, n64 ti, n64 sq, n64 li, .slice bA N bc, .slice pA M pc] 34)).alloc (.cells #[.int .u8 6] 5)) = w2 := ⟨_, rfl⟩
  have kn2 : KpN w w2 := by rw [← hw2]; exact ((Kp.refl _ w).alloc _).alloc _
  have hz2 : w2.heap.size = w.heap.size + 2 := by rw [← hw2]; simp
  have hB : CellsAt w2 w.heap.size [n64 fl, n64 e0, n64 e1, n64 e2, n64 e3, n64 e4, n64 e5, n64 ti, n64 sq, n64 li, .slice bA N bc, .slice pA M pc] := by
    rw [← hw2]
    exact (CellsAt.new w [n64 fl, n64 e0, n64 e1, n64 e2, n64 e3, n64 e4, n64 e5, n64 ti, n64 sq, n64 li, .slice bA N bc, .slice pA M pc] 34).keep (by simp) ((Kp.refl (fun _ => False) _).alloc _) (fun x => x)
  have ho6 : OwB w2 5 (Iv w.heap.size w2.heap.size) (.slice (some ⟨w.heap.size + 1, 0, none⟩) 1 1) [6] := by
    have := OwB.lit (w.alloc (.cells #[n64 fl, n64 e0, n64 e1, n64 e2, n64 e3, n64 e4, n64 e5, n64 ti, n64 sq, n64 li, .slice bA N bc, .slice pA M pc] 34)) 5 [6] #[.int .u8 6] rfl (by simp)
    rw [show (w.alloc (.cells #[n64 fl, n64 e0, n64 e1, n64 e2, n64 e3, n64 e4, n64 e5, n64 ti, n64 sq, n64 li, .slice bA N bc, .slice pA M pc] 34)).heap.size = w.heap.size + 1 by simp, hw2] at this
    exact this.wide (fun k hk hh => ⟨by have := hh.1; omega, hk⟩)
  obtain ⟨w3, hw3⟩ : ∃ w3, w2.alloc (.cells #[n64 fl, n64 e0, n64 e1, n64 e2, n64 e3, n64 e4, n64 e5, n64 ti, n64 sq, n64 li, n64 N] 22) = w3 := ⟨_, rfl⟩
  have kn3 : KpN w2 w3 := by rw [← hw3]; exact (Kp.refl _ w2).alloc _
  have hz3 : w3.heap.size = w2.heap.size + 1 := by rw [← hw3]; simp
  have hG : CellsAt w3 w2.heap.size (nl.map n64) := by
    rw [← hw3, hnl]
    exact CellsAt.new w2 [n64 fl, n64 e0, n64 e1, n64 e2, n64 e3, n64 e4, n64 e5, n64 ti, n64 sq, n64 li, n64 N] 22
  have b0 := hB.at_ 0 rfl
  have b1 := hB.at_ 1 rfl
  have b2 := hB.at_ 2 rfl
  have b3 := hB.at_ 3 rfl
  have b4 := hB.at_ 4 rfl
  have b5 := hB.at_ 5 rfl
  have b6 := hB.at_ 6 rfl
  have b7 := hB.at_ 7 rfl
  have b8 := hB.at_ 8 rfl
  have b9 := hB.at_ 9 rfl
  have b10 := hB.at_ 10 rfl
  have hkeep : ∀ W, KpN w3 W → CellsAt W w.heap.size [n64 fl, n64 e0, n64 e1, n64 e2, n64 e3, n64 e4, n64 e5, n64 ti, n64 sq, n64 li, .slice bA N bc, .slice pA M pc] := fun W k => hB.keep (by omega) (kn3.thenN k) (fun x => x)
  have hkg : ∀ W, KpN w3 W → ∀ q (hq : q < nl.length), W.cell? ⟨w2.heap.size, q, none⟩ = some (n64 nl[q]) := fun W k q hq => (hG.keep (by omega) k (fun x => x)).at_ q (by simp [hq])
  have HW := Lib.hid (And.intro hw2 hw3)
  have HH := Lib.hid (And.intro (kn2.thenN kn3) (And.intro hkeep (And.intro hkg (show w3.heap.size = w.heap.size + 3 by omega))))
  have HB := Lib.hid (And.intro hN (And.intro hb (And.intro hda hsz)))
  have HP := Lib.hid (And.intro hM hp)
  have HN := Lib.hid (And.intro hn11 (And.intro hnu hnlen))
  have HL := Lib.hid hL
  have H6 := Lib.hid (ho6.keepN kn3 |>.wide (G := Iv w.heap.size w3.heap.size) (fun k hk hh => ⟨hh.1, hk⟩))
  clear hw2 hw3 kn2 kn3 hz2 hz3 hB ho6 hG hkeep hkg hb hp hN hM hda hsz hok hn11 hnu hnlen hL hLL hLn hnl HO
  go_enter Try.func60, Try.ntmps60
  go_wp2_with (first
    | ((with_reducible show wpList _ _ _ _ _ (World.alloc (World.alloc w _) _)); rw [HW.out.1])
    | ((with_reducible show wpList _ _ _ _ _ (World.alloc w2 _)); rw [HW.out.2])
    | fail)
  (try rw [HW.out.2])
  clear b0 b1 b2 b3 b4 b5 b6 b7 b8 b9 b10
  go_loopw [3, 45] (fun v i wr => ∃ q : Nat, q ≤ 11 ∧ i = .int .i64 q ∧ OwB wr 5 (Iv w.heap.size wr.heap.size) v ([6] ++ ((nl.take q).map sd).flatten) ∧ KpN w3 wr) (fun _ i _ => 11 - (intOf i).toNat)
  case atStart => exact ⟨0, Nat.zero_le _, rfl, by simpa using H6.out, Kp.refl _ _⟩
  case round =>
    obtain ⟨q, hq, rfl, ho, kr⟩ := hrel
    by_cases hlt : q < 11
    · have hql : q < nl.length := by rw [HN.out.1]; exact hlt
      have hc := HH.out.2.2.1 wr kr q hql
      have hnx := flat_next nl q hql [6]
      have hlen := sdAll_len (nl.take q) (fun z hz => HN.out.2.1 z (List.mem_of_mem_take hz))
      have hl2 : ([6] ++ ((nl.take q).map sd).flatten).length ≤ 111 := by
        rw [List.length_append, List.length_singleton]
        have : (nl.take q).length ≤ 10 := by rw [List.length_take]; omega
        omega
      have hu := HN.out.2.1 nl[q] (List.getElem_mem hql)
      generalize nl[q] = z at *
      generalize ([6] ++ ((nl.take q).map sd).flatten) = ys at *
      have hnc := number_c (n := z) ho.readsB hu (by omega)
      obtain ⟨A, c, rfl, -⟩ := ho.readsB.form
      have hz0 := kr.size
      have HK := Lib.hid (And.intro kr hnx)
      clear hlen ho kr hnx hu
      go_wp2_with fail
      refine hnc.mono ?_
      rintro e w4 ⟨u, rfl, ou, k4⟩
      have hz4 := k4.size
      have HF := Lib.hid (And.intro (ou.wide (G := Iv w.heap.size w4.heap.size) (fun k hk hh => ⟨by have := hh.1; have := HH.out.2.2.2; omega, hk⟩)) (HK.out.1.thenN k4))
      clear ou k4 hnc
      go_wp2_with fail
      go_roundw
      case rel => exact ⟨q + 1, by omega, by go_num, by rw [HK.out.2]; exact HF.out.1, HF.out.2⟩
      case measure => exact meas_up hlt
    · obtain rfl : q = 11 := by omega
      rw [show ((11 : Nat) : Int) = 11 from rfl]
      rw [List.take_of_length_le (by rw [HN.out.1]; omega)] at ho
      have hl1 : ([6] ++ (nl.map sd).flatten).length ≤ 111 := by
        rw [List.length_append, List.length_singleton]
        have := HN.out.2.2
        have := HN.out.1
        omega
      obtain ⟨hd, hhd⟩ : ∃ hd, [6] ++ (nl.map sd).flatten = hd := ⟨_, rfl⟩
      rw [hhd] at ho hl1
      have HD := Lib.hid hhd
      have b10 := (HH.out.2.1 wr kr).at_ 10 rfl
      have H1 := Lib.hid (And.intro ho kr)
      clear ho kr hhd
      go_wp2_with fail
      clear b10
      obtain ⟨wb, hwb⟩ : ∃ wb, wr = wb := ⟨_, rfl⟩
      rw [hwb] at H1 ⊢
      clear hwb
      go_loopw [3, 56] (fun v i wr => ∃ q : Nat, q ≤ N ∧ i = .int .i64 q ∧ OwB wr 5 (Iv w.heap.size wr.heap.size) v (hd ++ ((l.take q).map blkL).flatten) ∧ KpN w3 wr) (fun _ i _ => N - (intOf i).toNat)
      case atStart => exact ⟨0, Nat.zero_le _, rfl, by simpa using H1.out.1, H1.out.2⟩
      case round =>
        obtain ⟨q, hq, rfl, ho, kr⟩ := hrel
        by_cases hlt : q < N
        · have hql : q < l.length := by rw [HB.out.1]; exact hlt
          obtain ⟨ad, cs, rfl, -, hrow0, ⟨⟨dw, rfl, hdw⟩, hxo⟩⟩ := HB.out.2.1.row q hql
          have kwr := HH.out.1.thenN kr
          have hrow := hrow0.keepN kwr
          have hdr := hdw.keepN kwr
          have hda := HB.out.2.2.1 l[q] (List.getElem_mem hql)
          have hnx := flatB_next l q hql hd
          have hyl : (hd ++ ((l.take q).map blkL).flatten).length ≤ 100001000 := by
            have h1 := blkAll_len (l.take q) (fun x hx => HU.out x (List.mem_of_mem_take hx)) (by have := take_sum l q; have := HB.out.2.2.2; unfold bdSize at this; dsimp only at this; omega)
            have h2 := take_sum l q
            have h3 := HB.out.2.2.2
            unfold bdSize at h3
            dsimp only at h3
            rw [List.length_append]
            omega
          obtain ⟨x, hx⟩ : ∃ x, l[q] = x := ⟨_, rfl⟩
          rw [hx] at hrow hdr hda hxo hnx
          obtain ⟨xt, xn, xf, xd⟩ := x
          dsimp only at hrow hdr hda hxo
          obtain ⟨dA, dc, rfl, -⟩ := hdr.form
          obtain ⟨xl, hxl⟩ : ∃ x, xd.length = x := ⟨_, rfl⟩
          rw [hxl] at hrow hdr hda
          have c0 := hrow.c0
          have c1 := hrow.fld 0 rfl
          have c2 := hrow.fld 1 rfl
          have c3 := hrow.fld 2 rfl
          generalize (hd ++ ((l.take q).map blkL).flatten) = ys at *
          obtain ⟨w5, hw5⟩ : ∃ w5, wr.alloc (.cells #[n64 xt, n64 xn, n64 xf, .slice dA xl dc] 37) = w5 := ⟨_, rfl⟩
          have k5 : KpN wr w5 := by rw [← hw5]; exact (Kp.refl _ _).alloc _
          have hX : CellsAt w5 wr.heap.size [n64 xt, n64 xn, n64 xf, .slice dA xl dc] := by rw [← hw5]; exact CellsAt.new wr [n64 xt, n64 xn, n64 xf, .slice dA xl dc] 37
          have hz5 : w5.heap.size = wr.heap.size + 1 := by rw [← hw5]; simp
          obtain ⟨w6, hw6⟩ : ∃ w6, w5.alloc (.cells #[n64 xt, n64 xn, n64 xf] 22) = w6 := ⟨_, rfl⟩
          have k6 : KpN w5 w6 := by rw [← hw6]; exact (Kp.refl _ _).alloc _
          have hX6 : CellsAt w6 w5.heap.size ([xt, xn, xf].map n64) := by rw [← hw6]; exact CellsAt.new w5 [n64 xt, n64 xn, n64 xf] 22
          have hz6 : w6.heap.size = w5.heap.size + 1 := by rw [← hw6]; simp
          have x0 := hX.at_ 0 rfl
          have x1 := hX.at_ 1 rfl
          have x2 := hX.at_ 2 rfl
          have k56 := k5.thenN k6
          have hkg : ∀ W, KpN w6 W → ∀ p (hp : p < [xt, xn, xf].length), W.cell? ⟨w5.heap.size, p, none⟩ = some (n64 ([xt, xn, xf][p])) := fun W k p hp => (hX6.keep (by omega) k (fun x => x)).at_ p (by rw [List.getElem?_map, List.getElem?_eq_getElem hp]; rfl)
          have hkx : ∀ W, KpN w6 W → W.cell? ⟨wr.heap.size, 3, none⟩ = some (.slice dA xl dc) := fun W k => (hX.keep (by omega) (k6.thenN k) (fun x => x)).at_ 3 rfl
          have ho6 := (ho.keepN k56).wide (G := Iv w.heap.size w6.heap.size) (fun k hk hh => ⟨hh.1, hk⟩)
          have hz0 := kr.size
          have HX := Lib.hid (And.intro hw5 (And.intro hw6 (And.intro hkg (And.intro hkx (And.intro (hdr.keepN k56) (And.intro ho6 (kr.thenN k56)))))))
          have HQ := Lib.hid (And.intro hnx (And.intro hxo hxl))
          have hz9 : w.heap.size + 3 ≤ w6.heap.size := by have := HH.out.2.2.2; omega
          have hwx : wr.heap.size < w6.heap.size := by omega
          have hdb : xl ≤ 10000000 := by have := HB.out.2.2.2; omega
          clear hrow hrow0 hdr hdw hda hxo hnx hx ho kr kwr k5 k6 hX hX6 hw5 hw6 hz5 hz6 k56 hkg hkx ho6 hz0 hxl
          go_wp2_with (first
            | ((with_reducible show wpList _ _ _ _ _ (World.alloc wr _)); rw [HX.out.1])
            | ((with_reducible show wpList _ _ _ _ _ (World.alloc w5 _)); rw [HX.out.2.1])
            | fail)
          (try rw [HX.out.1])
          (try rw [HX.out.2.1])
          clear x0 x1 x2 c0 c1 c2 c3
          go_loopw [3, 68] (fun v i wx => ∃ p : Nat, p ≤ 3 ∧ i = .int .i64 p ∧ OwB wx 5 (Iv w.heap.size wx.heap.size) v (ys ++ (([xt, xn, xf].take p).map sd).flatten) ∧ KpN w6 wx) (fun _ i _ => 3 - (intOf i).toNat)
          case atStart => exact ⟨0, Nat.zero_le _, rfl, by simpa using HX.out.2.2.2.2.2.1, Kp.refl _ _⟩
          case round =>
            obtain ⟨p, hp, rfl, ho, kx⟩ := hrel
            by_cases hlp : p < 3
            · have hpl : p < [xt, xn, xf].length := hlp
              have hc := HX.out.2.2.1 wr kx p hpl
              have hnx := flat_next [xt, xn, xf] p hpl ys
              have hus : ∀ z ∈ [xt, xn, xf], U64 z := fun z hz => by
                simp only [List.mem_cons, List.not_mem_nil, or_false] at hz
                rcases hz with rfl | rfl | rfl
                · exact HQ.out.2.1.1
                · exact HQ.out.2.1.2.1
                · exact HQ.out.2.1.2.2
              have hlen := sdAll_len ([xt, xn, xf].take p) (fun z hz => hus z (List.mem_of_mem_take hz))
              have hl2 : (ys ++ (([xt, xn, xf].take p).map sd).flatten).length ≤ 100001030 := by
                rw [List.length_append]
                have : ([xt, xn, xf].take p).length ≤ 3 := by rw [List.length_take]; omega
                omega
              have hu := hus _ (List.getElem_mem hpl)
              generalize [xt, xn, xf][p] = z at *
              generalize (ys ++ (([xt, xn, xf].take p).map sd).flatten) = zs at *
              have hnc := number_c (n := z) ho.readsB hu (by omega)
              obtain ⟨A, c, rfl, -⟩ := ho.readsB.form
              have hz0 := kx.size
              have HK := Lib.hid (And.intro kx hnx)
              clear hlen ho kx hnx hu hus
              go_wp2_with fail
              refine hnc.mono ?_
              rintro e w7 ⟨u, rfl, ou, k7⟩
              have hz7 := k7.size
              have HF := Lib.hid (And.intro (ou.wide (G := Iv w.heap.size w7.heap.size) (fun k hk hh => ⟨by have := hh.1; omega, hk⟩)) (HK.out.1.thenN k7))
              clear ou k7 hnc
              go_wp2_with fail
              go_roundw
              case rel => exact ⟨p + 1, by omega, by go_num, by rw [HK.out.2]; exact HF.out.1, HF.out.2⟩
              case measure => exact meas_up hlp
            · obtain rfl : p = 3 := by omega
              rw [List.take_of_length_le (by simp)] at ho
              have c3 := HX.out.2.2.2.1 wr kx
              have hl3 : (ys ++ ([xt, xn, xf].map sd).flatten).length ≤ 100001030 := by
                have := sdAll_len [xt, xn, xf] (fun z hz => by
                  simp only [List.mem_cons, List.not_mem_nil, or_false] at hz
                  rcases hz with rfl | rfl | rfl
                  · exact HQ.out.2.1.1
                  · exact HQ.out.2.1.2.1
                  · exact HQ.out.2.1.2.2)
                rw [List.length_append]
                simp only [List.length_cons, List.length_nil] at this
                omega
              have hbt := bytes_c ho.readsB (HX.out.2.2.2.2.1.keepN kx) (by have := HQ.out.2.2; omega)
              obtain ⟨A, c, rfl, -⟩ := ho.readsB.form
              have hfin : (ys ++ ([xt, xn, xf].map sd).flatten) ++ lb xd = ys ++ blkL ⟨xt, xn, xf, xd⟩ := by simp [blkL, List.append_assoc]
              rw [hfin] at hbt
              have hz0 := kx.size
              have HK := Lib.hid kx
              generalize (ys ++ ([xt, xn, xf].map sd).flatten).length = zl at *
              clear ho kx hfin hl3
              go_wp2_with fail
              refine hbt.mono ?_
              rintro e w7 ⟨u, rfl, ou, k7⟩
              have hz7 := k7.size
              have HF := Lib.hid (And.intro (ou.wide (G := Iv w.heap.size w7.heap.size) (fun k hk hh => ⟨by have := hh.1; omega, hk⟩)) (HX.out.2.2.2.2.2.2.thenN (HK.out.thenN k7)))
              clear ou k7 hbt
              go_wp2_with fail
              go_roundw
              case rel => exact ⟨q + 1, by omega, by go_num, by rw [HQ.out.1]; exact HF.out.1, HF.out.2⟩
              case measure => exact meas_up hlt
        · obtain rfl : q = N := by omega
          rw [List.take_of_length_le (by rw [HB.out.1]; omega)] at ho
          have b11 := (HH.out.2.1 wr kr).at_ 11 rfl
          have hyl : (hd ++ (l.map blkL).flatten).length ≤ 100001000 := by
            have h1 := blkAll_len l HU.out (by have := HB.out.2.2.2; unfold bdSize at this; dsimp only at this; omega)
            have h3 := HB.out.2.2.2
            unfold bdSize at h3
            dsimp only at h3
            rw [List.length_append]
            omega
          have kwr := HH.out.1.thenN kr
          have hbt := bytes_c ho.readsB (HP.out.2.keepN kwr) (by have := HP.out.1; omega)
          obtain ⟨A, c, rfl, -⟩ := ho.readsB.form
          rw [← HD.out, show ([6] ++ (nl.map sd).flatten ++ (l.map blkL).flatten) ++ lb pl = LL from HL.out.symm] at hbt
          rw [HD.out] at hbt
          have HK := Lib.hid kwr
          have hz0 := kwr.size
          generalize (hd ++ (l.map blkL).flatten).length = zl at *
          clear ho kr kwr hyl
          go_wp2_with fail
          refine hbt.mono ?_
          rintro e w7 ⟨u, rfl, ou, k7⟩
          have hz7 := k7.size
          have HF := Lib.hid (And.intro (ou.wide (G := Iv w.heap.size w7.heap.size) (fun k hk hh => ⟨by have := hh.1; omega, hk⟩)) (HK.out.thenN k7))
          clear ou k7 hbt
          go_wp2_with fail
          go_ret
          exact ⟨_, rfl, HF.out.1, HF.out.2⟩
theorem bd_load (w : World) (g : Nat) {b : Bdl} {bv pv : Value} (h : CellsAt w g [n64 b.fl, n64 b.e0, n64 b.e1, n64 b.e2, n64 b.e3, n64 b.e4, n64 b.e5, n64 b.ti, n64 b.sq, n64 b.li, bv, pv]) :
    (Instr.loadAt 34 (.pointer (some ⟨g, 0, none⟩))).run Try.prog w = .ok (bdV b bv pv) w :=
  run_loadAt_rowat (P := Try.prog) h.1 Try.underlying34 rfl (by kernel_rfl)
/-- what Encode answers -/
def EncP (b : Bdl) (w : World) (e : Ending) (w' : World) : Prop := ∃ v, e = .returned (.tuple #[v, .int .i64 (valE b)]) ∧ OwB w' 5 (Iv w.heap.size w'.heap.size) v (encB b) ∧ KpN w w'
set_option maxHeartbeats 3200000 in
theorem encode_c {w : World} {bv pv : Value} {b : Bdl} (h : RdBd w bv pv b) (hsz : bdSize b ≤ 10000000) : Calls Try.prog 26 #[bdV b bv pv] w (EncP b w) := by
  obtain ⟨bA, bc, rfl, -⟩ := h.bl.form
  obtain ⟨pA, pc, rfl, -⟩ := h.pl.form
  have hlb := laidB_len h hsz
  obtain ⟨w1, hw1⟩ : ∃ w1, w.alloc (.cells #[n64 b.fl, n64 b.e0, n64 b.e1, n64 b.e2, n64 b.e3, n64 b.e4, n64 b.e5, n64 b.ti, n64 b.sq, n64 b.li, .slice bA b.bl.length bc, .slice pA b.pl.length pc] 34) = w1 := ⟨_, rfl⟩
  have k1 : KpN w w1 := by rw [← hw1]; exact (Kp.refl _ w).alloc _
  have hB : CellsAt w1 w.heap.size [n64 b.fl, n64 b.e0, n64 b.e1, n64 b.e2, n64 b.e3, n64 b.e4, n64 b.e5, n64 b.ti, n64 b.sq, n64 b.li, .slice bA b.bl.length bc, .slice pA b.pl.length pc] := by rw [← hw1]; exact CellsAt.new w [n64 b.fl, n64 b.e0, n64 b.e1, n64 b.e2, n64 b.e3, n64 b.e4, n64 b.e5, n64 b.ti, n64 b.sq, n64 b.li, .slice bA b.bl.length bc, .slice pA b.pl.length pc] 34
  have hz1 : w1.heap.size = w.heap.size + 1 := by rw [← hw1]; simp
  have h1 := h.keepN k1
  have hg := good_c h1 hsz
  have hv : valE b = if good b then (if 1024 < (laid b).length then 81 else 0) else 20 := rfl
  have he : encB b = if valE b = 0 then laid b else [] := rfl
  obtain ⟨V, hV⟩ : ∃ V, valE b = V := ⟨_, rfl⟩
  obtain ⟨E, hE⟩ : ∃ E, encB b = E := ⟨_, rfl⟩
  unfold EncP
  rw [hV] at hv he ⊢
  rw [hE] at he ⊢
  obtain ⟨G, hG⟩ : ∃ G, good b = G := ⟨_, rfl⟩
  rw [hG] at hg hv
  have hld1 := bd_load w1 w.heap.size hB
  have HH := Lib.hid (And.intro hw1 (And.intro k1 (And.intro hB (And.intro hz1 hld1))))
  have HV := Lib.hid (And.intro hv he)
  have HR := Lib.hid (And.intro h1 hsz)
  have HLB := Lib.hid hlb
  clear hw1 k1 hB hz1 hld1 hv he h1 hV hE hG h hsz hlb
  go_enter Try.func26, Try.ntmps26
  go_wp2_with (first
    | ((with_reducible show wpList _ _ _ _ _ (World.alloc w _)); rw [HH.out.1])
    | ((with_reducible show wpList _ _ _ (Oper.mk _ (Op.load 34 _) _ _ _ _ :: _) _ _); refine wpl_val rfl (run_load_opv HH.out.2.2.2.2 rfl) ?_)
    | fail)
  refine hg.mono ?_
  rintro e w2 ⟨rfl, k2⟩
  clear hg
  have hB2 := HH.out.2.2.1.keep (by have := HH.out.2.2.2.1; omega) k2 (fun x => x)
  have hld2 := bd_load w2 w.heap.size hB2
  have hl := laid_c (HR.out.1.keepN k2) HR.out.2
  have H2 := Lib.hid (And.intro hld2 (HH.out.2.1.thenN k2))
  have hz2 := k2.size
  clear hB2 hld2 k2
  rcases G with _ | _
  · have hV := HV.out.1
    rw [if_neg (by simp)] at hV
    have hE := HV.out.2
    rw [if_neg (by omega)] at hE
    have HF := Lib.hid (And.intro hV hE)
    clear hV hE hl
    go_wp2_with fail
    go_ret2
    exact ⟨.slice none 0 0, by rw [HF.out.1]; rfl, by rw [HF.out.2]; exact OwB.nil _ _ _, H2.out.2⟩
  · obtain ⟨X, hX⟩ : ∃ X, laid b = X := ⟨_, rfl⟩
    rw [hX] at hl
    have HX := Lib.hid hX
    clear hX
    go_wp2_with (first
      | ((with_reducible show wpList _ _ _ (Oper.mk _ (Op.load 34 _) _ _ _ _ :: _) _ _); refine wpl_val rfl (run_load_opv H2.out.1 rfl) ?_)
      | fail)
    refine hl.mono ?_
    rintro e w3 ⟨u, rfl, ou, k3⟩
    obtain ⟨uA, uc, rfl, -⟩ := ou.readsB.form
    have hz3 := k3.size
    have hz0 := H2.out.2.size
    have HO := Lib.hid (And.intro (ou.wide (G := Iv w.heap.size w3.heap.size) (fun k hk hh => ⟨by have := hh.1; omega, hk⟩)) (H2.out.2.thenN k3))
    have HV1 := HV.out.1
    have HE1 := HV.out.2
    rw [if_pos (by simp), HX.out] at HV1
    rw [HX.out] at HE1
    have hxb := HLB.out
    rw [HX.out] at hxb
    obtain ⟨L, hL⟩ : ∃ L, X.length = L := ⟨_, rfl⟩
    rw [hL] at HV1 hxb HO ⊢
    clear ou k3 hl hL
    by_cases hs : 1024 < L
    · rw [if_pos hs] at HV1
      rw [if_neg (by omega)] at HE1
      have HF := Lib.hid (And.intro HV1 HE1)
      have hs' : (1024 : Int) < (L : Int) := by omega
      clear HV1 HE1 hs
      go_wp2_with fail
      go_ret2
      exact ⟨.slice none 0 0, by rw [HF.out.1]; rfl, by rw [HF.out.2]; exact OwB.nil _ _ _, HO.out.2⟩
    · rw [if_neg hs] at HV1
      rw [if_pos HV1] at HE1
      have HF := Lib.hid (And.intro HV1 HE1)
      have hs' : decide ((1024 : Int) < (L : Int)) = false := by simp; omega
      clear HV1 HE1 hs
      go_wp2_with fail
      go_ret2
      exact ⟨_, by rw [HF.out.1]; rfl, by rw [HF.out.2]; exact HO.out.1, HO.out.2⟩
set_option maxHeartbeats 1600000 in
theorem valid_c {w : World} {bv pv : Value} {b : Bdl} (h : RdBd w bv pv b) (hsz : bdSize b ≤ 10000000) : Calls Try.prog 25 #[bdV b bv pv] w fun e w' => e = .returned (.int .i64 (valE b)) ∧ KpN w w' := by
  obtain ⟨bA, bc, rfl, -⟩ := h.bl.form
  obtain ⟨pA, pc, rfl, -⟩ := h.pl.form
  obtain ⟨w1, hw1⟩ : ∃ w1, w.alloc (.cells #[n64 b.fl, n64 b.e0, n64 b.e1, n64 b.e2, n64 b.e3, n64 b.e4, n64 b.e5, n64 b.ti, n64 b.sq, n64 b.li, .slice bA b.bl.length bc, .slice pA b.pl.length pc] 34) = w1 := ⟨_, rfl⟩
  have k1 : KpN w w1 := by rw [← hw1]; exact (Kp.refl _ w).alloc _
  have hB : CellsAt w1 w.heap.size [n64 b.fl, n64 b.e0, n64 b.e1, n64 b.e2, n64 b.e3, n64 b.e4, n64 b.e5, n64 b.ti, n64 b.sq, n64 b.li, .slice bA b.bl.length bc, .slice pA b.pl.length pc] := by rw [← hw1]; exact CellsAt.new w [n64 b.fl, n64 b.e0, n64 b.e1, n64 b.e2, n64 b.e3, n64 b.e4, n64 b.e5, n64 b.ti, n64 b.sq, n64 b.li, .slice bA b.bl.length bc, .slice pA b.pl.length pc] 34
  have he := encode_c (h.keepN k1) hsz
  unfold EncP at he
  obtain ⟨V, hV⟩ : ∃ V, valE b = V := ⟨_, rfl⟩
  rw [hV] at he ⊢
  have hld1 := bd_load w1 w.heap.size hB
  have HH := Lib.hid (And.intro hw1 (And.intro k1 hld1))
  clear hw1 k1 hB hld1 hV h hsz
  go_enter Try.func25, Try.ntmps25
  go_wp2_with (first
    | ((with_reducible show wpList _ _ _ _ _ (World.alloc w _)); rw [HH.out.1])
    | ((with_reducible show wpList _ _ _ (Oper.mk _ (Op.load 34 _) _ _ _ _ :: _) _ _); refine wpl_val rfl (run_load_opv HH.out.2.2 rfl) ?_)
    | fail)
  refine he.mono ?_
  rintro e w2 ⟨u, rfl, ou, k2⟩
  go_wp2_with fail
  go_ret
  exact ⟨rfl, HH.out.2.1.thenN k2⟩
end Go.Proofs.Yteokkpmndfekoaa
