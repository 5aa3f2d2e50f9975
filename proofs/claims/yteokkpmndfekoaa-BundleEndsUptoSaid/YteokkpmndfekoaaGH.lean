/- Hop and Aged: what makes the block's new data; twin; a block's data is stored anew. -/
import Derived.Test.YteokkpmndfekoaaBV
import Derived.Test.YteokkpmndfekoaaBL
import Derived.Test.YteokkpmndfekoaaBW
import Derived.Test.YteokkpmndfekoaaGA
import Derived.Test.YteokkpmndfekoaaGK
namespace Go.Proofs.Yteokkpmndfekoaa
open Go Go.RowKit Go.ChangeShapes Go.WideShapes Go.ChangeAt
set_option maxRecDepth 100000

theorem one_most (xs : List UInt8) : (one xs).1 ≤ 281474976710655 := rNum_most _ _ _ _
theorem two_most (xs : List UInt8) : (two xs).1 ≤ 281474976710655 ∧ (two xs).2.1 ≤ 281474976710655 := ⟨rNum_most _ _ _ _, rNum_most _ _ _ _⟩
/-- new data, or the end of a life -/
def NewD (w : World) (bad : Bool) (ys : List UInt8) (e : Ending) (w' : World) : Prop :=
  KpN w w' ∧ (bad = true → e = .returned (.tuple #[.slice none 0 0, .int .i64 6])) ∧ (bad = false → ∃ u, e = .returned (.tuple #[u, .int .i64 0]) ∧ OwB w' 5 (Iv w.heap.size w'.heap.size) u ys)
set_option maxHeartbeats 1600000 in
theorem agedF_c {w : World} {B t : Nat} {v : Value} {xs : List UInt8} (h : RdB w v xs) (hl : xs.length ≤ 100000000) (hB : CellsAt w B [n64 t]) (hBl : B < w.heap.size) (ht : U64 t) :
    Calls Try.prog 69 #[v, .pointer (some ⟨B, 0, none⟩)] w (NewD w (decide (281474976710655 - (one xs).1 < t)) (sd ((one xs).1 + t))) := by
  have hA := readAge_c h (by omega)
  have hm := one_most xs
  obtain ⟨n, b, hab⟩ : ∃ a b, one xs = (a, b) := ⟨_, _, rfl⟩
  rw [hab] at hA hm ⊢
  dsimp only at hA hm ⊢
  have HB := Lib.hid (And.intro hB (And.intro hBl ht))
  clear hab hB hBl ht h
  go_enter Try.func69, Try.ntmps69
  go_wp2_with fail
  refine hA.mono ?_
  rintro e w1 ⟨rfl, k1⟩
  clear hA
  have c1 := (HB.out.1.keep HB.out.2.1 k1 (fun x => x)).at_ 0 rfl
  have hm' : (n : Int) ≤ 281474976710655 := by omega
  have hlo : (0 : Int) ≤ (n : Int) := by omega
  have hw : IntKind.u64.wrap (281474976710655 - (n : Int)) = 281474976710655 - (n : Int) := by
    unfold IntKind.wrap
    simp [IntKind.bits, IntKind.signed]
    omega
  have H1 := Lib.hid k1
  clear k1
  by_cases hbad : 281474976710655 - n < t
  · have hb' : (281474976710655 : Int) - (n : Int) < (t : Int) := by omega
    have HD := Lib.hid hbad
    clear hbad
    go_wp2_with fail
    go_ret2
    exact ⟨H1.out, fun _ => rfl, fun hh => by rw [decide_eq_true HD.out] at hh; cases hh⟩
  · have hb' : ¬ (281474976710655 : Int) - (n : Int) < (t : Int) := by omega
    have hN := number_c (n := n + t) (RdB.nil w1) (by omega) (by simp)
    rw [show ((n + t : Nat) : Int) = (n : Int) + (t : Int) by omega] at hN
    have ht0 : (0 : Int) ≤ (t : Int) := by omega
    have hsum : (n : Int) + (t : Int) ≤ 281474976710655 := by omega
    have hw2 : IntKind.u64.wrap ((n : Int) + (t : Int)) = (n : Int) + (t : Int) := by
      unfold IntKind.wrap
      simp [IntKind.bits, IntKind.signed]
      omega
    have HD := Lib.hid hbad
    clear hbad
    go_wp2_with fail
    refine hN.mono ?_
    rintro e w2 ⟨u, rfl, ou, k2⟩
    have hz1 := H1.out.size
    have HF := Lib.hid (And.intro (ou.wide (G := Iv w.heap.size w2.heap.size) (fun k hk hh => ⟨by have := hh.1; omega, hh.2⟩)) (H1.out.thenN k2))
    clear ou k2
    go_wp2_with fail
    go_ret2
    exact ⟨HF.out.2, fun hh => (by rw [decide_eq_false HD.out] at hh; cases hh), fun _ => ⟨_, rfl, HF.out.1⟩⟩
def hop0 : Array Value := #[.int .u64 0, .int .u64 0]
set_option maxHeartbeats 1600000 in
theorem hopF_c {w : World} {v : Value} {xs : List UInt8} (h : RdB w v xs) (hl : xs.length ≤ 100000000) :
    Calls Try.prog 64 #[v] w (NewD w (decide ((two xs).2.1 = (two xs).1)) (sd (two xs).1 ++ sd ((two xs).2.1 + 1))) := by
  have hA := hop_c h (by omega)
  have hm := two_most xs
  obtain ⟨l, n, b, hab⟩ : ∃ a b c, two xs = (a, b, c) := ⟨_, _, _, rfl⟩
  obtain ⟨q, hq⟩ : ∃ q, hopB xs = q := ⟨_, rfl⟩
  rw [hq] at hA
  rw [hab] at hA hm ⊢
  dsimp only at hA hm ⊢
  obtain ⟨hml, hmn⟩ := hm
  clear hab hq h
  go_enter Try.func64, Try.ntmps64
  go_wp2_with fail
  refine hA.mono ?_
  rintro e w1 ⟨rfl, k1⟩
  clear hA
  obtain ⟨X, hX⟩ : ∃ X, w1.heap.size = X := ⟨_, rfl⟩
  obtain ⟨w2, hst, hx2, k2, hz2⟩ : ∃ W', (Instr.storeAt 91 (.pointer (some ⟨w1.heap.size, 0, none⟩)) (.agg #[n64 l, n64 n])).run Try.prog (w1.alloc (.cells #[.int .u64 0, .int .u64 0] 91)) = .ok () W' ∧ CellsAt W' w1.heap.size [n64 l, n64 n] ∧ KpN w1 W' ∧ W'.heap.size = w1.heap.size + 1 := by
    obtain ⟨W', h1, h2, h3, h4⟩ := box_store (CellsAt.new w1 [n64 0, n64 0] 91) 91 #[n64 l, n64 n] rfl (by kernel_rfl) (by kernel_rfl)
    have hz : (w1.alloc (.cells #[.int .u64 0, .int .u64 0] 91)).heap.size = w1.heap.size + 1 := by simp
    exact ⟨W', h1, h2, ((Kp.refl (fun _ => False) w1).alloc _).fresh h3 (fun i e => by omega), by rw [h4]; exact hz⟩
  rw [hX] at hx2 hz2
  have x0 := hx2.at_ 0 rfl
  have x1 := hx2.at_ 1 rfl
  have sf := hx2.2 1
  have hml' : (l : Int) ≤ 281474976710655 := by omega
  have hmn' : (n : Int) ≤ 281474976710655 := by omega
  have hm0 : (0 : Int) ≤ (n : Int) := by omega
  have hw : IntKind.u64.wrap ((n : Int) + 1) = (n : Int) + 1 := by
    unfold IntKind.wrap
    simp [IntKind.bits, IntKind.signed]
    omega
  have HST := Lib.hid (And.intro hst (And.intro hX (k1.thenN k2)))
  by_cases hbad : n = l
  · have hb' : (n : Int) = (l : Int) := by omega
    subst hbad
    clear hst hX k1 k2 hx2 hz2
    go_wp2_with (first
      | ((with_reducible show wpList _ _ _ (Oper.mk _ (Op.store 91 _ _) _ _ _ _ :: _) _ _); refine wpl_skip rfl (run_store_op HST.out.1 rfl rfl) ?_; (try rw [HST.out.2.1]))
      | fail)
    go_ret2
    exact ⟨HST.out.2.2, fun _ => rfl, fun hh => by simp at hh⟩
  · have hb' : ¬ (n : Int) = (l : Int) := by omega
    have hx3 := hx2.set 1 (n64 (n + 1)) (by simp)
    have k3 : KpN w (w2.setCell ⟨X, 1, none⟩ (n64 (n + 1))) := (k1.thenN k2).setCell (p := ⟨X, 1, none⟩) (.inr (by have := k1.size; show w.heap.size ≤ X; omega)) _
    obtain ⟨w3, hw3⟩ : ∃ W, w2.setCell ⟨X, 1, none⟩ (n64 (n + 1)) = W := ⟨_, rfl⟩
    rw [hw3] at hx3 k3
    have hld := run_loadAt_rowat (P := Try.prog) hx3.1 Try.underlying91 rfl (by kernel_rfl)
    have hN := hlaid_c w3 l (n + 1) (by unfold U64; omega) (by unfold U64; omega)
    rw [show w2.setCell ⟨X, 1, none⟩ (n64 (n + 1)) = w2.setCell ⟨X, 1, none⟩ (.int .u64 ((n : Int) + 1)) from rfl] at hw3
    have H3 := Lib.hid (And.intro hw3 (And.intro hld k3))
    have HB := Lib.hid hbad
    clear hst hX k1 k2 hx2 hz2 hx3 k3 hw3 hld hbad
    go_wp2_with (first
      | ((with_reducible show wpList _ _ _ _ _ (World.setCell w2 _ _)); rw [H3.out.1])
      | ((with_reducible show wpList _ _ _ (Oper.mk _ (Op.store 91 _ _) _ _ _ _ :: _) _ _); refine wpl_skip rfl (run_store_op HST.out.1 rfl rfl) ?_; (try rw [HST.out.2.1]))
      | ((with_reducible show wpList _ _ _ (Oper.mk _ (Op.load 91 _) _ _ _ _ :: _) _ _); refine wpl_val rfl (run_load_opv H3.out.2.1 rfl) ?_)
      | fail)
    refine hN.mono ?_
    rintro e w4 ⟨u, rfl, ou, k4⟩
    have hz1 := H3.out.2.2.size
    have HF := Lib.hid (And.intro (ou.wide (G := Iv w.heap.size w4.heap.size) (fun k hk hh => ⟨by have := hh.1; omega, hh.2⟩)) (H3.out.2.2.thenN k4))
    clear ou k4
    go_wp2_with fail
    go_ret2
    exact ⟨HF.out.2, fun hh => (by rw [decide_eq_false HB.out] at hh; cases hh), fun _ => ⟨_, rfl, HF.out.1⟩⟩

def TwinP (b : Bdl) (w : World) (e : Ending) (w' : World) : Prop := ∃ bv pv ls, e = .returned (bdV b bv pv) ∧ OwBd w' 37 (Iv w.heap.size w'.heap.size) bv pv b ls ∧ KpN w w'
theorem take_snoc {α : Type} (l : List α) (q : Nat) (h : q < l.length) : l.take (q + 1) = l.take q ++ [l[q]] := by
  rw [List.take_add_one, List.getElem?_eq_getElem h]
  rfl
set_option maxHeartbeats 12800000 in
theorem twin_c {w : World} {bv pv : Value} {b : Bdl} (h : RdBd w bv pv b) (hsz : bdSize b ≤ 10000000) : Calls Try.prog 87 #[bdV b bv pv] w (TwinP b w) := by
  have HU := Lib.hid (blk_u64 h.bl)
  have HO := Lib.hid h.ok
  obtain ⟨hbl, hpl, hda⟩ := bdSize_len b
  obtain ⟨hok, hb, hp⟩ := h
  obtain ⟨bA, bc, rfl, hbc⟩ := hb.form
  obtain ⟨pA, pc, rfl, -⟩ := hp.form
  obtain ⟨fl, e0, e1, e2, e3, e4, e5, ti, sq, li, l, pl⟩ := b
  dsimp only at hb hp hbc hbl hpl hda HU ⊢
  obtain ⟨N, hN⟩ : ∃ n, l.length = n := ⟨_, rfl⟩
  obtain ⟨M, hM⟩ : ∃ m, pl.length = m := ⟨_, rfl⟩
  rw [hN] at hb hbc hbl ⊢
  rw [hM] at hpl hp ⊢
  have hnb : N ≤ 2500000 := by omega
  have hmb : M ≤ 10000000 := by omega
  obtain ⟨w2, hw2⟩ : ∃ w2, ((w.alloc (.cells #[n64 fl, n64 e0, n64 e1, n64 e2, n64 e3, n64 e4, n64 e5, n64 ti, n64 sq, n64 li, .slice bA N bc, .slice pA M pc] 34)).alloc (.cells zeros12 34)) = w2 := ⟨_, rfl⟩
  have kn2 : KpN w w2 := by rw [← hw2]; exact ((Kp.refl _ w).alloc _).alloc _
  have hz2 : w2.heap.size = w.heap.size + 2 := by rw [← hw2]; simp
  have hB : CellsAt w2 w.heap.size [n64 fl, n64 e0, n64 e1, n64 e2, n64 e3, n64 e4, n64 e5, n64 ti, n64 sq, n64 li, .slice bA N bc, .slice pA M pc] := by
    rw [← hw2]
    exact (CellsAt.new w [n64 fl, n64 e0, n64 e1, n64 e2, n64 e3, n64 e4, n64 e5, n64 ti, n64 sq, n64 li, .slice bA N bc, .slice pA M pc] 34).keep (by simp) ((Kp.refl (fun _ => False) _).alloc _) (fun x => x)
  have hR : CellsAt w2 (w.heap.size + 1) zeros12.toList := by
    rw [← hw2]
    have := CellsAt.new (w.alloc (.cells #[n64 fl, n64 e0, n64 e1, n64 e2, n64 e3, n64 e4, n64 e5, n64 ti, n64 sq, n64 li, .slice bA N bc, .slice pA M pc] 34)) zeros12.toList 34
    rwa [show (w.alloc (.cells #[n64 fl, n64 e0, n64 e1, n64 e2, n64 e3, n64 e4, n64 e5, n64 ti, n64 sq, n64 li, .slice bA N bc, .slice pA M pc] 34)).heap.size = w.heap.size + 1 by simp] at this
  have b10 := hB.at_ 10 rfl
  have HW := Lib.hid hw2
  have HH := Lib.hid (And.intro kn2 (And.intro hB (And.intro hR hz2)))
  have HB := Lib.hid (And.intro hN (And.intro hb (And.intro hda hsz)))
  have HP := Lib.hid (And.intro hM hp)
  clear hw2 kn2 hz2 hB hR hb hp hN hM hda hsz hok
  go_enter Try.func87, Try.ntmps87
  go_wp2_with (first
    | ((with_reducible show wpList _ _ _ _ _ (World.alloc (World.alloc w _) _)); rw [HW.out])
    | fail)
  clear b10
  go_loopw [3, 9] (fun v i wr => ∃ (q : Nat) (ls : List (Value × Blk)), q ≤ N ∧ i = .int .i64 q ∧ OwBl wr 37 (fun k => w2.heap.size ≤ k) v ls ∧ ls.map Prod.snd = l.take q ∧ KpN w2 wr) (fun _ i _ => N - (intOf i).toNat)
  case atStart => exact ⟨0, [], Nat.zero_le _, rfl, OwBl.nil _ _ _, by simp, Kp.refl _ _⟩
  case round =>
    obtain ⟨q, ls, hq, rfl, ho, hls, kr⟩ := hrel
    have hll : ls.length = q := by
      have := congrArg List.length hls
      rw [List.length_map, List.length_take, HB.out.1] at this
      omega
    by_cases hlt : q < N
    · have hql : q < l.length := by rw [HB.out.1]; exact hlt
      obtain ⟨ad, cs, rfl, -, hrow0, ⟨⟨dw, rfl, hdw⟩, hxo⟩⟩ := HB.out.2.1.row q hql
      have kwr := HH.out.1.thenN kr
      have hrow := hrow0.keepN kwr
      have hdr := hdw.keepN kwr
      have hda := HB.out.2.2.1 l[q] (List.getElem_mem hql)
      have hnx := take_snoc l q hql
      obtain ⟨x, hx⟩ : ∃ x, l[q] = x := ⟨_, rfl⟩
      rw [hx] at hrow hdr hda hxo hnx
      obtain ⟨xt, xn, xf, xd⟩ := x
      dsimp only at hrow hdr hda hxo
      obtain ⟨dA, dc, rfl, -⟩ := hdr.form
      obtain ⟨lA, lc, rfl, -⟩ := ho.shape
      rw [hll]
      have c0 := hrow.c0
      have c1 := hrow.fld 0 rfl
      have c2 := hrow.fld 1 rfl
      have c3 := hrow.fld 2 rfl
      obtain ⟨w5, hw5⟩ : ∃ w5, wr.alloc (.cells #[n64 xt, n64 xn, n64 xf, .slice dA xd.length dc] 37) = w5 := ⟨_, rfl⟩
      have k5 : KpN wr w5 := by rw [← hw5]; exact (Kp.refl _ _).alloc _
      have hX : CellsAt w5 wr.heap.size [n64 xt, n64 xn, n64 xf, .slice dA xd.length dc] := by rw [← hw5]; exact CellsAt.new wr [n64 xt, n64 xn, n64 xf, .slice dA xd.length dc] 37
      have hz5 : w5.heap.size = wr.heap.size + 1 := by rw [← hw5]; simp
      have x3 := hX.at_ 3 rfl
      obtain ⟨u, w6, r6, o6, k6⟩ := run_appB_nil (P := Try.prog) w5 (t := 27) (ty := 27) Try.underlying27 u8info (hdr.keepN k5) (by have := HB.out.2.2.2; omega)
      have hz6 := k6.size
      have hX6 := hX.keep (by omega) k6 (fun x => x)
      have x36 := hX6.at_ 3 rfl
      have sf6 := hX6.2 3
      have hX7 := hX6.set 3 u (by simp)
      obtain ⟨uA, uc, rfl, -⟩ := o6.readsB.form
      have k7a : Kp (fun k => k = wr.heap.size) w6 (w6.setCell ⟨wr.heap.size, 3, none⟩ (.slice uA xd.length uc)) := kp1_set3 _ _ _
      have hz7 : (w6.setCell ⟨wr.heap.size, 3, none⟩ (.slice uA xd.length uc)).heap.size = w6.heap.size := by simp [World.setCell]
      obtain ⟨w7, hw7⟩ : ∃ W, w6.setCell ⟨wr.heap.size, 3, none⟩ (.slice uA xd.length uc) = W := ⟨_, rfl⟩
      rw [hw7] at hX7 k7a hz7
      have o7 := o6.keep k7a (fun i hi e => by have := hi.1; omega)
      have k7 : KpN wr w7 := (k5.thenN k6).fresh k7a (fun i e => by omega)
      have hld := run_loadAt_rowat (P := Try.prog) hX7.1 Try.underlying37 rfl (by kernel_rfl)
      have kl := (Kp.refl (fun _ => False) w7).alloc (.cells #[n64 xt, n64 xn, n64 xf, .slice uA xd.length uc] 37)
      have hzl : (w7.alloc (.cells #[n64 xt, n64 xn, n64 xf, .slice uA xd.length uc] 37)).heap.size = w7.heap.size + 1 := by simp
      have hlit := (OwC.lit w7 37 4 1 #[n64 xt, n64 xn, n64 xf, .slice uA xd.length uc] (by simp [maxLen]) rfl).reads
      have hzr := kr.size
      obtain ⟨w8, hw8⟩ : ∃ W, w7.alloc (.cells #[n64 xt, n64 xn, n64 xf, .slice uA xd.length uc] 37) = W := ⟨_, rfl⟩
      rw [hw8] at kl hzl hlit
      obtain ⟨v9, w9, r9, o9, k9⟩ := OwBl.push (t := 32) (x := ⟨xt, xn, xf, xd⟩) (xv := .slice (some ⟨w7.heap.size, 0, none⟩) 1 1) ((ho.wide (G := fun i => w2.heap.size ≤ i ∧ i < wr.heap.size) (fun i hi hh => ⟨hh, hi⟩)).keepN (k7.thenN kl)) (o7.keepN kl) (fun i hi hh => by have := hi.2; have := hh.1; omega) hlit hxo (by omega) Try.underlying32 blkInfo (by decide)
      rw [hll] at r9
      have o10 := o9.wide (G := fun k => w2.heap.size ≤ k) (fun i hi hh => by
        rcases hh with hh | hh | hh
        · exact hh.1
        · have := hh.1; omega
        · have := hh.1; omega)
      have k10 : KpN w2 w9 := (kr.thenN (k7.thenN kl)).fresh k9 (fun i hi => hi.1)
      have hl10 : (ls ++ [(Value.slice uA xd.length uc, (⟨xt, xn, xf, xd⟩ : Blk))]).map Prod.snd = l.take (q + 1) := by rw [hnx, List.map_append, hls]; rfl
      have HX := Lib.hid (And.intro hw5 (And.intro r6 (And.intro hw7 (And.intro hld (And.intro hw8 (And.intro r9 (And.intro o10 (And.intro k10 hl10))))))))
      clear hrow hrow0 hdr hdw hda hxo hnx hx ho hls kr kwr k5 k6 hX hw5 hX6 hX7 k7a hz7 hw7 o6 o7 k7 hld kl hzl hlit hw8 r9 o9 k9 o10 k10 hl10 r6 hzr
      go_wp2_with (first
        | ((with_reducible show wpList _ _ _ _ _ (World.alloc wr _)); rw [HX.out.1])
        | ((with_reducible show wpList _ _ _ _ _ (World.setCell w6 _ _)); rw [HX.out.2.2.1])
        | ((with_reducible show wpList _ _ _ _ _ (World.alloc w7 _)); rw [HX.out.2.2.2.2.1])
        | ((with_reducible show wpList _ _ _ (Oper.mk (some 15) _ _ _ _ _ :: _) _ _); refine app_op HX.out.2.1 rfl rfl ?_)
        | ((with_reducible show wpList _ _ _ (Oper.mk (some 18) _ _ _ _ _ :: _) _ _); refine wpl_val rfl (run_load_opv HX.out.2.2.2.1 rfl) ?_)
        | ((with_reducible show wpList _ _ _ (Oper.mk (some 19) _ _ _ _ _ :: _) _ _); refine wpl_val rfl (run_oneBlk rfl) ?_)
        | ((with_reducible show wpList _ _ _ (Oper.mk (some 20) _ _ _ _ _ :: _) _ _); refine app_op HX.out.2.2.2.2.2.1 rfl rfl ?_)
        | fail)
      go_roundw
      case rel => exact ⟨q + 1, _, by omega, by go_num, HX.out.2.2.2.2.2.2.1, HX.out.2.2.2.2.2.2.2.2, HX.out.2.2.2.2.2.2.2.1⟩
      case measure => exact meas_up hlt
    · obtain rfl : q = N := by omega
      rw [List.take_of_length_le (by rw [HB.out.1]; omega)] at hls
      have kwr := HH.out.1.thenN kr
      have hzr := kr.size
      have hz2 := HH.out.2.2.2
      obtain ⟨lA, lc, rfl, -⟩ := ho.shape
      rw [hll]
      rw [hll] at ho
      have hXr := HH.out.2.1.keep (by omega) kr (fun x => x)
      have x10 := hXr.at_ 10 rfl
      have sf10 := hXr.2 10
      have hXa := hXr.set 10 (.slice lA q lc) (by simp)
      have kaB : Kp (fun k => k = w.heap.size) wr (wr.setCell ⟨w.heap.size, 10, none⟩ (.slice lA q lc)) := kp1_set3 _ _ _
      obtain ⟨wa, hwa⟩ : ∃ W, wr.setCell ⟨w.heap.size, 10, none⟩ (.slice lA q lc) = W := ⟨_, rfl⟩
      rw [hwa] at hXa kaB
      have hza := kaB.size
      have kwa : KpN w wa := kwr.fresh kaB (fun i e => by omega)
      have hoa := ho.keep kaB (fun i hi e => by omega)
      have a11 := hXa.at_ 11 rfl
      have saf := hXa.2 11
      obtain ⟨u, wb, rb, ob, kb⟩ := run_appB_nil (P := Try.prog) wa (t := 27) (ty := 27) Try.underlying27 u8info (HP.out.2.keepN kwa) (by have := HP.out.1; omega)
      obtain ⟨uA, uc, rfl, -⟩ := ob.readsB.form
      rw [HP.out.1] at rb ob
      have hzb := kb.size
      have hXb := hXa.keep (by omega) kb (fun x => x)
      have b11 := hXb.at_ 11 rfl
      have sbf := hXb.2 11
      have hXc := hXb.set 11 (.slice uA M uc) (by simp)
      have kcB : Kp (fun k => k = w.heap.size) wb (wb.setCell ⟨w.heap.size, 11, none⟩ (.slice uA M uc)) := kp1_set3 _ _ _
      obtain ⟨wc, hwc⟩ : ∃ W, wb.setCell ⟨w.heap.size, 11, none⟩ (.slice uA M uc) = W := ⟨_, rfl⟩
      rw [hwc] at hXc kcB
      have hzc := kcB.size
      have hoc := (hoa.keepN kb).keep kcB (fun i hi e => by omega)
      have obc := ob.keep kcB (fun i hi e => by have := hi.1; omega)
      have kwc : KpN w wc := (kwa.thenN kb).fresh kcB (fun i e => by omega)
      have hRc : CellsAt wc (w.heap.size + 1) zeros12.toList := (((HH.out.2.2.1.keep (by omega) kr (fun x => x)).keep (by omega) kaB (fun e => by omega)).keep (by omega) kb (fun x => x)).keep (by omega) kcB (fun e => by omega)
      have hld := run_loadAt_rowat (P := Try.prog) hXc.1 Try.underlying34 rfl (by kernel_rfl)
      obtain ⟨wd, hst, hRd, kd, hzd⟩ := box_store hRc 34 #[n64 fl, n64 e0, n64 e1, n64 e2, n64 e3, n64 e4, n64 e5, n64 ti, n64 sq, n64 li, .slice lA q lc, .slice uA M uc] rfl (by kernel_rfl) (by kernel_rfl)
      have hap : ∀ p ∈ ls, ∀ k, p.1.ownBlock = some k → (Value.slice uA M uc).ownBlock ≠ some k := fun p hp k hk hk2 => by
        have h1 := (hoa.each p hp).lt k hk
        have h2 := (ob.fit k hk2).1
        omega
      have hfin : OwBd wd 37 (Iv w.heap.size wd.heap.size) (.slice lA q lc) (.slice uA M uc) ⟨fl, e0, e1, e2, e3, e4, e5, ti, sq, li, l, pl⟩ ls := by
        refine ⟨HO.out, ((hoc.keep kd (fun i hi e => by omega)).wide (fun i hi hh => ⟨by omega, hi⟩)), hls, ?_, hap⟩
        have := (obc.keep kd (fun i hi e => by have := hi.1; omega))
        exact this.wide (fun i hi hh => ⟨by have := hh.1; omega, hi⟩)
      have HF := Lib.hid (And.intro hwa (And.intro rb (And.intro hwc (And.intro hld (And.intro hst (And.intro hRd.1 (And.intro hfin (kwc.fresh kd (fun i e => by omega)))))))))
      clear ho hls kr kwr hXr hXa kaB hwa hza kwa hoa rb ob kb hXb hXc kcB hwc hzc hoc obc kwc hRc hld hst hRd kd hzd hap hfin hzb hzr hz2
      go_wp2_with (first
        | ((with_reducible show wpList _ _ _ _ _ (World.setCell wr _ _)); rw [HF.out.1])
        | ((with_reducible show wpList _ _ _ _ _ (World.setCell wb _ _)); rw [HF.out.2.2.1])
        | ((with_reducible show wpList _ _ _ (Oper.mk (some 26) _ _ _ _ _ :: _) _ _); refine app_op HF.out.2.1 rfl rfl ?_)
        | ((with_reducible show wpList _ _ _ (Oper.mk (some 28) _ _ _ _ _ :: _) _ _); refine wpl_val rfl (run_load_opv HF.out.2.2.2.1 rfl) ?_)
        | ((with_reducible show wpList _ _ _ (Oper.mk _ (Op.store 34 _ _) _ _ _ _ :: _) _ _); refine wpl_skip rfl (run_store_op HF.out.2.2.2.2.1 rfl rfl) ?_)
        | fail)
      (try simp only [Exit.inBlock, Exit.then])
      refine bodyPost_ret (results_cell_at rfl _ _ rfl HF.out.2.2.2.2.2.1 Try.underlying34 rfl (by kernel_rfl)) rfl ?_
      unfold TwinP
      exact ⟨_, _, _, rfl, HF.out.2.2.2.2.2.2.1, HF.out.2.2.2.2.2.2.2⟩

/-- the first block of a kind -/
def fstK (l : List Blk) (k : Nat) : Option Nat := l.findIdx? fun x => decide (x.ty = k)
theorem fstK_at {l : List Blk} {k q : Nat} (hq : q < l.length) (h0 : ∀ j (h : j < l.length), j < q → l[j].ty ≠ k) (h1 : l[q].ty = k) : fstK l k = some q := by
  unfold fstK
  rw [List.findIdx?_eq_some_iff_getElem]
  exact ⟨hq, by simpa using h1, fun j hj => by simpa using h0 j (by omega) hj⟩
theorem fstK_none {l : List Blk} {k : Nat} (h0 : ∀ j (h : j < l.length), l[j].ty ≠ k) : fstK l k = none := by
  unfold fstK
  rw [List.findIdx?_eq_none_iff]
  intro x hx
  obtain ⟨j, hj, rfl⟩ := List.mem_iff_getElem.1 hx
  simpa using h0 j hj
theorem newL_eq (l : List Blk) (i : Nat) (d : List UInt8) (hi : i < l.length) : newL l i d = l.set i { l[i] with da := d } := by
  unfold newL
  refine List.ext_getElem (by simp) fun j h1 h2 => ?_
  rw [List.getElem_modify, List.getElem_set]
  by_cases e : i = j
  · subst e
    simp
  · simp [e]
theorem newL_sum (l : List Blk) : ∀ (i : Nat) (d : List UInt8), ((newL l i d).map blkSize).sum ≤ (l.map blkSize).sum + d.length := by
  induction l with
  | nil => intro i d; simp [newL]
  | cons a r ih =>
    intro i d
    cases i with
    | zero => simp [newL, blkSize]; omega
    | succ i =>
      have := ih i d
      simp only [newL, List.modify_succ_cons, List.map_cons, List.sum_cons] at this ⊢
      omega
theorem newB_size (b : Bdl) (i : Nat) (d : List UInt8) : bdSize (newB b i d) ≤ bdSize b + d.length := by
  unfold bdSize newB
  dsimp only
  have := newL_sum b.bl i d
  omega
theorem blkAll_ge : ∀ (l : List Blk), (l.map blkSize).sum ≤ ((l.map blkL).flatten).length + l.length
  | [] => by simp
  | x :: r => by
    have ih := blkAll_ge r
    have h1 := sd_pos x.ty
    have h2 := sd_pos x.nu
    have h3 := sd_pos x.fl
    simp only [List.map_cons, List.sum_cons, List.flatten_cons, List.length_append, List.length_cons]
    have hb : blkSize x ≤ (blkL x).length + 1 := by
      simp only [blkSize, blkL, lb, List.length_append]
      omega
    omega
theorem bdSize_laid (b : Bdl) (h : valE b = 0) : bdSize b ≤ 1100 := by
  obtain ⟨hg, hl⟩ := valE_zero h
  have h8 : b.bl.length ≤ 8 := by
    unfold good headB at hg
    simp only [Bool.and_eq_true, decide_eq_true_eq] at hg
    omega
  have := blkAll_ge b.bl
  unfold laid at hl
  simp only [lb, List.length_append] at hl
  unfold bdSize
  omega
theorem blCs_set : ∀ (l : List (Value × Blk)) (i : Nat) (u : Value) (d : List UInt8) (hi : i < l.length), (blCs l).set (i * 4 + 3) u = blCs (l.set i (u, { l[i].2 with da := d }))
  | [], i, _, _, hi => by simp at hi
  | a :: r, 0, u, d, _ => by
    simp only [List.set_cons_zero, List.getElem_cons_zero, blCs_cons, blC]
    rfl
  | a :: r, i + 1, u, d, hi => by
    have ih := blCs_set r i u d (by simpa using hi)
    simp only [List.set_cons_succ, List.getElem_cons_succ, blCs_cons]
    rw [← ih, show (i + 1) * 4 + 3 = (blC a).length + (i * 4 + 3) by simp [blC]; omega, List.set_append_right _ _ (by omega)]
    congr 2
    omega
theorem OwBl.setD {w : World} {F G H : Nat → Prop} {g n c i : Nat} {l : List (Value × Blk)} {u : Value} {d : List UInt8} (h : OwBl w 37 F (.slice (some ⟨g, 0, none⟩) n c) l) (hi : i < l.length) (ou : OwB w 5 G u d) (hG : ∀ k, F k → ¬ G k) (hn : n = l.length) (hF : ∀ k, F k → H k) (hH : ∀ k, G k → H k) :
    OwBl (w.setCell ⟨g, i * 4 + 3, none⟩ u) 37 H (.slice (some ⟨g, 0, none⟩) n c) (l.set i (u, { l[i].2 with da := d })) := by
  subst hn
  have ks : Kp (fun k => k = g) w (w.setCell ⟨g, i * 4 + 3, none⟩ u) := kp1_set3 _ _ _
  have hrow : OwC (w.setCell ⟨g, i * 4 + 3, none⟩ u) 37 4 F (.slice (some ⟨g, 0, none⟩) l.length c) l.length ((blCs l).set (i * 4 + 3) u) := ⟨(h.row.own.stored _ u).1, h.row.fit⟩
  have hne : ∀ p ∈ l, ∀ k, p.1.ownBlock = some k → k ≠ g := fun p hp k hk e => by
    subst e
    exact h.row.neT (h.each p hp) (by decide) _ rfl hk
  have hnu : ∀ k, u.ownBlock = some k → k ≠ g := fun k hk e => by
    subst e
    exact h.row.neT ou (by decide) _ rfl hk
  have keepEach : ∀ p ∈ l, OwB (w.setCell ⟨g, i * 4 + 3, none⟩ u) 5 F p.1 p.2.da := fun p hp => (h.each p hp).keepB ks (fun k hk e => hne p hp k hk e)
  refine ⟨?_, fun p hp => ?_, fun p hp => ?_, ?_⟩
  · rw [List.length_set, ← blCs_set l i u d hi]
    exact hrow.wide (fun k _ hk => hF k hk)
  · rcases List.mem_or_eq_of_mem_set hp with hp | rfl
    · exact (keepEach p hp).wide (fun k _ hk => hF k hk)
    · exact (ou.keepB ks (fun k hk e => hnu k hk e)).wide (fun k _ hk => hH k hk)
  · rcases List.mem_or_eq_of_mem_set hp with hp | rfl
    · exact h.num p hp
    · have := h.num l[i] (List.getElem_mem hi)
      exact this
  · rw [List.pairwise_iff_getElem]
    intro x y hx hy hxy k hk hk2
    rw [List.length_set] at hx hy
    have hap := (List.pairwise_iff_getElem.1 h.apart) x y (by simpa using hx) (by simpa using hy) hxy
    rw [List.getElem_set] at hk hk2
    split at hk
    · rename_i ex
      rw [if_neg (by omega)] at hk2
      exact hG k ((h.each _ (List.getElem_mem (by simpa using hy))).fit k hk2) (ou.fit k hk)
    · split at hk2
      · exact hG k ((h.each _ (List.getElem_mem (by simpa using hx))).fit k hk) (ou.fit k hk2)
      · exact hap k hk hk2
theorem OwBd.setD {w : World} {F G H : Nat → Prop} {g n c i : Nat} {l : List (Value × Blk)} {u pv : Value} {d : List UInt8} {b : Bdl} (h : OwBd w 37 F (.slice (some ⟨g, 0, Option.none⟩) n c) pv b l) (hi : i < l.length) (ou : OwB w 5 G u d) (hG : ∀ k, F k → ¬ G k) (hn : n = l.length) (hF : ∀ k, F k → H k) (hH : ∀ k, G k → H k) :
    OwBd (w.setCell ⟨g, i * 4 + 3, Option.none⟩ u) 37 H (.slice (some ⟨g, 0, Option.none⟩) n c) pv (newB b i d) (l.set i (u, { l[i].2 with da := d })) := by
  have ks : Kp (fun k => k = g) w (w.setCell ⟨g, i * 4 + 3, Option.none⟩ u) := kp1_set3 _ _ _
  refine ⟨h.ok, h.bl.setD hi ou hG hn hF hH, ?_, ?_, fun p hp k hk hk2 => ?_⟩
  · have hib : i < b.bl.length := by rw [← h.eq, List.length_map]; exact hi
    show _ = newL b.bl i d
    rw [newL_eq _ _ _ hib, List.map_set, h.eq]
    have : b.bl[i] = l[i].2 := by simp [← h.eq]
    rw [this]
  · exact (h.pl.keepB ks (fun k hk e => by subst e; exact h.bl.row.neT h.pl (by decide) _ rfl hk)).wide (fun k _ hk => hF k hk)
  · rcases List.mem_or_eq_of_mem_set hp with hp | rfl
    · exact h.apart p hp k hk hk2
    · exact hG k (h.pl.fit k hk2) (ou.fit k hk)
theorem OwBl.cell3 {w : World} {T : Nat} {F : Nat → Prop} {g n c i : Nat} {l : List (Value × Blk)} (h : OwBl w T F (.slice (some ⟨g, 0, none⟩) n c) l) (hi : i < l.length) : w.cell? ⟨g, i * 4 + 3, none⟩ = some l[i].1 ∧ w.frozen? ⟨g, i * 4 + 3, none⟩ = false := by
  have hn : n = l.length := by
    obtain ⟨_, A, c', hv, _, _⟩ := h.row.reads
    injection hv
  subst hn
  refine ⟨?_, World.ownsRow.frozenAt h.row.own _⟩
  have h0 : (blCs l)[i * 4 + 3]? = some l[i].1 := by rw [blCs_get l i hi 3 (by omega)]; rfl
  obtain ⟨_, A, c', hv, _, hr⟩ := h.row.reads
  obtain ⟨ad, e, hc⟩ := hr _ _ h0
  injection hv with hv
  subst hv
  injection e with e
  subst e
  rwa [add_plain'] at hc
end Go.Proofs.Yteokkpmndfekoaa
