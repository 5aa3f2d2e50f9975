/- the document's bytes, Valid, Encode. -/
import Derived.Test.YteokkpmndfekoaaFC
import Derived.Test.YteokkpmndfekoaaFX
namespace Go.Proofs.Yteokkpmndfekoaa
open Go Go.RowKit Go.ChangeShapes Go.WideShapes Go.ChangeAt
set_option maxRecDepth 100000

/-- what has been written so far: memory of its own -/
structure OutM (w1 W : World) (B : Nat) (v : Value) (xs : List UInt8) : Prop where
  own : OwB W 5 (Iv w1.heap.size W.heap.size) v xs
  kp : KpN w1 W
  le : xs.length ≤ B
theorem OutM.app {w1 W WA : World} {B : Nat} {v u : Value} {xs ys : List UInt8} (h : OutM w1 W B v xs) (k : KpN W WA) (hu : RdB WA u ys) (C : Nat) (hC : ys.length ≤ C) (hB : B + C ≤ 1000000000000) :
    ∃ v' W', (Builtin.append_ #[27, 27] 27 #[v, u]).run Try.prog WA = .ok v' W' ∧ OutM w1 W' (B + C) v' (xs ++ ys) := by
  have hle := h.le
  obtain ⟨v', W', r, o, k2, -⟩ := run_appB (P := Try.prog) WA (ty := 27) Try.underlying27 u8info (h.own.keepN k) hu (by omega)
  have hz := k.size
  have hz2 := k2.size
  have hz0 := h.kp.size
  refine ⟨v', W', r, o.wide (fun i hi hh => ?_), (h.kp.thenN k).fresh k2 (fun i hi => (h.own.fit i hi).1), by rw [List.length_append]; omega⟩
  rcases hh with hh | hh
  · exact ⟨hh.1, hi⟩
  · exact ⟨by have := hh.1; omega, hi⟩
theorem OutM.got {w1 W W' : World} {B C : Nat} {v u : Value} {xs zs : List UInt8} (h : OutM w1 W B v xs) (o : OwB W' 5 (Iv W.heap.size W'.heap.size) u zs) (k : KpN W W') (hl : zs.length ≤ C) : OutM w1 W' C u zs := by
  have hz0 := h.kp.size
  exact ⟨o.wide (fun i hi hh => ⟨by have := hh.1; omega, hi⟩), h.kp.thenN k, hl⟩
theorem sd10 {z : Nat} (h : U64 z) : (sd z).length ≤ 10 := sd_length z h
set_option maxHeartbeats 12800000 in
theorem rbytes_c {w : World} {bv pv : Value} {b : Bdl} (h : RdBd w bv pv b) (hsz : bdSize b ≤ 10000000) : Calls Try.prog 61 #[bdV b bv pv] w (GotB 5 w (laid b)) := by
  have HU := Lib.hid (blk_u64 h.bl)
  have HOK := Lib.hid h.ok
  obtain ⟨hbl, hpl, hda⟩ := bdSize_len b
  obtain ⟨hok, hb, hp⟩ := h
  obtain ⟨bA, bc, rfl, hbc⟩ := hb.form
  obtain ⟨pA, pc, rfl, -⟩ := hp.form
  obtain ⟨w1, hw1⟩ : ∃ w1, w.alloc (.cells #[n64 b.fl, n64 b.e0, n64 b.e1, n64 b.e2, n64 b.e3, n64 b.e4, n64 b.e5, n64 b.ti, n64 b.sq, n64 b.li, .slice bA b.bl.length bc, .slice pA b.pl.length pc] 29) = w1 := ⟨_, rfl⟩
  have k1 : KpN w w1 := by rw [← hw1]; exact (Kp.refl _ w).alloc _
  have hB : CellsAt w1 w.heap.size [n64 b.fl, n64 b.e0, n64 b.e1, n64 b.e2, n64 b.e3, n64 b.e4, n64 b.e5, n64 b.ti, n64 b.sq, n64 b.li, .slice bA b.bl.length bc, .slice pA b.pl.length pc] := by rw [← hw1]; exact CellsAt.new w [n64 b.fl, n64 b.e0, n64 b.e1, n64 b.e2, n64 b.e3, n64 b.e4, n64 b.e5, n64 b.ti, n64 b.sq, n64 b.li, .slice bA b.bl.length bc, .slice pA b.pl.length pc] 29
  have hz1 : w1.heap.size = w.heap.size + 1 := by rw [← hw1]; simp
  have hkE : ∀ W, KpN w1 W → ∀ q (hq : q < (ends b).length), W.cell? ⟨w.heap.size, 1 + q, none⟩ = some (n64 ((ends b)[q])) := fun W k => ends_at (hB.keep (by omega) k (fun x => x))
  obtain ⟨es, hes⟩ : ∃ es, ends b = es := ⟨_, rfl⟩
  have he6 : es.length = 6 := by rw [← hes]; rfl
  have hue : ∀ z ∈ es, U64 z := fun z hz => by
    rw [← hes] at hz
    obtain ⟨o0, o1, o2, o3, o4, o5, o6, o7, o8, o9⟩ := HOK.out
    simp only [ends, List.mem_cons, List.not_mem_nil, or_false] at hz
    rcases hz with rfl | rfl | rfl | rfl | rfl | rfl <;> assumption
  have hkE2 : ∀ W, KpN w1 W → ∀ q (hq : q < es.length), W.cell? ⟨w.heap.size, 1 + q, none⟩ = some (n64 es[q]) := by
    subst hes
    exact hkE
  have hL : laid b = ((((((([6] ++ sd b.fl) ++ (es.map sd).flatten) ++ sd b.ti) ++ sd b.sq) ++ sd b.li) ++ sd b.bl.length) ++ (b.bl.map blkL).flatten) ++ lb b.pl := by
    rw [← hes, laid_front, frontL, headL_nums]
    simp [numsL, ends, List.append_assoc]
  obtain ⟨LL, hLL⟩ : ∃ LL, laid b = LL := ⟨_, rfl⟩
  rw [hLL] at hL ⊢
  clear hkE hes hLL
  obtain ⟨fl, e0, e1, e2, e3, e4, e5, ti, sq, li, l, pl⟩ := b
  dsimp only at hb hp hbc hbl hpl hda hw1 hB hL HU ⊢
  have hufl : U64 fl := HOK.out.1
  obtain ⟨-, -, -, -, -, -, -, huti, husq, huli⟩ : BdOk ⟨fl, e0, e1, e2, e3, e4, e5, ti, sq, li, l, pl⟩ := HOK.out
  obtain ⟨N, hN⟩ : ∃ n, l.length = n := ⟨_, rfl⟩
  obtain ⟨M, hM⟩ : ∃ m, pl.length = m := ⟨_, rfl⟩
  rw [hN] at hb hbc hbl hw1 hB hL ⊢
  rw [hM] at hpl hp hw1 hB ⊢
  have hnb : N ≤ 2500000 := by omega
  have hmb : M ≤ 10000000 := by omega
  have huN : U64 N := by unfold U64; omega
  have hkeep : ∀ W, KpN w1 W → CellsAt W w.heap.size [n64 fl, n64 e0, n64 e1, n64 e2, n64 e3, n64 e4, n64 e5, n64 ti, n64 sq, n64 li, .slice bA N bc, .slice pA M pc] := fun W k => hB.keep (by omega) k (fun x => x)
  obtain ⟨w2, hw2⟩ : ∃ w2, w1.alloc (.cells #[.int .u8 6] 5) = w2 := ⟨_, rfl⟩
  have hm0 : OutM w1 w2 1 (.slice (some ⟨w1.heap.size, 0, none⟩) 1 1) [6] := by
    rw [← hw2]
    refine ⟨?_, (Kp.refl _ w1).alloc _, by simp⟩
    have := OwB.lit w1 5 [6] #[.int .u8 6] rfl (by simp)
    exact this.wide (fun k hk hh => ⟨hh.1, hk⟩)
  have b0 := (hkeep w2 hm0.kp).at_ 0 rfl
  have HH := Lib.hid (And.intro hw1 (And.intro k1 (And.intro hkeep (And.intro hz1 (And.intro hkE2 hw2)))))
  have HB := Lib.hid (And.intro hN (And.intro hb (And.intro hda hsz)))
  have HP := Lib.hid (And.intro hM hp)
  have HE := Lib.hid (And.intro he6 hue)
  have HL := Lib.hid hL
  have HUU := Lib.hid (And.intro hufl (And.intro huti (And.intro husq (And.intro huli huN))))
  have H0 := Lib.hid hm0
  clear hw1 k1 hB hz1 hkeep hb hp hN hM hda hsz hok hkE2 he6 hue hL hw2 hm0 HOK hufl huti husq huli huN
  go_enter Try.func61, Try.ntmps61
  go_wp2_with (first
    | ((with_reducible show wpList _ _ _ _ _ (World.alloc w _)); rw [HH.out.1])
    | ((with_reducible show wpList _ _ _ _ _ (World.alloc w1 _)); rw [HH.out.2.2.2.2.2])
    | fail)
  refine (digits_c fl _ HUU.out.1).mono ?_
  rintro e wa1 ⟨ua1, rfl, oa1, ka1⟩
  obtain ⟨vb1, wb1, rb1, mb1⟩ := H0.out.app ka1 oa1.readsB 10 (sd10 HUU.out.1) (by omega)
  have HM1 := Lib.hid mb1
  clear oa1 ka1 mb1
  go_wp2_with (first | (at_builtin; refine app_op rb1 rfl rfl ?_) | fail)
  clear b0
  go_loopw [3, 4] (fun v i wr => ∃ q : Nat, q ≤ 6 ∧ i = .int .i64 q ∧ OutM w1 wr (11 + 10 * q) v (([6] ++ sd fl) ++ ((es.take q).map sd).flatten)) (fun _ i _ => 6 - (intOf i).toNat)
  case atStart => exact ⟨0, Nat.zero_le _, rfl, by simpa using HM1.out⟩
  case round =>
    obtain ⟨q, hq, rfl, hm⟩ := hrel
    have hz0 := hm.kp.size
    by_cases hlt : q < 6
    · have hql : q < es.length := by rw [HE.out.1]; exact hlt
      have c := HH.out.2.2.2.2.1 _ hm.kp q hql
      have hue := HE.out.2 es[q] (List.getElem_mem hql)
      have hnx := flat_next es q hql ([6] ++ sd fl)
      generalize es[q] = z at *
      have HX := Lib.hid (And.intro hnx hue)
      have HM := Lib.hid hm
      generalize (([6] ++ sd fl) ++ ((es.take q).map sd).flatten) = ys at *
      clear hm hnx hue
      go_wp2_with fail
      refine (digits_c z _ HX.out.2).mono ?_
      rintro e wa2 ⟨ua2, rfl, oa2, ka2⟩
      obtain ⟨vb2, wb2, rb2, mb2⟩ := HM.out.app ka2 oa2.readsB 10 (sd10 HX.out.2) (by omega)
      have HM2 := Lib.hid mb2
      clear oa2 ka2 mb2
      go_wp2_with (first | (at_builtin; refine app_op rb2 rfl rfl ?_) | fail)
      go_roundw
      case rel => exact ⟨q + 1, by omega, by go_num, by rw [HX.out.1, show 11 + 10 * (q + 1) = 11 + 10 * q + 10 by omega]; exact HM2.out⟩
      case measure => exact meas_up hlt
    · obtain rfl : q = 6 := by omega
      rw [show ((6 : Nat) : Int) = 6 from rfl]
      rw [List.take_of_length_le (by rw [HE.out.1]; omega)] at hm
      have b7 := (HH.out.2.2.1 _ hm.kp).at_ 7 rfl
      have HM := Lib.hid hm
      generalize (es.take 6) = tk6 at *
      generalize hgs : (([6] ++ sd fl) ++ (es.map sd).flatten) = ys at *
      have HGS := Lib.hid hgs
      clear hm hgs
      go_wp2_with fail
      refine (digits_c ti _ HUU.out.2.1).mono ?_
      rintro e wa3 ⟨ua3, rfl, oa3, ka3⟩
      obtain ⟨vb3, wb3, rb3, mb3⟩ := HM.out.app ka3 oa3.readsB 10 (sd10 HUU.out.2.1) (by omega)
      have HM3 := Lib.hid mb3
      clear oa3 ka3 mb3
      have b8 := (HH.out.2.2.1 wb3 HM3.out.kp).at_ 8 rfl
      go_wp2_with (first | (at_builtin; refine app_op rb3 rfl rfl ?_) | fail)
      refine (digits_c sq _ HUU.out.2.2.1).mono ?_
      rintro e wa4 ⟨ua4, rfl, oa4, ka4⟩
      obtain ⟨vb4, wb4, rb4, mb4⟩ := HM3.out.app ka4 oa4.readsB 10 (sd10 HUU.out.2.2.1) (by omega)
      have HM4 := Lib.hid mb4
      clear oa4 ka4 mb4
      have b9 := (HH.out.2.2.1 wb4 HM4.out.kp).at_ 9 rfl
      go_wp2_with (first | (at_builtin; refine app_op rb4 rfl rfl ?_) | fail)
      refine (digits_c li _ HUU.out.2.2.2.1).mono ?_
      rintro e wa5 ⟨ua5, rfl, oa5, ka5⟩
      obtain ⟨vb5, wb5, rb5, mb5⟩ := HM4.out.app ka5 oa5.readsB 10 (sd10 HUU.out.2.2.2.1) (by omega)
      have HM5 := Lib.hid mb5
      clear oa5 ka5 mb5
      have b10 := (HH.out.2.2.1 wb5 HM5.out.kp).at_ 10 rfl
      go_wp2_with (first | (at_builtin; refine app_op rb5 rfl rfl ?_) | fail)
      refine (digits_c N _ HUU.out.2.2.2.2).mono ?_
      rintro e wa6 ⟨ua6, rfl, oa6, ka6⟩
      obtain ⟨vb6, wb6, rb6, mb6⟩ := HM5.out.app ka6 oa6.readsB 10 (sd10 HUU.out.2.2.2.2) (by omega)
      have HM6 := Lib.hid mb6
      clear oa6 ka6 mb6
      go_wp2_with (first | (at_builtin; refine app_op rb6 rfl rfl ?_) | fail)
      clear b7 b8 b9 b10
      have HD := Lib.hid HM6.out
      generalize hhd : ((((ys ++ sd ti) ++ sd sq) ++ sd li) ++ sd N) = hd at *
      have HHD := Lib.hid hhd
      clear hhd
      go_loopw [3, 5] (fun v i wr => ∃ q : Nat, q ≤ N ∧ i = .int .i64 q ∧ OutM w1 wr (111 + 10 * ((l.take q).map blkSize).sum) v (hd ++ ((l.take q).map blkL).flatten)) (fun _ i _ => N - (intOf i).toNat)
      case atStart =>
        have := HD.out
        exact ⟨0, Nat.zero_le _, rfl, by simpa using this⟩
      case round =>
        obtain ⟨q, hq, rfl, hm⟩ := hrel
        have b10 := (HH.out.2.2.1 _ hm.kp).at_ 10 rfl
        have hts := take_sum l q
        have hss := HB.out.2.2.2
        unfold bdSize at hss
        dsimp only at hss
        by_cases hlt : q < N
        · have hql : q < l.length := by rw [HB.out.1]; exact hlt
          obtain ⟨ad, cs, rfl, -, hrow0, ⟨⟨dw, rfl, hdw⟩, hxo⟩⟩ := HB.out.2.1.row q hql
          have hda := HB.out.2.2.1 l[q] (List.getElem_mem hql)
          have hnx := flatB_next l q hql hd
          have hsx : ((l.take (q + 1)).map blkSize).sum = ((l.take q).map blkSize).sum + blkSize l[q] := by
            rw [List.take_succ_eq_append_getElem hql, List.map_append, List.sum_append]
            simp
          have hts1 := take_sum l (q + 1)
          obtain ⟨x, hx⟩ : ∃ x, l[q] = x := ⟨_, rfl⟩
          rw [hx] at hrow0 hdw hda hxo hnx hsx
          obtain ⟨xt, xn, xf, xd⟩ := x
          dsimp only at hrow0 hdw hda hxo
          obtain ⟨dA, dc, rfl, -⟩ := hdw.form
          obtain ⟨xl, hxl⟩ : ∃ x, xd.length = x := ⟨_, rfl⟩
          have hbs : blkSize ⟨xt, xn, xf, xd⟩ = xl + 4 := by rw [← hxl]; rfl
          rw [hxl] at hrow0 hdw hda
          rw [hbs] at hsx
          have hrW : ∀ W, KpN w1 W → RowAt W (ad.add (q * 4)) [n64 xt, n64 xn, n64 xf, .slice dA xl dc] := fun W k => hrow0.keepN (HH.out.2.1.thenN k)
          have c0 := (hrW _ hm.kp).c0
          generalize ((l.take q).map blkSize).sum = bs at *
          obtain ⟨bs2, hb2⟩ : ∃ z, ((l.take (q + 1)).map blkSize).sum = z := ⟨_, rfl⟩
          rw [hb2] at hsx hts1
          have HB2 := Lib.hid hb2
          clear hb2
          generalize (l.map blkSize).sum = bs3 at *
          generalize (hd ++ ((l.take q).map blkL).flatten) = ys at *
          have HX := Lib.hid (And.intro hnx (And.intro hxo (And.intro hrW (And.intro (hdw.keepN HH.out.2.1) (And.intro hxl hsx)))))
          have HM := Lib.hid hm
          have hbs4 : bs ≤ 10000000 := by omega
          have hbs5 : xl ≤ 10000000 := by omega
          clear hrow0 hdw hda hxo hnx hx hm hrW hxl hsx hbs hts hss hts1
          go_wp2_with fail
          refine (digits_c xt _ HX.out.2.1.1).mono ?_
          rintro e wa7 ⟨ua7, rfl, oa7, ka7⟩
          obtain ⟨vb7, wb7, rb7, mb7⟩ := HM.out.app ka7 oa7.readsB 10 (sd10 HX.out.2.1.1) (by omega)
          have HM7 := Lib.hid mb7
          clear oa7 ka7 mb7
          have b10 := (HH.out.2.2.1 wb7 HM7.out.kp).at_ 10 rfl
          have c1 := (HX.out.2.2.1 wb7 HM7.out.kp).fld 0 rfl
          go_wp2_with (first | (at_builtin; refine app_op rb7 rfl rfl ?_) | fail)
          refine (digits_c xn _ HX.out.2.1.2.1).mono ?_
          rintro e wa8 ⟨ua8, rfl, oa8, ka8⟩
          obtain ⟨vb8, wb8, rb8, mb8⟩ := HM7.out.app ka8 oa8.readsB 10 (sd10 HX.out.2.1.2.1) (by omega)
          have HM8 := Lib.hid mb8
          clear oa8 ka8 mb8
          have b10 := (HH.out.2.2.1 wb8 HM8.out.kp).at_ 10 rfl
          have c2 := (HX.out.2.2.1 wb8 HM8.out.kp).fld 1 rfl
          go_wp2_with (first | (at_builtin; refine app_op rb8 rfl rfl ?_) | fail)
          refine (digits_c xf _ HX.out.2.1.2.2).mono ?_
          rintro e wa9 ⟨ua9, rfl, oa9, ka9⟩
          obtain ⟨vb9, wb9, rb9, mb9⟩ := HM8.out.app ka9 oa9.readsB 10 (sd10 HX.out.2.1.2.2) (by omega)
          have HM9 := Lib.hid mb9
          clear oa9 ka9 mb9
          have b10 := (HH.out.2.2.1 wb9 HM9.out.kp).at_ 10 rfl
          have c3' := (HX.out.2.2.1 wb9 HM9.out.kp).fld 2 rfl
          go_wp2_with (first | (at_builtin; refine app_op rb9 rfl rfl ?_) | fail)
          refine (refBytes_c HM9.out.own.readsB (HX.out.2.2.2.1.keepN HM9.out.kp) (by have h1 := HM9.out.le; have h2 := HX.out.2.2.2.2.1; omega)).mono ?_
          rintro e wc ⟨uc, rfl, oc, kc⟩
          have hm9 := HM9.out.got (C := 111 + 10 * bs2) oc kc (by
            have h1 := HM9.out.le
            have h2 := lb_length xd (by have := HX.out.2.2.2.2.1; omega)
            have h3 := HX.out.2.2.2.2.1
            have h4 := HX.out.2.2.2.2.2
            rw [List.length_append]
            omega)
          have hfin : (((ys ++ sd xt) ++ sd xn) ++ sd xf) ++ lb xd = ys ++ blkL ⟨xt, xn, xf, xd⟩ := by simp [blkL, List.append_assoc]
          rw [hfin, ← HX.out.1] at hm9
          have HF := Lib.hid hm9
          clear hm9 oc kc hfin
          go_wp2_with fail
          go_roundw
          case rel => exact ⟨q + 1, by omega, by go_num, by rw [HB2.out]; exact HF.out⟩
          case measure => exact meas_up hlt
        · obtain rfl : q = N := by omega
          rw [List.take_of_length_le (by rw [HB.out.1]; omega)] at hm
          have b11 := (HH.out.2.2.1 _ hm.kp).at_ 11 rfl
          have HM := Lib.hid hm
          generalize (l.map blkSize).sum = bs3 at *
          have hbs4 : bs3 ≤ 10000000 := by omega
          generalize hys : (hd ++ (l.map blkL).flatten) = ys at *
          have HY := Lib.hid hys
          clear hm hys hts hss
          go_wp2_with fail
          refine (refBytes_c HM.out.own.readsB (HP.out.2.keepN (HH.out.2.1.thenN HM.out.kp)) (by have h1 := HM.out.le; have h2 := HP.out.1; omega)).mono ?_
          rintro e wc ⟨uc, rfl, oc, kc⟩
          have hm9 := HM.out.got (C := (ys ++ lb pl).length) oc kc (Nat.le_refl _)
          have hfin : ys ++ lb pl = LL := by rw [HL.out, ← HY.out, ← HHD.out, ← HGS.out]
          rw [hfin] at hm9
          have HF := Lib.hid hm9
          clear hm9 oc kc hfin
          go_wp2_with fail
          go_ret
          exact ⟨_, rfl, HF.out.own.wide (fun i hi hh => ⟨by have := hh.1; have := HH.out.2.2.2.1; omega, hi⟩), HH.out.2.1.thenN HF.out.kp⟩
set_option maxHeartbeats 3200000 in
theorem rvalid_c {w : World} {bv pv : Value} {b : Bdl} (h : RdBd w bv pv b) (hsz : bdSize b ≤ 10000000) : Calls Try.prog 28 #[bdV b bv pv] w fun e w' => e = .returned (.int .i64 (valE b)) ∧ KpN w w' := by
  obtain ⟨bA, bc, rfl, -⟩ := h.bl.form
  obtain ⟨pA, pc, rfl, -⟩ := h.pl.form
  have hlb := laidB_len h hsz
  obtain ⟨w1, hw1⟩ : ∃ w1, w.alloc (.cells #[n64 b.fl, n64 b.e0, n64 b.e1, n64 b.e2, n64 b.e3, n64 b.e4, n64 b.e5, n64 b.ti, n64 b.sq, n64 b.li, .slice bA b.bl.length bc, .slice pA b.pl.length pc] 29) = w1 := ⟨_, rfl⟩
  have k1 : KpN w w1 := by rw [← hw1]; exact (Kp.refl _ w).alloc _
  have hB : CellsAt w1 w.heap.size [n64 b.fl, n64 b.e0, n64 b.e1, n64 b.e2, n64 b.e3, n64 b.e4, n64 b.e5, n64 b.ti, n64 b.sq, n64 b.li, .slice bA b.bl.length bc, .slice pA b.pl.length pc] := by rw [← hw1]; exact CellsAt.new w [n64 b.fl, n64 b.e0, n64 b.e1, n64 b.e2, n64 b.e3, n64 b.e4, n64 b.e5, n64 b.ti, n64 b.sq, n64 b.li, .slice bA b.bl.length bc, .slice pA b.pl.length pc] 29
  have hz1 : w1.heap.size = w.heap.size + 1 := by rw [← hw1]; simp
  have h1 := h.keepN k1
  have hg := rgood_c h1 hsz
  have hv : valE b = if good b then (if 1024 < (laid b).length then 81 else 0) else 20 := rfl
  obtain ⟨V, hV⟩ : ∃ V, valE b = V := ⟨_, rfl⟩
  rw [hV] at hv ⊢
  obtain ⟨G, hG⟩ : ∃ G, good b = G := ⟨_, rfl⟩
  rw [hG] at hg hv
  have hld1 := rbd_load w1 w.heap.size hB
  have HH := Lib.hid (And.intro hw1 (And.intro k1 (And.intro hB (And.intro hz1 hld1))))
  have HV := Lib.hid hv
  have HR := Lib.hid (And.intro h1 hsz)
  have HLB := Lib.hid hlb
  clear hw1 k1 hB hz1 hld1 hv h1 hV hG h hsz hlb
  go_enter Try.func28, Try.ntmps28
  go_wp2_with (first
    | ((with_reducible show wpList _ _ _ _ _ (World.alloc w _)); rw [HH.out.1])
    | ((with_reducible show wpList _ _ _ (Oper.mk _ (Op.load 29 _) _ _ _ _ :: _) _ _); refine wpl_val rfl (run_load_opv HH.out.2.2.2.2 rfl) ?_)
    | fail)
  refine hg.mono ?_
  rintro e w2 ⟨rfl, k2⟩
  clear hg
  have hB2 := HH.out.2.2.1.keep (by have := HH.out.2.2.2.1; omega) k2 (fun x => x)
  have hld2 := rbd_load w2 w.heap.size hB2
  have hl := rbytes_c (HR.out.1.keepN k2) HR.out.2
  have H2 := Lib.hid (And.intro hld2 (HH.out.2.1.thenN k2))
  clear hB2 hld2 k2
  rcases G with _ | _
  · have hV := HV.out
    rw [if_neg (by simp)] at hV
    have HF := Lib.hid hV
    clear hV hl
    go_wp2_with fail
    go_ret
    exact ⟨by rw [HF.out]; rfl, H2.out.2⟩
  · obtain ⟨X, hX⟩ : ∃ X, laid b = X := ⟨_, rfl⟩
    rw [hX] at hl
    have HX := Lib.hid hX
    clear hX
    go_wp2_with (first
      | ((with_reducible show wpList _ _ _ (Oper.mk _ (Op.load 29 _) _ _ _ _ :: _) _ _); refine wpl_val rfl (run_load_opv H2.out.1 rfl) ?_)
      | fail)
    refine hl.mono ?_
    rintro e w3 ⟨u, rfl, ou, k3⟩
    obtain ⟨uA, uc, rfl, -⟩ := ou.readsB.form
    have HO := Lib.hid (H2.out.2.thenN k3)
    have HV1 := HV.out
    rw [if_pos (by simp), HX.out] at HV1
    have hxb := HLB.out
    rw [HX.out] at hxb
    obtain ⟨L, hL⟩ : ∃ L, X.length = L := ⟨_, rfl⟩
    rw [hL] at HV1 hxb ⊢
    clear ou k3 hl hL
    by_cases hs : 1024 < L
    · rw [if_pos hs] at HV1
      have HF := Lib.hid HV1
      have hs' : (1024 : Int) < (L : Int) := by omega
      clear HV1 hs
      go_wp2_with fail
      go_ret
      exact ⟨by rw [HF.out]; rfl, HO.out⟩
    · rw [if_neg hs] at HV1
      have HF := Lib.hid HV1
      have hs' : decide ((1024 : Int) < (L : Int)) = false := by simp; omega
      clear HV1 hs
      go_wp2_with fail
      go_ret
      exact ⟨by rw [HF.out]; rfl, HO.out⟩
set_option maxHeartbeats 3200000 in
theorem rencode_c {w : World} {bv pv : Value} {b : Bdl} (h : RdBd w bv pv b) (hsz : bdSize b ≤ 10000000) : Calls Try.prog 27 #[bdV b bv pv] w (EncP b w) := by
  obtain ⟨bA, bc, rfl, -⟩ := h.bl.form
  obtain ⟨pA, pc, rfl, -⟩ := h.pl.form
  obtain ⟨w1, hw1⟩ : ∃ w1, w.alloc (.cells #[n64 b.fl, n64 b.e0, n64 b.e1, n64 b.e2, n64 b.e3, n64 b.e4, n64 b.e5, n64 b.ti, n64 b.sq, n64 b.li, .slice bA b.bl.length bc, .slice pA b.pl.length pc] 29) = w1 := ⟨_, rfl⟩
  have k1 : KpN w w1 := by rw [← hw1]; exact (Kp.refl _ w).alloc _
  have hB : CellsAt w1 w.heap.size [n64 b.fl, n64 b.e0, n64 b.e1, n64 b.e2, n64 b.e3, n64 b.e4, n64 b.e5, n64 b.ti, n64 b.sq, n64 b.li, .slice bA b.bl.length bc, .slice pA b.pl.length pc] := by rw [← hw1]; exact CellsAt.new w [n64 b.fl, n64 b.e0, n64 b.e1, n64 b.e2, n64 b.e3, n64 b.e4, n64 b.e5, n64 b.ti, n64 b.sq, n64 b.li, .slice bA b.bl.length bc, .slice pA b.pl.length pc] 29
  have hz1 : w1.heap.size = w.heap.size + 1 := by rw [← hw1]; simp
  have h1 := h.keepN k1
  have hg := rvalid_c h1 hsz
  have he : encB b = if valE b = 0 then laid b else [] := rfl
  obtain ⟨V, hV⟩ : ∃ V, valE b = V := ⟨_, rfl⟩
  obtain ⟨E, hE⟩ : ∃ E, encB b = E := ⟨_, rfl⟩
  unfold EncP
  rw [hV] at hg he ⊢
  rw [hE] at he ⊢
  have hld1 := rbd_load w1 w.heap.size hB
  have HH := Lib.hid (And.intro hw1 (And.intro k1 (And.intro hB (And.intro hz1 hld1))))
  have HV := Lib.hid he
  have HR := Lib.hid (And.intro h1 hsz)
  clear hw1 k1 hB hz1 hld1 he h1 hV hE h hsz
  go_enter Try.func27, Try.ntmps27
  go_wp2_with (first
    | ((with_reducible show wpList _ _ _ _ _ (World.alloc w _)); rw [HH.out.1])
    | ((with_reducible show wpList _ _ _ (Oper.mk _ (Op.load 29 _) _ _ _ _ :: _) _ _); refine wpl_val rfl (run_load_opv HH.out.2.2.2.2 rfl) ?_)
    | fail)
  refine hg.mono ?_
  rintro e w2 ⟨rfl, k2⟩
  clear hg
  have hB2 := HH.out.2.2.1.keep (by have := HH.out.2.2.2.1; omega) k2 (fun x => x)
  have hld2 := rbd_load w2 w.heap.size hB2
  have hl := rbytes_c (HR.out.1.keepN k2) HR.out.2
  have H2 := Lib.hid (And.intro hld2 (HH.out.2.1.thenN k2))
  clear hB2 hld2 k2
  by_cases hv0 : V = 0
  · subst hv0
    have hE := HV.out
    rw [if_pos (by simp)] at hE
    have HE := Lib.hid hE
    obtain ⟨X, hX⟩ : ∃ X, laid b = X := ⟨_, rfl⟩
    rw [hX] at hl HE
    clear hX hE HV
    go_wp2_with (first
      | ((with_reducible show wpList _ _ _ (Oper.mk _ (Op.load 29 _) _ _ _ _ :: _) _ _); refine wpl_val rfl (run_load_opv H2.out.1 rfl) ?_)
      | fail)
    refine hl.mono ?_
    rintro e w3 ⟨u, rfl, ou, k3⟩
    have hz3 := k3.size
    have hz0 := H2.out.2.size
    have HO := Lib.hid (And.intro (ou.wide (G := Iv w.heap.size w3.heap.size) (fun k hk hh => ⟨by have := hh.1; omega, hk⟩)) (H2.out.2.thenN k3))
    clear ou k3 hl hz3 hz0
    go_wp2_with fail
    go_ret2
    exact ⟨_, rfl, by rw [HE.out]; exact HO.out.1, HO.out.2⟩
  · have hE := HV.out
    rw [if_neg hv0] at hE
    have HE := Lib.hid hE
    have hv' : (V == 0) = false := by simp [hv0]
    have hv'' : (V != 0) = true := by simp [hv0]
    clear hE HV hl hv0
    go_wp2_with fail
    go_ret2
    exact ⟨.slice none 0 0, rfl, by rw [HE.out]; exact OwB.nil _ _ _, H2.out.2⟩
end Go.Proofs.Yteokkpmndfekoaa
