/- BundleEnds: the walk. -/
-- %lastw
import Derived.Test.YteokkpmndfekoaaIB
namespace Go.Proofs.Yteokkpmndfekoaa
open Go Go.RowKit Go.ChangeShapes Go.WideShapes Go.ChangeAt
set_option maxRecDepth 100000

set_option maxHeartbeats 25600000 in
theorem age_c {w : World} {bv pv : Value} {W : Bdl} {n a : Nat} (h : RdBd w bv pv (trB W n a)) (hsz : bdSize (trB W n a) ≤ 10000000) (ha : a ≤ mxN) : Calls Try.prog 38 #[bdV (trB W n a) bv pv] w fun e w' => e = .returned (.tuple #[n64 a, .bool true]) ∧ KpN w w' := by
  have hfb : findB (trB W n a).bl 7 = some ⟨7, 3, 0, sd a⟩ := rfl
  obtain ⟨B, hB⟩ : ∃ B, trB W n a = B := ⟨_, rfl⟩
  rw [hB] at h hsz hfb ⊢
  clear hB
  obtain ⟨bA, bc, rfl, -⟩ := h.bl.form
  obtain ⟨pA, pc, rfl, -⟩ := h.pl.form
  obtain ⟨w1, hw1⟩ : ∃ w1, w.alloc (.cells #[n64 B.fl, n64 B.e0, n64 B.e1, n64 B.e2, n64 B.e3, n64 B.e4, n64 B.e5, n64 B.ti, n64 B.sq, n64 B.li, .slice bA B.bl.length bc, .slice pA B.pl.length pc] 34) = w1 := ⟨_, rfl⟩
  have k1 : KpN w w1 := by rw [← hw1]; exact (Kp.refl _ w).alloc _
  have hx1 : CellsAt w1 w.heap.size (bdC B (.slice bA B.bl.length bc) (.slice pA B.pl.length pc)) := by rw [← hw1]; exact CellsAt.new w (bdC B (.slice bA B.bl.length bc) (.slice pA B.pl.length pc)) 34
  have hl1 := bd_load w1 w.heap.size hx1
  have hf : Calls Try.prog 14 #[bdV B (.slice bA B.bl.length bc) (.slice pA B.pl.length pc), .int .u64 7] w1 fun e w' => ∃ u, e = .returned (.tuple #[.agg #[.int .u64 7, .int .u64 3, .int .u64 0, u], .bool true]) ∧ OwB w' 5 (Iv w1.heap.size w'.heap.size) u (sd a) ∧ KpN w1 w' := by
    have := find_c (k := 7) (h.keepN k1) hsz (by unfold U64; omega)
    unfold FindP at this
    rw [hfb] at this
    exact this
  have hL := sd_len8 ha
  have hdg := digs_sd a
  have hdl := fun q => digs_le (sd a) _ q rfl
  have hdt := fun q (hq : q < (sd a).length) => digs_take hq
  rw [hdg] at hdl
  obtain ⟨xs, hxs⟩ : ∃ xs, sd a = xs := ⟨_, rfl⟩
  rw [hxs] at hf hL hdg hdl hdt
  obtain ⟨L, hLL⟩ : ∃ L, xs.length = L := ⟨_, rfl⟩
  have H1 := Lib.hid (And.intro hw1 (And.intro hl1 k1))
  have HD := Lib.hid (And.intro hdg (And.intro hdl (And.intro hdt (And.intro hLL (show L ≤ 7 by omega)))))
  unfold mxN at ha
  clear hw1 hl1 k1 hx1 h hsz hfb hxs hdg hdl hdt hLL hL
  go_enter Try.func38, Try.ntmps38
  go_wp2_with (first
    | ((with_reducible show wpList _ _ _ _ _ (World.alloc w _)); rw [H1.out.1])
    | ((with_reducible show wpList _ _ _ (Oper.mk (some 9) _ _ _ _ _ :: _) _ _); refine wpl_val rfl (run_load_opv H1.out.2.1 rfl) ?_)
    | fail)
  refine hf.mono ?_
  rintro e w2 ⟨u, rfl, ou, k2⟩
  clear hf
  obtain ⟨uA, uc, rfl, -⟩ := ou.readsB.form
  obtain ⟨w3, hw3⟩ : ∃ w3, w2.alloc (.cells #[.int .u64 7, .int .u64 3, .int .u64 0, .slice uA xs.length uc] 37) = w3 := ⟨_, rfl⟩
  have k3 : KpN w2 w3 := by rw [← hw3]; exact (Kp.refl _ w2).alloc _
  have hx3 : CellsAt w3 w2.heap.size [.int .u64 7, .int .u64 3, .int .u64 0, .slice uA xs.length uc] := by rw [← hw3]; exact CellsAt.new w2 [.int .u64 7, .int .u64 3, .int .u64 0, .slice uA xs.length uc] 37
  have hz3 : w3.heap.size = w2.heap.size + 1 := by rw [← hw3]; simp
  have hkx : ∀ W, KpN w3 W → W.cell? ⟨w2.heap.size, 3, none⟩ = some (.slice uA xs.length uc) := fun W k => (hx3.keep (by omega) k (fun x => x)).at_ 3 rfl
  have H3 := Lib.hid (And.intro hw3 (And.intro hkx (And.intro (ou.readsB.keepN k3) (H1.out.2.2.thenN (k2.thenN k3)))))
  rw [HD.out.2.2.2.1] at H3 ⊢
  clear hw3 k3 hx3 hz3 hkx ou k2
  go_wp2_with (first
    | ((with_reducible show wpList _ _ _ _ _ (World.alloc w2 _)); rw [H3.out.1])
    | fail)
  (try rw [H3.out.1])
  go_loopw [6, 7] (fun nv i wr => ∃ q : Nat, q ≤ L ∧ i = .int .i64 q ∧ nv = n64 (digs (xs.take q)) ∧ KpN w3 wr) (fun _ i _ => L - (intOf i).toNat)
  case atStart => exact ⟨0, Nat.zero_le _, rfl, by simp [digs], Kp.refl _ _⟩
  case round =>
    obtain ⟨q, hq, rfl, rfl, kr⟩ := hrel
    have c3 := H3.out.2.1 wr kr
    by_cases hlt : q < L
    · have hqx : q < xs.length := by rw [HD.out.2.2.2.1]; exact hlt
      have hd1 := HD.out.2.2.1 q hqx
      have hd2 := HD.out.2.1 (q + 1)
      obtain ⟨ad, rfl, cd⟩ := (H3.out.2.2.1.keepN kr).at_ q hqx
      obtain ⟨D, hD⟩ : ∃ D, digs (xs.take q) = D := ⟨_, rfl⟩
      obtain ⟨z, hz⟩ : ∃ z, xs[q].toNat = z := ⟨_, rfl⟩
      rw [hD, hz] at hd1
      rw [hd1] at hd2
      rw [hD]
      have cd' : wr.cell? (ad.add q) = some (.int .u8 (z : Int)) := by rw [cd]; unfold bv; rw [hz]
      have hz2 : z < 256 := by rw [← hz]; exact xs[q].toNat_lt
      have h8 : (q : Int) < 8 := by have := HD.out.2.2.2.2; omega
      have HQ := Lib.hid (And.intro hd1 (And.intro hd2 kr))
      clear hD hz hd1 hd2 cd kr hqx
      go_wp2_with fail
      refine ⟨⟨q + 1, by omega, by go_num, ?_, HQ.out.2.2⟩, meas_up hlt⟩
      have h1 := HQ.out.2.1
      have hw1 : IntKind.u64.wrap ((D : Int) * 128) = (D : Int) * 128 := by
        unfold IntKind.wrap
        simp [IntKind.bits, IntKind.signed]
        omega
      have hw2 : IntKind.u64.wrap ((D : Int) * 128 + (z : Int) % 128) = (D : Int) * 128 + (z : Int) % 128 := by
        unfold IntKind.wrap
        simp [IntKind.bits, IntKind.signed]
        omega
      rw [HQ.out.1, hw1, hw2, n64]
      congr 1
    · obtain rfl : q = L := by omega
      have hend : digs (xs.take q) = a := by rw [List.take_of_length_le (by rw [HD.out.2.2.2.1]; omega)]; exact HD.out.1
      rw [hend]
      have HK := Lib.hid (H3.out.2.2.2.thenN kr)
      clear hend kr
      go_wp2_with fail
      go_ret2
      exact ⟨rfl, HK.out⟩
theorem run_allocBd (w : World) {a : Act} {dst : Option Tmp} {ty : TypeId} {pos : String} {af : Array Edge} {gd : Option (Nat × Bool)} :
    (execOp a.eval { dst := dst, op := .alloc 34, type := ty, pos := pos, after := af, guard := gd }).run Try.prog w = .ok (.value (.pointer (some ⟨w.heap.size, 0, none⟩))) (w.alloc (.cells zeros12 34)) := by
  kernel_rfl
set_option maxHeartbeats 102400000 in
theorem ends_walk {w : World} {s : Int} {ti sq li : Nat} {v tv : Value} {xs : List UInt8} {ts : List Nat} (h : RdB w v xs) (hl : xs.length ≤ 10000000) (hts : RdU w tv ts) (htl : ts.length ≤ 10000000) (h1 : U64 ti) (h2 : U64 sq) (h3 : U64 li) :
    Calls Try.prog 11 #[frV s ti sq li v, tv] w (TrueP w) := by
  obtain ⟨xA, xc, rfl, -⟩ := h.form
  obtain ⟨tA, tc, rfl, -⟩ := hts.form
  obtain ⟨N, hN⟩ : ∃ N, ts.length = N := ⟨_, rfl⟩
  rw [hN] at hts htl ⊢
  obtain ⟨w1, hw1⟩ : ∃ w1, w.alloc (.cells #[.int .i64 s, n64 ti, n64 sq, n64 li, .slice xA xs.length xc] 47) = w1 := ⟨_, rfl⟩
  have k1 : KpN w w1 := by rw [← hw1]; exact (Kp.refl _ w).alloc _
  have hF1 : CellsAt w1 w.heap.size [.int .i64 s, n64 ti, n64 sq, n64 li, .slice xA xs.length xc] := by
    rw [← hw1]
    exact CellsAt.new w [.int .i64 s, n64 ti, n64 sq, n64 li, .slice xA xs.length xc] 47
  have hz1 : w1.heap.size = w.heap.size + 1 := by rw [← hw1]; simp
  have hlf : ∀ W, KpN w1 W → (Instr.loadAt 47 (.pointer (some ⟨w.heap.size, 0, none⟩))).run Try.prog W = .ok (frV s ti sq li (.slice xA xs.length xc)) W := fun W k => run_loadAt_rowat (P := Try.prog) (hF1.keep (by omega) k (fun x => x)).1 Try.underlying47 rfl (by kernel_rfl)
  have hlen : ∀ W, KpN w1 W → W.cell? ⟨w.heap.size, 4, none⟩ = some (.slice xA xs.length xc) := fun W k => (hF1.keep (by omega) k (fun x => x)).at_ 4 rfl
  have hsm := smallT_c w1
  have hwr : ∀ W, KpN w1 W → Calls Try.prog 19 #[frV s ti sq li (.slice xA xs.length xc), .int .u64 1, .int .u64 2, .bool false] W (WrapO s ti sq li 1 2 xs false W) := fun W k => wrapO_c (fr := 1) («to» := 2) (h.keepN (k1.thenN k)) (by omega) h1 h2 h3 (by unfold U64; omega) (by unfold U64; omega)
  have HH := Lib.hid (And.intro hw1 (And.intro hlf (And.intro k1 (And.intro h (And.intro (show xs.length ≤ 100000000 by omega) (And.intro hlen (And.intro hN (And.intro hts hz1))))))))
  have hwF : wrapF s ti sq li 1 2 xs = if fitsW s ti sq li = true then (if 512 < xs.length then 81 else 0) else 1 := by
    unfold wrapF
    by_cases hf : fitsW s ti sq li = true
    · rw [if_pos ⟨hf, by unfold maxN; omega, by unfold maxN; omega⟩, if_pos hf]
    · rw [if_neg (fun hh => hf hh.1), if_neg hf]
  have hwT := wrap_tr (s := s) (ti := ti) (sq := sq) (li := li) (fr := 1) («to» := 2) (xs := xs) (nw := false)
  obtain ⟨EF, hEF⟩ : ∃ z, wrapF s ti sq li 1 2 xs = z := ⟨_, rfl⟩
  obtain ⟨WB, hWB⟩ : ∃ z, wrapB s ti sq li 1 2 xs false = z := ⟨_, rfl⟩
  obtain ⟨WD, hWD⟩ : ∃ z, wrapD s ti sq li 1 2 xs false = z := ⟨_, rfl⟩
  unfold WrapO at hwr
  rw [hEF, hWB] at hwr
  rw [hEF] at hwF
  rw [hEF, hWB, hWD] at hwT
  have HF := Lib.hid (And.intro hwF hwT)
  have HWR := Lib.hid hwr
  obtain ⟨L, hL⟩ : ∃ L, xs.length = L := ⟨_, rfl⟩
  have HLL := Lib.hid hL
  clear hL hw1 k1 hF1 hz1 hlf hlen hwr h hl hts hN h1 h2 h3 hwF hwT hEF hWB hWD
  go_enter Try.func11, Try.ntmps11
  go_wp2_with (first
    | ((with_reducible show wpList _ _ _ _ _ (World.alloc w _)); rw [HH.out.1])
    | fail)
  (try rw [HH.out.1])
  refine hsm.mono ?_
  rintro e w2 ⟨rfl, k2⟩
  clear hsm
  have hW := HWR.out w2 k2
  have H2 := Lib.hid (And.intro (HH.out.2.1 w2 k2) k2)
  clear k2
  go_wp2_with (first
    | ((with_reducible show wpList _ _ _ (Oper.mk (some 21) _ _ _ _ _ :: _) _ _); refine wpl_val rfl (run_load_opv H2.out.1 rfl) ?_)
    | fail)
  refine hW.mono ?_
  rintro e w3 ⟨bv, pv, ls, rfl, ho, k3⟩
  clear hW
  obtain ⟨bA, bc, rfl, -⟩ := ho.rd.bl.form
  obtain ⟨pA, pc, rfl, -⟩ := ho.rd.pl.form
  obtain ⟨w4, hst, hx4, k4, hz4⟩ := bundle_put w3 WB bA pA WB.bl.length bc WB.pl.length pc
  have k14 := H2.out.2.thenN (k3.thenN k4)
  have hff := fits_c w4 s ti sq li xA xs.length xc
  have hz3 := k3.size
  have hz2 := H2.out.2.size
  have c4 := HH.out.2.2.2.2.2.1 w4 k14
  rw [HLL.out] at c4
  have H4 := Lib.hid (And.intro hst (And.intro (HH.out.2.1 w4 k14) (And.intro hx4 (And.intro (ho.keepN k4) (And.intro k14 (And.intro (show w3.heap.size < w4.heap.size by omega) (show w1.heap.size ≤ w2.heap.size ∧ w2.heap.size ≤ w3.heap.size by omega)))))))
  have HX1 := Lib.hid (show w1.heap.size ≤ w3.heap.size by omega)
  (try rw [HLL.out] at hff)
  (try rw [HLL.out] at H4)
  clear hst hx4 k4 hz4 k14 ho k3 hz3 hz2
  by_cases hfit : fitsW s ti sq li = true
  · have hE := HF.out.1
    rw [if_pos hfit, HLL.out] at hE
    by_cases h512 : 512 < L
    · have i3 : (512 : Int) < (L : Int) := by omega
      rw [if_pos h512] at hE
      subst hE
      rw [hfit] at hff
      clear hfit h512
      go_wp2_with (first
        | ((with_reducible show wpList _ _ _ (Oper.mk _ (Op.store 34 _ _) _ _ _ _ :: _) _ _); refine wpl_skip rfl (run_store_op H4.out.1 rfl rfl) ?_)
        | ((with_reducible show wpList _ _ _ (Oper.mk (some 27) _ _ _ _ _ :: _) _ _); refine wpl_val rfl (run_load_opv H4.out.2.1 rfl) ?_)
        | fail)
      refine hff.mono ?_
      rintro e w5 ⟨rfl, k5⟩
      clear c4
      have c5 := HH.out.2.2.2.2.2.1 w5 (H4.out.2.2.2.2.1.thenN k5)
      rw [HLL.out] at c5
      go_wp2_with fail
      go_ret
      exact ⟨rfl, HH.out.2.2.1.thenN (H4.out.2.2.2.2.1.thenN k5)⟩
    · rw [if_neg h512] at hE
      subst hE
      obtain ⟨hwb, hok, hs0, hs8⟩ := HF.out.2 rfl
      have hv5 : valE WB = 0 := by rw [hwb]; exact trB_val hok (by omega) (by omega)
      have HO := Lib.hid hok
      have H6 := Lib.hid (And.intro H4.out.2.2.1 (And.intro H4.out.2.2.2.1 (And.intro H4.out.2.2.2.2.1 H4.out.2.2.2.2.2.1)))
      have HB0 := Lib.hid hwb
      clear hwb hok hs0 hs8 hv5 hff hfit h512 c4
      go_wp2_with (first
        | ((with_reducible show wpList _ _ _ (Oper.mk _ (Op.store 34 _ _) _ _ _ _ :: _) _ _); refine wpl_skip rfl (run_store_op H4.out.1 rfl rfl) ?_)
        | fail)
      go_loopw [7, 8] (fun sv i wr => ∃ (q a : Nat) (bv pv : Value) (ls : List (Value × Blk)), i = .int .i64 q ∧ sv = n64 a ∧ q ≤ N ∧ a ≤ mxN ∧ CellsAt wr w3.heap.size (bdC (trB WD 0 a) bv pv) ∧ OwBd wr 37 (fun i => w1.heap.size ≤ i ∧ i ≠ w3.heap.size) bv pv (trB WD 0 a) ls ∧ KpN w1 wr ∧ w3.heap.size < wr.heap.size) (fun _ i _ => N - (intOf i).toNat)
      case atStart => exact ⟨0, 0, .slice bA WB.bl.length bc, .slice pA WB.pl.length pc, ls, rfl, rfl, Nat.zero_le _, by omega, by rw [← HB0.out]; exact H6.out.1, by rw [← HB0.out]; exact H6.out.2.1.wide (fun i _ hi => ⟨by have := hi.1; have := H4.out.2.2.2.2.2.2; omega, by have := hi.2; omega⟩), H6.out.2.2.1, H6.out.2.2.2⟩
      case round =>
        obtain ⟨q, a, bv, pv, ls, rfl, rfl, hq, ha, hx, ho, kr, hltX⟩ := hrel
        by_cases hlt : q < N
        · obtain ⟨B, hB⟩ : ∃ B, trB WD 0 a = B := ⟨_, rfl⟩
          have hage := fun t => trB_age (t := t) HO.out (n := 0) (by omega) ha
          have hv := trB_val HO.out (n := 0) (by omega) ha
          rw [hB] at hx ho hv
          rw [hB] at hage
          have hsz : bdSize B ≤ 10000000 := by have := bdSize_laid B hv; omega
          obtain ⟨bA, bc, rfl, -⟩ := ho.rd.bl.form
          obtain ⟨pA, pc, rfl, -⟩ := ho.rd.pl.form
          have hqt : q < ts.length := by rw [HH.out.2.2.2.2.2.2.1]; exact hlt
          obtain ⟨ad, rfl, hct, htu⟩ := (HH.out.2.2.2.2.2.2.2.1.keepN (HH.out.2.2.1.thenN kr)).at_ q hqt
          obtain ⟨t, ht⟩ : ∃ t, ts[q] = t := ⟨_, rfl⟩
          rw [ht] at hct htu
          have hlt' : (q : Int) < (N : Int) := by omega
          have hon := ho.wide (G := fun i => w1.heap.size ≤ i ∧ i ≠ w3.heap.size ∧ i < wr.heap.size) (fun i hi hh => ⟨hh.1, hh.2, hi⟩)
          have HP := Lib.hid (And.intro hx (And.intro hon (And.intro kr (And.intro hltX (And.intro hct (And.intro htu (And.intro (hage t) (And.intro hsz (And.intro ha hB)))))))))
          clear hage hv hsz hqt ht hB ha hx ho hon kr hltX hct htu
          go_wp2_with fail
          refine rg_begin 10 (fun i => wr.heap.size ≤ i) (by kernel_rfl) (fun w9 d9 => ?_)
          have hz9 := d9.size
          have hltX := HP.out.2.2.2.1
          have hx9 := HP.out.1.keep hltX d9 (fun x => x)
          have ct9 := (d9.cell (World.block_lt_of_cell? wr _ HP.out.2.2.2.2.1) (fun x => x)).trans HP.out.2.2.2.2.1
          have hob9 := HP.out.2.1.keepN d9
          have k19 := HP.out.2.2.1.thenN d9
          obtain ⟨⟨C2, E2⟩, hCE2⟩ : ∃ z, chV B (fstK B.bl 7) (ageBad t) (ageNew t) = z := ⟨_, rfl⟩
          have hAg : ∀ W, KpN w9 W → Calls Try.prog 34 #[bdV B (.slice bA B.bl.length bc) (.slice pA B.pl.length pc), n64 t] W fun e w' => ∃ bv pv ls, e = .returned (.tuple #[bdV C2 bv pv, .int .i64 E2]) ∧ OwBd w' 37 (Iv W.heap.size w'.heap.size) bv pv C2 ls ∧ KpN W w' := fun W k => by
            have := aging_c HP.out.2.2.2.2.2.1 (hob9.rd.keepN k) HP.out.2.2.2.2.2.2.2.1
            unfold ChP at this
            rw [hCE2] at this
            exact this
          refine rg_read 0 (d := (some 43)) (v := bdV B (.slice bA B.bl.length bc) (.slice pA B.pl.length pc)) (by decide) (by kernel_rfl) (by kernel_rfl) rfl rfl (by kernel_rfl) (by kernel_rfl) (by kernel_rfl) (fun _ _ _ h => h) rfl (fun W hW => by exact run_load_op (hx9.keep (by omega) hW (fun x => by omega)).1 rfl Try.underlying34 rfl (by kernel_rfl)) ?_
          conv => arg 8; simp only [Act.put, List.setIfInBounds_toArray, List.set_cons_zero, List.set_cons_succ]
          refine rg_take 1 (d := (some 44)) (v := .slice (some ad) N tc) (by decide) rfl rfl (by kernel_rfl) (by kernel_rfl) (by kernel_rfl) (fun _ _ _ h => h) rfl (fun W => rfl) ?_
          conv => arg 8; simp only [Act.put, List.setIfInBounds_toArray, List.set_cons_zero, List.set_cons_succ]
          refine rg_take 2 (d := (some 45)) (v := .int .i64 (q : Int)) (by decide) rfl rfl (by kernel_rfl) (by kernel_rfl) (by kernel_rfl) (fun _ _ _ h => h) rfl (fun W => rfl) ?_
          conv => arg 8; simp only [Act.put, List.setIfInBounds_toArray, List.set_cons_zero, List.set_cons_succ]
          refine rg_take 3 (d := (some 46)) (v := .pointer (some (ad.add q))) (by decide) rfl rfl (by kernel_rfl) (by kernel_rfl) (by kernel_rfl) (fun _ _ _ h => h) rfl (fun W => by go_simp) ?_
          conv => arg 8; simp only [Act.put, List.setIfInBounds_toArray, List.set_cons_zero, List.set_cons_succ]
          refine rg_read 4 (d := (some 47)) (v := n64 t) (by decide) (by kernel_rfl) (by kernel_rfl) rfl rfl (by kernel_rfl) (by kernel_rfl) (by kernel_rfl) (fun _ _ _ h => h) rfl (fun W hW => by have hc := (fun W hW => (hW.cell (World.block_lt_of_cell? w9 _ ct9) (fun x => by have := World.block_lt_of_cell? wr _ HP.out.2.2.2.2.1; omega)).trans ct9) W hW; go_simp) ?_
          conv => arg 8; simp only [Act.put, List.setIfInBounds_toArray, List.set_cons_zero, List.set_cons_succ]
          refine rg_callOr 5 9 (d := (some 48)) (de := (some 9)) (w2 := w9.alloc (.cells zeros12 34)) (u := .pointer (some ⟨w9.heap.size, 0, none⟩)) (by kernel_rfl) (hAg w9 (Kp.refl _ _)) rfl rfl rfl rfl (by kernel_rfl) rfl rfl rfl (run_allocBd w9) ((Kp.refl _ w9).alloc _) ?_ ?_
          · intro e w'0 hR0
            revert hR0
            revert w'0
            revert e
            rintro e wx ⟨gv, hv, l9, rfl, ho9, kx⟩
            refine ⟨_, rfl, kx.mono (fun _ _ x => x.elim), ?_⟩
            conv => arg 8; simp only [Act.put, List.setIfInBounds_toArray, List.set_cons_zero, List.set_cons_succ]
            obtain ⟨gA, gc, rfl, -⟩ := ho9.rd.bl.form
            obtain ⟨hA, hc, rfl, -⟩ := ho9.rd.pl.form
            have hzx := kx.size
            obtain ⟨wz, hst, hyz, kz, hzz⟩ := bundle_put wx C2 gA hA C2.bl.length gc C2.pl.length hc
            have hB : ∃ W Yp, wz = W ∧ wx.heap.size = Yp ∧ CellsAt W Yp (bdC C2 (.slice gA C2.bl.length gc) (.slice hA C2.pl.length hc)) ∧ OwBd W 37 (fun i => w1.heap.size ≤ i ∧ i ≠ w3.heap.size ∧ i ≠ Yp) (.slice gA C2.bl.length gc) (.slice hA C2.pl.length hc) C2 l9 ∧ OwBd W 37 (fun i => w1.heap.size ≤ i ∧ i ≠ w3.heap.size) (.slice bA B.bl.length bc) (.slice pA B.pl.length pc) B ls ∧ CellsAt W w3.heap.size (bdC B (.slice bA B.bl.length bc) (.slice pA B.pl.length pc)) ∧ KpN w1 W ∧ KpN wr W ∧ w3.heap.size < W.heap.size ∧ Yp < W.heap.size ∧ w3.heap.size ≠ Yp :=
              ⟨wz, wx.heap.size, rfl, rfl, hyz, (ho9.keepN kz).wide (fun i _ hi => ⟨by have := hi.1; have := HX1.out; omega, by have := hi.1; omega, by have := hi.2; omega⟩), ((hob9.keepN (kx.thenN kz)).wide (fun i _ hi => ⟨hi.1, hi.2.1⟩)), hx9.keep (by omega) (kx.thenN kz) (fun x => x), k19.thenN (kx.thenN kz), d9.thenN (kx.thenN kz), by omega, by omega, by omega⟩
            refine rg_take 6 (d := (some 42)) (v := .tuple #[bdV C2 (.slice gA C2.bl.length gc) (.slice hA C2.pl.length hc), .int .i64 E2]) (by decide) rfl rfl (by kernel_rfl) (by kernel_rfl) (by kernel_rfl) (fun _ _ _ h => h) rfl (fun W => rfl) ?_
            conv => arg 8; simp only [Act.put, List.setIfInBounds_toArray, List.set_cons_zero, List.set_cons_succ]
            refine rg_take 7 (d := (some 49)) (v := bdV C2 (.slice gA C2.bl.length gc) (.slice hA C2.pl.length hc)) (by decide) rfl rfl (by kernel_rfl) (by kernel_rfl) (by kernel_rfl) (fun _ _ _ h => h) rfl (fun W => by go_simp) ?_
            conv => arg 8; simp only [Act.put, List.setIfInBounds_toArray, List.set_cons_zero, List.set_cons_succ]
            refine rg_take 8 (d := (some 50)) (v := .int .i64 E2) (by decide) rfl rfl (by kernel_rfl) (by kernel_rfl) (by kernel_rfl) (fun _ _ _ h => h) rfl (fun W => by go_simp) ?_
            conv => arg 8; simp only [Act.put, List.setIfInBounds_toArray, List.set_cons_zero, List.set_cons_succ]
            refine rg_onlyW 9 (w' := wx.alloc (.cells zeros12 34)) (d := (some 9)) (v := .pointer (some ⟨wx.heap.size, 0, none⟩)) rfl rfl (by kernel_rfl) rfl (run_allocBd wx) ((Kp.refl _ wx).alloc _) ?_
            conv => arg 8; simp only [Act.put, List.setIfInBounds_toArray, List.set_cons_zero, List.set_cons_succ]
            refine rg_lastS (G := fun _ => True) (wz) (d := none) rfl rfl (by kernel_rfl) rfl (run_store_op hst rfl rfl) (by kernel_rfl) ?_
            conv => arg 8; simp only [Act.put, List.setIfInBounds_toArray, List.set_cons_zero, List.set_cons_succ]
            refine rg_take 11 (d := (some 10)) (v := .int .i64 E2) (by decide) rfl rfl (by kernel_rfl) (by kernel_rfl) (by kernel_rfl) (fun _ _ _ h => h) rfl (fun W => rfl) ?_
            conv => arg 8; simp only [Act.put, List.setIfInBounds_toArray, List.set_cons_zero, List.set_cons_succ]
            refine rg_done (by kernel_rfl) ?_
            obtain ⟨W, Yp, hWe, hge, hyW, hoC, hoB, hXW, k1W, krW, hXl, hYl, hXY⟩ := hB
            rw [hWe, hge]
            have hage := HP.out.2.2.2.2.2.2.1
            rw [hCE2] at hage
            have ctW := (krW.cell (World.block_lt_of_cell? wr _ HP.out.2.2.2.2.1) (fun x => x)).trans HP.out.2.2.2.2.1
            have ha := HP.out.2.2.2.2.2.2.2.2.1
            have htu := HP.out.2.2.2.2.2.1
            have hlyW := bd_load W Yp hyW
            clear hge hWe hAg hCE2 hob9 k19 hx9 ct9 hz9 hltX d9 krW
            have ha64 : (a : Int) ≤ 281474976710655 := by unfold mxN at ha; omega
            have hw1 : IntKind.u64.wrap (281474976710655 - (a : Int)) = 281474976710655 - (a : Int) := by
              unfold IntKind.wrap
              simp [IntKind.bits, IntKind.signed]
              omega
            by_cases hb : mxN - a < t
            · rw [if_pos hb] at hage
              injection hage with e1 e2
              subst e2
              have hle : decide ((t : Int) ≤ 281474976710655 - (a : Int)) = false := by unfold mxN at hb; simp; omega
              have hlx := bd_load W w3.heap.size hXW
              have hga := age_c (W := WD) (n := 0) (a := a) (w := W) (bv := .slice bA B.bl.length bc) (pv := .slice pA B.pl.length pc) (by rw [HP.out.2.2.2.2.2.2.2.2.2]; exact hoB.rd) (by rw [HP.out.2.2.2.2.2.2.2.2.2]; exact HP.out.2.2.2.2.2.2.2.1) ha
              rw [HP.out.2.2.2.2.2.2.2.2.2] at hga
              have HW := Lib.hid (And.intro hlx (And.intro hXW (And.intro hoB (And.intro k1W hXl))))
              clear hlx hXW hoB k1W hXl hyW hoC hYl hXY hb e1 ha hlyW htu
              go_wp2_with (first
                | ((with_reducible show wpList _ _ _ (Oper.mk (some 73) _ _ _ _ _ :: _) _ _); refine wpl_val rfl (run_load_opv HW.out.1 rfl) ?_)
                | fail)
              refine hga.mono ?_
              rintro e wg ⟨rfl, kg⟩
              have HG := Lib.hid kg
              clear kg hga
              go_wp2_with fail
              go_roundw
              case rel => exact ⟨q + 1, a, .slice bA B.bl.length bc, .slice pA B.pl.length pc, ls, by go_num, rfl, by omega, HP.out.2.2.2.2.2.2.2.2.1, by rw [HP.out.2.2.2.2.2.2.2.2.2]; exact HW.out.2.1.keep HW.out.2.2.2.2 HG.out (fun x => x), by rw [HP.out.2.2.2.2.2.2.2.2.2]; exact HW.out.2.2.1.keepN HG.out, HW.out.2.2.2.1.thenN HG.out, by have := HG.out.size; have := HW.out.2.2.2.2; omega⟩
              case measure => exact meas_up hlt
            · rw [if_neg hb] at hage
              injection hage with e1 e2
              subst e2
              have hle : decide ((t : Int) ≤ 281474976710655 - (a : Int)) = true := by unfold mxN at hb; simp; omega
              have hat : a + t ≤ mxN := by omega
              have hw2 : IntKind.u64.wrap ((a : Int) + (t : Int)) = (a : Int) + (t : Int) := by
                unfold mxN at hat
                unfold IntKind.wrap
                simp [IntKind.bits, IntKind.signed]
                omega
              obtain ⟨wy, hst, hXy, ky, hzy⟩ := box_store hXW 34 #[n64 C2.fl, n64 C2.e0, n64 C2.e1, n64 C2.e2, n64 C2.e3, n64 C2.e4, n64 C2.e5, n64 C2.ti, n64 C2.sq, n64 C2.li, .slice gA C2.bl.length gc, .slice hA C2.pl.length hc] rfl (by kernel_rfl) (by kernel_rfl)
              have hoy := (hoC.keep ky (fun i hi e => hi.2.1 e)).wide (G := fun i => w1.heap.size ≤ i ∧ i ≠ w3.heap.size) (fun i _ hi => ⟨hi.1, hi.2.1⟩)
              have k1y := k1W.fresh ky (fun i e => by have := HX1.out; omega)
              have hlx := bd_load wy w3.heap.size hXy
              have hv2 := trB_val HO.out (n := 0) (by omega) hat
              have hga := age_c (W := WD) (n := 0) (a := a + t) (w := wy) (bv := .slice gA C2.bl.length gc) (pv := .slice hA C2.pl.length hc) (by rw [← e1]; exact hoy.rd) (by have := bdSize_laid _ hv2; omega) hat
              rw [← e1, n64, show ((a + t : Nat) : Int) = (a : Int) + (t : Int) by omega] at hga
              have HW := Lib.hid (And.intro hlx (And.intro hXy (And.intro hoy (And.intro k1y (show w3.heap.size < wy.heap.size by omega)))))
              have HS := Lib.hid (And.intro hst hlyW)
              have HC := Lib.hid (And.intro e1 hat)
              clear hlx hXW hoB k1W hXl hyW hoC hYl hXY hb e1 ha hlyW htu hst hXy ky hzy hoy k1y hv2 hat
              go_wp2_with (first
                | ((with_reducible show wpList _ _ _ (Oper.mk (some 69) _ _ _ _ _ :: _) _ _); refine wpl_val rfl (run_load_opv HS.out.2 rfl) ?_)
                | ((with_reducible show wpList _ _ _ (Oper.mk _ (Op.store 34 _ _) _ _ _ _ :: _) _ _); refine wpl_skip rfl (run_store_op HS.out.1 rfl rfl) ?_)
                | ((with_reducible show wpList _ _ _ (Oper.mk (some 73) _ _ _ _ _ :: _) _ _); refine wpl_val rfl (run_load_opv HW.out.1 rfl) ?_)
                | fail)
              refine hga.mono ?_
              rintro e wg ⟨rfl, kg⟩
              have HG := Lib.hid kg
              clear kg hga
              go_wp2_with fail
              go_roundw
              case rel => exact ⟨q + 1, a + t, .slice gA C2.bl.length gc, .slice hA C2.pl.length hc, l9, by go_num, by go_num, by omega, HC.out.2, by rw [← HC.out.1]; exact HW.out.2.1.keep HW.out.2.2.2.2 HG.out (fun x => x), by rw [← HC.out.1]; exact HW.out.2.2.1.keepN HG.out, HW.out.2.2.2.1.thenN HG.out, by have := HG.out.size; have := HW.out.2.2.2.2; omega⟩
              case measure => exact meas_up hlt
          · conv => arg 8; simp only [Act.put, List.setIfInBounds_toArray, List.set_cons_zero, List.set_cons_succ]
            have kal : KpN w9 (w9.alloc (.cells zeros12 34)) := (Kp.refl _ w9).alloc _
            have hca : CellsAt (w9.alloc (.cells zeros12 34)) w9.heap.size zeros12.toList := CellsAt.new w9 zeros12.toList 34
            have hza : (w9.alloc (.cells zeros12 34)).heap.size = w9.heap.size + 1 := by simp
            refine rg_call 5 (d := (some 48)) (by kernel_rfl) (hAg _ kal) rfl rfl (by kernel_rfl) rfl rfl ?_
            rintro e wx ⟨gv, hv, l9, rfl, ho9, kx⟩
            refine ⟨_, rfl, kx.mono (fun _ _ x => x.elim), ?_⟩
            conv => arg 8; simp only [Act.put, List.setIfInBounds_toArray, List.set_cons_zero, List.set_cons_succ]
            obtain ⟨gA, gc, rfl, -⟩ := ho9.rd.bl.form
            obtain ⟨hA, hc, rfl, -⟩ := ho9.rd.pl.form
            have hzx := kx.size
            obtain ⟨wz, hst, hyz, kz, hzz⟩ := box_store (hca.keep (by omega) kx (fun x => x)) 34 #[n64 C2.fl, n64 C2.e0, n64 C2.e1, n64 C2.e2, n64 C2.e3, n64 C2.e4, n64 C2.e5, n64 C2.ti, n64 C2.sq, n64 C2.li, .slice gA C2.bl.length gc, .slice hA C2.pl.length hc] rfl (by kernel_rfl) (by kernel_rfl)
            have kxz := kal.thenN kx
            have hB : ∃ W Yp, wz = W ∧ w9.heap.size = Yp ∧ CellsAt W Yp (bdC C2 (.slice gA C2.bl.length gc) (.slice hA C2.pl.length hc)) ∧ OwBd W 37 (fun i => w1.heap.size ≤ i ∧ i ≠ w3.heap.size ∧ i ≠ Yp) (.slice gA C2.bl.length gc) (.slice hA C2.pl.length hc) C2 l9 ∧ OwBd W 37 (fun i => w1.heap.size ≤ i ∧ i ≠ w3.heap.size) (.slice bA B.bl.length bc) (.slice pA B.pl.length pc) B ls ∧ CellsAt W w3.heap.size (bdC B (.slice bA B.bl.length bc) (.slice pA B.pl.length pc)) ∧ KpN w1 W ∧ KpN wr W ∧ w3.heap.size < W.heap.size ∧ Yp < W.heap.size ∧ w3.heap.size ≠ Yp :=
              ⟨wz, w9.heap.size, rfl, rfl, hyz, (ho9.keep kz (fun i hi e => by have := hi.1; omega)).wide (fun i _ hi => ⟨by have := hi.1; have := HX1.out; omega, by have := hi.1; omega, by have := hi.1; omega⟩), (((hob9.keepN kxz).keep kz (fun i hi e => by have := hi.2.2; omega)).wide (fun i _ hi => ⟨hi.1, hi.2.1⟩)), (hx9.keep (by omega) kxz (fun x => x)).keep (by omega) kz (fun e => by omega), (k19.thenN kxz).fresh kz (fun i e => by have := HX1.out; omega), (d9.thenN kxz).fresh kz (fun i e => by omega), by omega, by omega, by omega⟩
            refine rg_take 6 (d := (some 42)) (v := .tuple #[bdV C2 (.slice gA C2.bl.length gc) (.slice hA C2.pl.length hc), .int .i64 E2]) (by decide) rfl rfl (by kernel_rfl) (by kernel_rfl) (by kernel_rfl) (fun _ _ _ h => h) rfl (fun W => rfl) ?_
            conv => arg 8; simp only [Act.put, List.setIfInBounds_toArray, List.set_cons_zero, List.set_cons_succ]
            refine rg_take 7 (d := (some 49)) (v := bdV C2 (.slice gA C2.bl.length gc) (.slice hA C2.pl.length hc)) (by decide) rfl rfl (by kernel_rfl) (by kernel_rfl) (by kernel_rfl) (fun _ _ _ h => h) rfl (fun W => by go_simp) ?_
            conv => arg 8; simp only [Act.put, List.setIfInBounds_toArray, List.set_cons_zero, List.set_cons_succ]
            refine rg_take 8 (d := (some 50)) (v := .int .i64 E2) (by decide) rfl rfl (by kernel_rfl) (by kernel_rfl) (by kernel_rfl) (fun _ _ _ h => h) rfl (fun W => by go_simp) ?_
            conv => arg 8; simp only [Act.put, List.setIfInBounds_toArray, List.set_cons_zero, List.set_cons_succ]
            refine rg_lastS (G := fun _ => True) (wz) (d := none) rfl rfl (by kernel_rfl) rfl (run_store_op hst rfl rfl) (by kernel_rfl) ?_
            conv => arg 8; simp only [Act.put, List.setIfInBounds_toArray, List.set_cons_zero, List.set_cons_succ]
            refine rg_take 11 (d := (some 10)) (v := .int .i64 E2) (by decide) rfl rfl (by kernel_rfl) (by kernel_rfl) (by kernel_rfl) (fun _ _ _ h => h) rfl (fun W => rfl) ?_
            conv => arg 8; simp only [Act.put, List.setIfInBounds_toArray, List.set_cons_zero, List.set_cons_succ]
            refine rg_done (by kernel_rfl) ?_
            obtain ⟨W, Yp, hWe, hge, hyW, hoC, hoB, hXW, k1W, krW, hXl, hYl, hXY⟩ := hB
            rw [hWe, hge]
            have hage := HP.out.2.2.2.2.2.2.1
            rw [hCE2] at hage
            have ctW := (krW.cell (World.block_lt_of_cell? wr _ HP.out.2.2.2.2.1) (fun x => x)).trans HP.out.2.2.2.2.1
            have ha := HP.out.2.2.2.2.2.2.2.2.1
            have htu := HP.out.2.2.2.2.2.1
            have hlyW := bd_load W Yp hyW
            clear hge hWe hAg hCE2 hob9 k19 hx9 ct9 hz9 hltX d9 krW
            have ha64 : (a : Int) ≤ 281474976710655 := by unfold mxN at ha; omega
            have hw1 : IntKind.u64.wrap (281474976710655 - (a : Int)) = 281474976710655 - (a : Int) := by
              unfold IntKind.wrap
              simp [IntKind.bits, IntKind.signed]
              omega
            by_cases hb : mxN - a < t
            · rw [if_pos hb] at hage
              injection hage with e1 e2
              subst e2
              have hle : decide ((t : Int) ≤ 281474976710655 - (a : Int)) = false := by unfold mxN at hb; simp; omega
              have hlx := bd_load W w3.heap.size hXW
              have hga := age_c (W := WD) (n := 0) (a := a) (w := W) (bv := .slice bA B.bl.length bc) (pv := .slice pA B.pl.length pc) (by rw [HP.out.2.2.2.2.2.2.2.2.2]; exact hoB.rd) (by rw [HP.out.2.2.2.2.2.2.2.2.2]; exact HP.out.2.2.2.2.2.2.2.1) ha
              rw [HP.out.2.2.2.2.2.2.2.2.2] at hga
              have HW := Lib.hid (And.intro hlx (And.intro hXW (And.intro hoB (And.intro k1W hXl))))
              clear hlx hXW hoB k1W hXl hyW hoC hYl hXY hb e1 ha hlyW htu
              go_wp2_with (first
                | ((with_reducible show wpList _ _ _ (Oper.mk (some 73) _ _ _ _ _ :: _) _ _); refine wpl_val rfl (run_load_opv HW.out.1 rfl) ?_)
                | fail)
              refine hga.mono ?_
              rintro e wg ⟨rfl, kg⟩
              have HG := Lib.hid kg
              clear kg hga
              go_wp2_with fail
              go_roundw
              case rel => exact ⟨q + 1, a, .slice bA B.bl.length bc, .slice pA B.pl.length pc, ls, by go_num, rfl, by omega, HP.out.2.2.2.2.2.2.2.2.1, by rw [HP.out.2.2.2.2.2.2.2.2.2]; exact HW.out.2.1.keep HW.out.2.2.2.2 HG.out (fun x => x), by rw [HP.out.2.2.2.2.2.2.2.2.2]; exact HW.out.2.2.1.keepN HG.out, HW.out.2.2.2.1.thenN HG.out, by have := HG.out.size; have := HW.out.2.2.2.2; omega⟩
              case measure => exact meas_up hlt
            · rw [if_neg hb] at hage
              injection hage with e1 e2
              subst e2
              have hle : decide ((t : Int) ≤ 281474976710655 - (a : Int)) = true := by unfold mxN at hb; simp; omega
              have hat : a + t ≤ mxN := by omega
              have hw2 : IntKind.u64.wrap ((a : Int) + (t : Int)) = (a : Int) + (t : Int) := by
                unfold mxN at hat
                unfold IntKind.wrap
                simp [IntKind.bits, IntKind.signed]
                omega
              obtain ⟨wy, hst, hXy, ky, hzy⟩ := box_store hXW 34 #[n64 C2.fl, n64 C2.e0, n64 C2.e1, n64 C2.e2, n64 C2.e3, n64 C2.e4, n64 C2.e5, n64 C2.ti, n64 C2.sq, n64 C2.li, .slice gA C2.bl.length gc, .slice hA C2.pl.length hc] rfl (by kernel_rfl) (by kernel_rfl)
              have hoy := (hoC.keep ky (fun i hi e => hi.2.1 e)).wide (G := fun i => w1.heap.size ≤ i ∧ i ≠ w3.heap.size) (fun i _ hi => ⟨hi.1, hi.2.1⟩)
              have k1y := k1W.fresh ky (fun i e => by have := HX1.out; omega)
              have hlx := bd_load wy w3.heap.size hXy
              have hv2 := trB_val HO.out (n := 0) (by omega) hat
              have hga := age_c (W := WD) (n := 0) (a := a + t) (w := wy) (bv := .slice gA C2.bl.length gc) (pv := .slice hA C2.pl.length hc) (by rw [← e1]; exact hoy.rd) (by have := bdSize_laid _ hv2; omega) hat
              rw [← e1, n64, show ((a + t : Nat) : Int) = (a : Int) + (t : Int) by omega] at hga
              have HW := Lib.hid (And.intro hlx (And.intro hXy (And.intro hoy (And.intro k1y (show w3.heap.size < wy.heap.size by omega)))))
              have HS := Lib.hid (And.intro hst hlyW)
              have HC := Lib.hid (And.intro e1 hat)
              clear hlx hXW hoB k1W hXl hyW hoC hYl hXY hb e1 ha hlyW htu hst hXy ky hzy hoy k1y hv2 hat
              go_wp2_with (first
                | ((with_reducible show wpList _ _ _ (Oper.mk (some 69) _ _ _ _ _ :: _) _ _); refine wpl_val rfl (run_load_opv HS.out.2 rfl) ?_)
                | ((with_reducible show wpList _ _ _ (Oper.mk _ (Op.store 34 _ _) _ _ _ _ :: _) _ _); refine wpl_skip rfl (run_store_op HS.out.1 rfl rfl) ?_)
                | ((with_reducible show wpList _ _ _ (Oper.mk (some 73) _ _ _ _ _ :: _) _ _); refine wpl_val rfl (run_load_opv HW.out.1 rfl) ?_)
                | fail)
              refine hga.mono ?_
              rintro e wg ⟨rfl, kg⟩
              have HG := Lib.hid kg
              clear kg hga
              go_wp2_with fail
              go_roundw
              case rel => exact ⟨q + 1, a + t, .slice gA C2.bl.length gc, .slice hA C2.pl.length hc, l9, by go_num, by go_num, by omega, HC.out.2, by rw [← HC.out.1]; exact HW.out.2.1.keep HW.out.2.2.2.2 HG.out (fun x => x), by rw [← HC.out.1]; exact HW.out.2.2.1.keepN HG.out, HW.out.2.2.2.1.thenN HG.out, by have := HG.out.size; have := HW.out.2.2.2.2; omega⟩
              case measure => exact meas_up hlt
        · obtain rfl : q = N := by omega
          have HA := Lib.hid ha
          have H7 := Lib.hid (And.intro hx (And.intro ho (And.intro kr hltX)))
          clear hx ho kr hltX ha
          go_wp2_with fail
          go_loopw [13] (fun i wr => ∃ (q : Nat) (bv pv : Value) (ls : List (Value × Blk)), i = .int .i64 q ∧ q ≤ 8 ∧ CellsAt wr w3.heap.size (bdC (trB WD q a) bv pv) ∧ OwBd wr 37 (fun i => w1.heap.size ≤ i ∧ i ≠ w3.heap.size) bv pv (trB WD q a) ls ∧ KpN w1 wr ∧ w3.heap.size < wr.heap.size) (fun i _ => 8 - (intOf i).toNat)
          case atStart => exact ⟨0, bv, pv, ls, rfl, by omega, H7.out.1, H7.out.2.1, H7.out.2.2.1, H7.out.2.2.2⟩
          case round =>
            obtain ⟨q, bv, pv, ls, rfl, hq, hx, ho, kr, hltX⟩ := hrel
            have hhop := trB_hop HO.out hq HA.out
            have hv := trB_val HO.out hq HA.out
            obtain ⟨B, hB⟩ : ∃ B, trB WD q a = B := ⟨_, rfl⟩
            rw [hB] at hx ho hhop hv
            have hsz : bdSize B ≤ 10000000 := by have := bdSize_laid B hv; omega
            obtain ⟨bA, bc, rfl, -⟩ := ho.rd.bl.form
            obtain ⟨pA, pc, rfl, -⟩ := ho.rd.pl.form
            have hlx := bd_load wr w3.heap.size hx
            obtain ⟨⟨C, E⟩, hCE⟩ : ∃ z, chV B (fstK B.bl 10) hopBad hopNew = z := ⟨_, rfl⟩
            have hH : Calls Try.prog 32 #[bdV B (.slice bA B.bl.length bc) (.slice pA B.pl.length pc)] wr fun e w' => ∃ bv pv ls, e = .returned (.tuple #[bdV C bv pv, .int .i64 E]) ∧ OwBd w' 37 (Iv wr.heap.size w'.heap.size) bv pv C ls ∧ KpN wr w' := by
              have := hopping_c ho.rd hsz
              unfold ChP at this
              rw [hCE] at this
              exact this
            rw [hCE] at hhop
            have HP := Lib.hid (And.intro hlx (And.intro hx (And.intro ho (And.intro kr (And.intro hltX (And.intro hsz hB))))))
            clear hv hsz hlx hCE hx ho kr hltX hB
            by_cases hlt : q < 8
            · rw [if_neg (by omega)] at hhop
              injection hhop with e1 e2
              subst e2
              have hlt' : (q : Int) < 8 := by omega
              have HE := Lib.hid e1
              clear e1
              go_wp2_with (first
                | ((with_reducible show wpList _ _ _ (Oper.mk (some 89) _ _ _ _ _ :: _) _ _); refine wpl_val rfl (run_load_opv HP.out.1 rfl) ?_)
                | fail)
              refine hH.mono ?_
              rintro e w7 ⟨cv, dv, l7, rfl, ho7, k7⟩
              clear hH
              obtain ⟨cA, cc, rfl, -⟩ := ho7.rd.bl.form
              obtain ⟨dA, dc, rfl, -⟩ := ho7.rd.pl.form
              obtain ⟨w8, hst, hx8, k8, hz8⟩ := bundle_put w7 C cA dA C.bl.length cc C.pl.length dc
              have hz7 := k7.size
              have k78 := k7.thenN k8
              have hltX := HP.out.2.2.2.2.1
              have hl8 := bd_load w8 w7.heap.size hx8
              obtain ⟨wy, hsty, hXy, ky, hzy⟩ := box_store (HP.out.2.1.keep hltX k78 (fun x => x)) 34 #[n64 C.fl, n64 C.e0, n64 C.e1, n64 C.e2, n64 C.e3, n64 C.e4, n64 C.e5, n64 C.ti, n64 C.sq, n64 C.li, .slice cA C.bl.length cc, .slice dA C.pl.length dc] rfl (by kernel_rfl) (by kernel_rfl)
              have hoy := (((ho7.keepN k8).keep ky (fun i hi e => by have := hi.1; omega)).wide (G := fun i => w1.heap.size ≤ i ∧ i ≠ w3.heap.size) (fun i _ hi => ⟨by have := hi.1; have := HX1.out; omega, by have := hi.1; omega⟩))
              have k1y := (HP.out.2.2.2.1.thenN k78).fresh ky (fun i e => by have := HX1.out; omega)
              have HS := Lib.hid (And.intro hst (And.intro hl8 hsty))
              have HW := Lib.hid (And.intro hXy (And.intro hoy (And.intro k1y (show w3.heap.size < wy.heap.size by omega))))
              clear hst hx8 k8 hz8 hz7 k78 hltX hl8 hsty hXy ky hzy hoy k1y ho7 k7
              go_wp2_with (first
                | ((with_reducible show wpList _ _ _ (Oper.mk _ (Op.store 34 _ _) _ _ _ _ :: _) _ w8); refine wpl_skip rfl (run_store_op HS.out.2.2 rfl rfl) ?_)
                | ((with_reducible show wpList _ _ _ (Oper.mk _ (Op.store 34 _ _) _ _ _ _ :: _) _ _); refine wpl_skip rfl (run_store_op HS.out.1 rfl rfl) ?_)
                | ((with_reducible show wpList _ _ _ (Oper.mk (some 95) _ _ _ _ _ :: _) _ _); refine wpl_val rfl (run_load_opv HS.out.2.1 rfl) ?_)
                | fail)
              go_roundw
              case rel => exact ⟨q + 1, .slice cA C.bl.length cc, .slice dA C.pl.length dc, l7, by go_num, by omega, by rw [← HE.out]; exact HW.out.1, by rw [← HE.out]; exact HW.out.2.1, HW.out.2.2.1, HW.out.2.2.2⟩
              case measure => exact meas_up hlt
            · obtain rfl : q = 8 := by omega
              rw [if_pos rfl] at hhop
              injection hhop with e1 e2
              subst e2
              rw [show ((8 : Nat) : Int) = 8 from rfl]
              have hga : ∀ W, KpN wr W → Calls Try.prog 38 #[bdV B (.slice bA B.bl.length bc) (.slice pA B.pl.length pc)] W fun e w' => e = .returned (.tuple #[n64 a, .bool true]) ∧ KpN W w' := fun W k => by
                have := age_c (W := WD) (n := 8) (a := a) (w := W) (bv := .slice bA B.bl.length bc) (pv := .slice pA B.pl.length pc) (by rw [HP.out.2.2.2.2.2.2]; exact HP.out.2.2.1.rd.keepN k) (by rw [HP.out.2.2.2.2.2.2]; exact HP.out.2.2.2.2.2.1) HA.out
                rwa [HP.out.2.2.2.2.2.2] at this
              clear e1
              go_wp2_with (first
                | ((with_reducible show wpList _ _ _ (Oper.mk (some 97) _ _ _ _ _ :: _) _ _); refine wpl_val rfl (run_load_opv HP.out.1 rfl) ?_)
                | fail)
              refine hH.mono ?_
              rintro e w7 ⟨cv, dv, l7, rfl, -, k7⟩
              clear hH
              have hl7 := bd_load w7 w3.heap.size (HP.out.2.1.keep HP.out.2.2.2.2.1 k7 (fun x => x))
              have hg7 := hga w7 k7
              have H7 := Lib.hid (And.intro hl7 k7)
              clear hl7 k7 hga
              go_wp2_with (first
                | ((with_reducible show wpList _ _ _ (Oper.mk (some 102) _ _ _ _ _ :: _) _ _); refine wpl_val rfl (run_load_opv H7.out.1 rfl) ?_)
                | fail)
              refine hg7.mono ?_
              rintro e wg ⟨rfl, kg⟩
              clear hg7
              go_wp2_with fail
              go_ret
              exact ⟨rfl, HH.out.2.2.1.thenN (HP.out.2.2.2.1.thenN (H7.out.2.thenN kg))⟩
  · have hE := HF.out.1
    rw [if_neg hfit] at hE
    subst hE
    have hfit := Bool.eq_false_iff.2 hfit
    rw [hfit] at hff
    clear hfit c4
    go_wp2_with (first
      | ((with_reducible show wpList _ _ _ (Oper.mk _ (Op.store 34 _ _) _ _ _ _ :: _) _ _); refine wpl_skip rfl (run_store_op H4.out.1 rfl rfl) ?_)
      | ((with_reducible show wpList _ _ _ (Oper.mk (some 27) _ _ _ _ _ :: _) _ _); refine wpl_val rfl (run_load_opv H4.out.2.1 rfl) ?_)
      | fail)
    refine hff.mono ?_
    rintro e w5 ⟨rfl, k5⟩
    go_wp2_with fail
    go_ret
    exact ⟨rfl, HH.out.2.2.1.thenN (H4.out.2.2.2.2.1.thenN k5)⟩
end Go.Proofs.Yteokkpmndfekoaa
