/- Wrap, the document's. -/
import Derived.Test.YteokkpmndfekoaaBM
namespace Go.Proofs.Yteokkpmndfekoaa
open Go Go.RowKit
set_option maxRecDepth 100000
set_option maxHeartbeats 12800000 in
theorem rwrap_c {w : World} {s : Int} {ti sq li fr to : Nat} {v : Value} {xs : List UInt8} {nw : Bool} (h : RdB w v xs) (hl : xs.length ≤ 100000000) (h1 : U64 ti) (h2 : U64 sq) (h3 : U64 li) (h4 : U64 fr) (h5 : U64 to) :
    Calls Try.prog 20 #[frV s ti sq li v, n64 fr, n64 to, .bool nw] w (WrapP s ti sq li fr to xs nw w) := by
  obtain ⟨A, c, rfl, -⟩ := h.form
  obtain ⟨L, hL⟩ : ∃ L, xs.length = L := ⟨_, rfl⟩
  have HH := Lib.hid h
  rw [hL]
  have kb : KpN w ((w.alloc (.cells #[.int .i64 s, n64 ti, n64 sq, n64 li, .slice A L c] 47)).alloc (.cells #[.int .u64 0, .int .u64 0, .int .u64 0, .int .u64 0, .int .u64 0, .int .u64 0, .int .u64 0, .int .u64 0, .int .u64 0, .int .u64 0, .slice none 0 0, .slice none 0 0] 29)) := ((Kp.refl _ w).alloc _).alloc _
  have hz1 : ((w.alloc (.cells #[.int .i64 s, n64 ti, n64 sq, n64 li, .slice A L c] 47)).alloc (.cells #[.int .u64 0, .int .u64 0, .int .u64 0, .int .u64 0, .int .u64 0, .int .u64 0, .int .u64 0, .int .u64 0, .int .u64 0, .int .u64 0, .slice none 0 0, .slice none 0 0] 29)).heap.size = w.heap.size + 2 := by simp
  have hbox : CellsAt ((w.alloc (.cells #[.int .i64 s, n64 ti, n64 sq, n64 li, .slice A L c] 47)).alloc (.cells #[.int .u64 0, .int .u64 0, .int .u64 0, .int .u64 0, .int .u64 0, .int .u64 0, .int .u64 0, .int .u64 0, .int .u64 0, .int .u64 0, .slice none 0 0, .slice none 0 0] 29)) w.heap.size [.int .i64 s, n64 ti, n64 sq, n64 li, .slice A L c] := (CellsAt.new w [.int .i64 s, n64 ti, n64 sq, n64 li, .slice A L c] _).keep (by simp) ((Kp.refl (fun _ => False) _).alloc _) (fun x => x)
  have hres : CellsAt ((w.alloc (.cells #[.int .i64 s, n64 ti, n64 sq, n64 li, .slice A L c] 47)).alloc (.cells #[.int .u64 0, .int .u64 0, .int .u64 0, .int .u64 0, .int .u64 0, .int .u64 0, .int .u64 0, .int .u64 0, .int .u64 0, .int .u64 0, .slice none 0 0, .slice none 0 0] 29)) (w.heap.size + 1) [.int .u64 0, .int .u64 0, .int .u64 0, .int .u64 0, .int .u64 0, .int .u64 0, .int .u64 0, .int .u64 0, .int .u64 0, .int .u64 0, .slice none 0 0, .slice none 0 0] := by
    have := CellsAt.new (w.alloc (.cells #[.int .i64 s, n64 ti, n64 sq, n64 li, .slice A L c] 47)) [.int .u64 0, .int .u64 0, .int .u64 0, .int .u64 0, .int .u64 0, .int .u64 0, .int .u64 0, .int .u64 0, .int .u64 0, .int .u64 0, .slice none 0 0, .slice none 0 0] 29
    rwa [show (w.alloc (.cells #[.int .i64 s, n64 ti, n64 sq, n64 li, .slice A L c] 47)).heap.size = w.heap.size + 1 by simp] at this
  have hld := run_loadAt_rowat (P := Try.prog) hbox.1 Try.underlying47 rfl (by kernel_rfl)
  obtain ⟨w1, hw1⟩ : ∃ w1, ((w.alloc (.cells #[.int .i64 s, n64 ti, n64 sq, n64 li, .slice A L c] 47)).alloc (.cells #[.int .u64 0, .int .u64 0, .int .u64 0, .int .u64 0, .int .u64 0, .int .u64 0, .int .u64 0, .int .u64 0, .int .u64 0, .int .u64 0, .slice none 0 0, .slice none 0 0] 29)) = w1 := ⟨_, rfl⟩
  rw [hw1] at kb hz1 hbox hres
  have HW1 := Lib.hid hw1
  have HZ := Lib.hid hz1
  have HU := Lib.hid (And.intro h1 (And.intro h2 (And.intro h3 (And.intro h4 h5))))
  have HRS := Lib.hid (And.intro hres hbox)
  have HLL := Lib.hid (And.intro hL hl)
  clear hbox hres hw1 h hz1 h1 h2 h3 h4 h5 hL hl
  go_enter Try.func20, Try.ntmps20
  go_wp2_with ((with_reducible show wpList _ _ _ (Oper.mk _ (Op.load 47 _) _ _ _ _ :: _) _ _); refine wpl_val rfl (run_load_opv hld rfl) ?_)
  clear hld
  rw [HW1.out]
  refine (fits_c w1 s ti sq li A L c).mono ?_
  rintro e w2 ⟨rfl, k2⟩
  have hz2 := k2.size
  have krs := HRS.out.1.keep (by have := HZ.out; omega) k2 (fun x => x)
  have kbx := HRS.out.2.keep (by have := HZ.out; omega) k2 (fun x => x)
  have b0 : w2.cell? ⟨w.heap.size, 0, none⟩ = some (.int .i64 s) := kbx.at_ 0 rfl
  have b3 : w2.cell? ⟨w.heap.size, 3, none⟩ = some (n64 li) := kbx.at_ 3 rfl
  have b4 : w2.cell? ⟨w.heap.size, 4, none⟩ = some (.slice A L c) := kbx.at_ 4 rfl
  cases hf : fitsW s ti sq li
  · have hz : wrapF s ti sq li fr to xs = 1 := by unfold wrapF; rw [if_neg (by rw [hf]; simp)]
    have k7 := Kp.setCells (w.heap.size + 1) [.int .u64 0, .int .u64 0, .int .u64 0, .int .u64 0, .int .u64 0, .int .u64 0, .int .u64 0, .int .u64 0, .int .u64 0, .int .u64 0, .slice none 0 0, .slice none 0 0] 0 w2
    have gr7 := krs.put (ds := [.int .u64 0, .int .u64 0, .int .u64 0, .int .u64 0, .int .u64 0, .int .u64 0, .int .u64 0, .int .u64 0, .int .u64 0, .int .u64 0, .slice none 0 0, .slice none 0 0]) rfl
    have hst := run_storeAt_mid (P := Try.prog) w2 (w.heap.size + 1) 0 29 #[.int .u64 0, .int .u64 0, .int .u64 0, .int .u64 0, .int .u64 0, .int .u64 0, .int .u64 0, .int .u64 0, .int .u64 0, .int .u64 0, .slice none 0 0, .slice none 0 0] (krs.there _ (Nat.le_refl _)) (by kernel_rfl) (by kernel_rfl)
    have hfin := wrap_fails (nw := nw) (w := w) hz (by decide) ((kb.thenN k2).fresh k7 (fun i e => by have := HZ.out; omega))
    have HF := Lib.hid hfin
    have HL := Lib.hid (And.intro hst gr7)
    clear hfin hst gr7 k7 krs kbx hz
    go_wp2_with ((with_reducible show wpList _ _ _ (Oper.mk _ (Op.store 29 _ _) _ _ _ _ :: _) _ _); refine wpl_skip rfl (run_store_op HL.out.1 rfl rfl) ?_)
    (try simp only [Exit.inBlock, Exit.then])
    refine bodyPost_ret (results_cell_tmp_at rfl _ _ rfl HL.out.2.1 Try.underlying29 rfl (by kernel_rfl)) rfl ?_
    exact HF.out
  · by_cases hfr : (281474976710655 : Int) < (fr : Int)
    · have hz : wrapF s ti sq li fr to xs = 1 := by unfold wrapF; rw [if_neg (by simp only [maxN]; omega)]
      have k7 := Kp.setCells (w.heap.size + 1) [.int .u64 0, .int .u64 0, .int .u64 0, .int .u64 0, .int .u64 0, .int .u64 0, .int .u64 0, .int .u64 0, .int .u64 0, .int .u64 0, .slice none 0 0, .slice none 0 0] 0 w2
      have gr7 := krs.put (ds := [.int .u64 0, .int .u64 0, .int .u64 0, .int .u64 0, .int .u64 0, .int .u64 0, .int .u64 0, .int .u64 0, .int .u64 0, .int .u64 0, .slice none 0 0, .slice none 0 0]) rfl
      have hst := run_storeAt_mid (P := Try.prog) w2 (w.heap.size + 1) 0 29 #[.int .u64 0, .int .u64 0, .int .u64 0, .int .u64 0, .int .u64 0, .int .u64 0, .int .u64 0, .int .u64 0, .int .u64 0, .int .u64 0, .slice none 0 0, .slice none 0 0] (krs.there _ (Nat.le_refl _)) (by kernel_rfl) (by kernel_rfl)
      have hfin := wrap_fails (nw := nw) (w := w) hz (by decide) ((kb.thenN k2).fresh k7 (fun i e => by have := HZ.out; omega))
      have HF := Lib.hid hfin
      have HL := Lib.hid (And.intro hst gr7)
      clear hfin hst gr7 k7 krs kbx hz
      go_wp2_with ((with_reducible show wpList _ _ _ (Oper.mk _ (Op.store 29 _ _) _ _ _ _ :: _) _ _); refine wpl_skip rfl (run_store_op HL.out.1 rfl rfl) ?_)
      (try simp only [Exit.inBlock, Exit.then])
      refine bodyPost_ret (results_cell_tmp_at rfl _ _ rfl HL.out.2.1 Try.underlying29 rfl (by kernel_rfl)) rfl ?_
      exact HF.out
    · by_cases hto : (281474976710655 : Int) < (to : Int)
      · have hz : wrapF s ti sq li fr to xs = 1 := by unfold wrapF; rw [if_neg (by simp only [maxN]; omega)]
        have k7 := Kp.setCells (w.heap.size + 1) [.int .u64 0, .int .u64 0, .int .u64 0, .int .u64 0, .int .u64 0, .int .u64 0, .int .u64 0, .int .u64 0, .int .u64 0, .int .u64 0, .slice none 0 0, .slice none 0 0] 0 w2
        have gr7 := krs.put (ds := [.int .u64 0, .int .u64 0, .int .u64 0, .int .u64 0, .int .u64 0, .int .u64 0, .int .u64 0, .int .u64 0, .int .u64 0, .int .u64 0, .slice none 0 0, .slice none 0 0]) rfl
        have hst := run_storeAt_mid (P := Try.prog) w2 (w.heap.size + 1) 0 29 #[.int .u64 0, .int .u64 0, .int .u64 0, .int .u64 0, .int .u64 0, .int .u64 0, .int .u64 0, .int .u64 0, .int .u64 0, .int .u64 0, .slice none 0 0, .slice none 0 0] (krs.there _ (Nat.le_refl _)) (by kernel_rfl) (by kernel_rfl)
        have hfin := wrap_fails (nw := nw) (w := w) hz (by decide) ((kb.thenN k2).fresh k7 (fun i e => by have := HZ.out; omega))
        have HF := Lib.hid hfin
        have HL := Lib.hid (And.intro hst gr7)
        clear hfin hst gr7 k7 krs kbx hz
        go_wp2_with ((with_reducible show wpList _ _ _ (Oper.mk _ (Op.store 29 _ _) _ _ _ _ :: _) _ _); refine wpl_skip rfl (run_store_op HL.out.1 rfl rfl) ?_)
        (try simp only [Exit.inBlock, Exit.then])
        refine bodyPost_ret (results_cell_tmp_at rfl _ _ rfl HL.out.2.1 Try.underlying29 rfl (by kernel_rfl)) rfl ?_
        exact HF.out
      · by_cases hle : (512 : Int) < (L : Int)
        · have hz : wrapF s ti sq li fr to xs = 81 := by unfold wrapF; rw [if_pos ⟨hf, by simp only [maxN]; omega, by simp only [maxN]; omega⟩, if_pos (by rw [HLL.out.1]; omega)]
          have k7 := Kp.setCells (w.heap.size + 1) [.int .u64 0, .int .u64 0, .int .u64 0, .int .u64 0, .int .u64 0, .int .u64 0, .int .u64 0, .int .u64 0, .int .u64 0, .int .u64 0, .slice none 0 0, .slice none 0 0] 0 w2
          have gr7 := krs.put (ds := [.int .u64 0, .int .u64 0, .int .u64 0, .int .u64 0, .int .u64 0, .int .u64 0, .int .u64 0, .int .u64 0, .int .u64 0, .int .u64 0, .slice none 0 0, .slice none 0 0]) rfl
          have hst := run_storeAt_mid (P := Try.prog) w2 (w.heap.size + 1) 0 29 #[.int .u64 0, .int .u64 0, .int .u64 0, .int .u64 0, .int .u64 0, .int .u64 0, .int .u64 0, .int .u64 0, .int .u64 0, .int .u64 0, .slice none 0 0, .slice none 0 0] (krs.there _ (Nat.le_refl _)) (by kernel_rfl) (by kernel_rfl)
          have hfin := wrap_fails (nw := nw) (w := w) hz (by decide) ((kb.thenN k2).fresh k7 (fun i e => by have := HZ.out; omega))
          have HF := Lib.hid hfin
          have HL := Lib.hid (And.intro hst gr7)
          clear hfin hst gr7 k7 krs kbx hz
          go_wp2_with ((with_reducible show wpList _ _ _ (Oper.mk _ (Op.store 29 _ _) _ _ _ _ :: _) _ _); refine wpl_skip rfl (run_store_op HL.out.1 rfl rfl) ?_)
          (try simp only [Exit.inBlock, Exit.then])
          refine bodyPost_ret (results_cell_tmp_at rfl _ _ rfl HL.out.2.1 Try.underlying29 rfl (by kernel_rfl)) rfl ?_
          exact HF.out
        · obtain ⟨hs0, hs8⟩ : 0 ≤ s ∧ s < 8 := by simp only [fitsW, Bool.and_eq_true, decide_eq_true_eq] at hf; omega
          obtain ⟨m, rfl⟩ := Int.eq_ofNat_of_zero_le hs0
          have hwf : wrapF (m : Int) ti sq li fr to xs = 0 := by unfold wrapF; rw [if_pos ⟨hf, by simp only [maxN]; omega, by simp only [maxN]; omega⟩, if_neg (by rw [HLL.out.1]; omega)]
          have hmU : U64 m := by unfold U64; omega
          have hrow : RowAt w2 ⟨w.heap.size, 1, none⟩ [n64 ti, n64 sq] := fun j v hj => by
            rw [Addr.add_mid]
            match j, hj with
            | 0, hj => (rw [← Option.some.inj hj]; exact kbx.at_ 1 rfl)
            | 1, hj => (rw [← Option.some.inj hj]; exact kbx.at_ 2 rfl)
          have hl2 := run_loadAt_rowat (P := Try.prog) hrow Try.underlying25 rfl (by kernel_rfl)
          clear hrow
          cases nw
          · have hca := CellsAt.new w2 [.int .u64 0, .int .u64 0, .int .u64 0, .int .u64 0, .int .u64 0, .int .u64 0, .int .u64 0, .int .u64 0, .int .u64 0, .int .u64 0, .slice none 0 0, .slice none 0 0] 29
            have ka : KpN w2 (w2.alloc (.cells #[.int .u64 0, .int .u64 0, .int .u64 0, .int .u64 0, .int .u64 0, .int .u64 0, .int .u64 0, .int .u64 0, .int .u64 0, .int .u64 0, .slice none 0 0, .slice none 0 0] 29)) := (Kp.refl _ _).alloc _
            have hza : (w2.alloc (.cells #[.int .u64 0, .int .u64 0, .int .u64 0, .int .u64 0, .int .u64 0, .int .u64 0, .int .u64 0, .int .u64 0, .int .u64 0, .int .u64 0, .slice none 0 0, .slice none 0 0] 29)).heap.size = w2.heap.size + 1 := by simp
            have kc := Kp.setCells w2.heap.size [.int .u64 5, n64 to, n64 m, n64 fr, n64 m, n64 fr, .int .u64 0, n64 ti, n64 sq, n64 li, .slice none 0 0, .slice A L c] 0 (w2.alloc (.cells #[.int .u64 0, .int .u64 0, .int .u64 0, .int .u64 0, .int .u64 0, .int .u64 0, .int .u64 0, .int .u64 0, .int .u64 0, .int .u64 0, .slice none 0 0, .slice none 0 0] 29))
            have hst3 := run_storeAt_mid (P := Try.prog) (w2.alloc (.cells #[.int .u64 0, .int .u64 0, .int .u64 0, .int .u64 0, .int .u64 0, .int .u64 0, .int .u64 0, .int .u64 0, .int .u64 0, .int .u64 0, .slice none 0 0, .slice none 0 0] 29)) w2.heap.size 0 29 #[.int .u64 5, n64 to, n64 m, n64 fr, n64 m, n64 fr, .int .u64 0, n64 ti, n64 sq, n64 li, .slice none 0 0, .slice A L c] (hca.there _ (Nat.le_refl _)) (by kernel_rfl) (by kernel_rfl)
            have hc3 := hca.put (ds := [.int .u64 5, n64 to, n64 m, n64 fr, n64 m, n64 fr, .int .u64 0, n64 ti, n64 sq, n64 li, .slice none 0 0, .slice A L c]) rfl
            have k23 : KpN w2 ((w2.alloc (.cells #[.int .u64 0, .int .u64 0, .int .u64 0, .int .u64 0, .int .u64 0, .int .u64 0, .int .u64 0, .int .u64 0, .int .u64 0, .int .u64 0, .slice none 0 0, .slice none 0 0] 29)).setCells w2.heap.size 0 [.int .u64 5, n64 to, n64 m, n64 fr, n64 m, n64 fr, .int .u64 0, n64 ti, n64 sq, n64 li, .slice none 0 0, .slice A L c]) := ka.fresh kc (fun i e => by omega)
            have hz3 : w2.heap.size < ((w2.alloc (.cells #[.int .u64 0, .int .u64 0, .int .u64 0, .int .u64 0, .int .u64 0, .int .u64 0, .int .u64 0, .int .u64 0, .int .u64 0, .int .u64 0, .slice none 0 0, .slice none 0 0] 29)).setCells w2.heap.size 0 [.int .u64 5, n64 to, n64 m, n64 fr, n64 m, n64 fr, .int .u64 0, n64 ti, n64 sq, n64 li, .slice none 0 0, .slice A L c]).heap.size := by have := kc.size; omega
            clear ka hza kc hca
            obtain ⟨w3, hw3⟩ : ∃ w3, ((w2.alloc (.cells #[.int .u64 0, .int .u64 0, .int .u64 0, .int .u64 0, .int .u64 0, .int .u64 0, .int .u64 0, .int .u64 0, .int .u64 0, .int .u64 0, .slice none 0 0, .slice none 0 0] 29)).setCells w2.heap.size 0 [.int .u64 5, n64 to, n64 m, n64 fr, n64 m, n64 fr, .int .u64 0, n64 ti, n64 sq, n64 li, .slice none 0 0, .slice A L c]) = w3 := ⟨_, rfl⟩
            rw [hw3] at hc3 k23 hz3
            have hc4 : CellsAt w3 w2.heap.size [.int .u64 5, n64 to, n64 m, n64 fr, n64 m, n64 fr, .int .u64 0, n64 ti, n64 sq, n64 li, .slice none 0 0, .slice A L c] := hc3
            have k34 : Kp (fun x => x = w2.heap.size) w3 w3 := Kp.refl _ _
            have z4 : w3.heap.size = w3.heap.size := by simp
            have o5 := OwC.lit w3 5 1 2 #[.int .u8 8, .int .u8 0] (by decide) rfl
            rw [z4] at o5
            have k45 : KpN w3 (w3.alloc (.cells #[.int .u8 8, .int .u8 0] 5)) := (Kp.refl _ _).alloc _
            have z5 : (w3.alloc (.cells #[.int .u8 8, .int .u8 0] 5)).heap.size = w3.heap.size + 1 := by simp
            obtain ⟨w5, hw5⟩ : ∃ w5, (w3.alloc (.cells #[.int .u8 8, .int .u8 0] 5)) = w5 := ⟨_, rfl⟩
            rw [hw5] at o5 k45 z5
            have o6 := OwC.lit w5 5 1 1 #[.int .u8 0] (by decide) rfl
            have k56 : KpN w5 (w5.alloc (.cells #[.int .u8 0] 5)) := (Kp.refl _ _).alloc _
            have z6 : (w5.alloc (.cells #[.int .u8 0] 5)).heap.size = w5.heap.size + 1 := by simp
            obtain ⟨w6, hw6⟩ : ∃ w6, (w5.alloc (.cells #[.int .u8 0] 5)) = w6 := ⟨_, rfl⟩
            rw [hw6] at o6 k56 z6
            have hb7 := CellsAt.new w6 [.int .u64 10, .int .u64 2, .int .u64 0, .slice (some ⟨w3.heap.size, 0, none⟩) 2 2, .int .u64 7, .int .u64 3, .int .u64 0, .slice (some ⟨w5.heap.size, 0, none⟩) 1 1] 40
            have k67 : KpN w6 (w6.alloc (.cells #[.int .u64 10, .int .u64 2, .int .u64 0, .slice (some ⟨w3.heap.size, 0, none⟩) 2 2, .int .u64 7, .int .u64 3, .int .u64 0, .slice (some ⟨w5.heap.size, 0, none⟩) 1 1] 40)) := (Kp.refl _ _).alloc _
            have z7 : (w6.alloc (.cells #[.int .u64 10, .int .u64 2, .int .u64 0, .slice (some ⟨w3.heap.size, 0, none⟩) 2 2, .int .u64 7, .int .u64 3, .int .u64 0, .slice (some ⟨w5.heap.size, 0, none⟩) 1 1] 40)).heap.size = w6.heap.size + 1 := by simp
            obtain ⟨w7, hw7⟩ : ∃ w7, (w6.alloc (.cells #[.int .u64 10, .int .u64 2, .int .u64 0, .slice (some ⟨w3.heap.size, 0, none⟩) 2 2, .int .u64 7, .int .u64 3, .int .u64 0, .slice (some ⟨w5.heap.size, 0, none⟩) 1 1] 40)) = w7 := ⟨_, rfl⟩
            rw [show (w6.alloc (.cells ([.int .u64 10, .int .u64 2, .int .u64 0, .slice (some ⟨w3.heap.size, 0, none⟩) 2 2, .int .u64 7, .int .u64 3, .int .u64 0, .slice (some ⟨w5.heap.size, 0, none⟩) 1 1] : List Value).toArray 40)) = w7 from hw7] at hb7
            rw [hw7] at k67 z7
            have k47 := (k45.thenN k56).thenN k67
            have hc7 : CellsAt w7 w2.heap.size [.int .u64 5, n64 to, n64 m, n64 fr, n64 m, n64 fr, .int .u64 0, n64 ti, n64 sq, n64 li, .slice none 0 0, .slice A L c] := hc4.keep (by omega) k47 (fun x => x)
            have hc8 : CellsAt (w7.setCell ⟨w2.heap.size, 10, none⟩ (.slice (some ⟨w6.heap.size, 0, none⟩) 2 2)) w2.heap.size [.int .u64 5, n64 to, n64 m, n64 fr, n64 m, n64 fr, .int .u64 0, n64 ti, n64 sq, n64 li, .slice (some ⟨w6.heap.size, 0, none⟩) 2 2, .slice A L c] := hc7.set 10 (.slice (some ⟨w6.heap.size, 0, none⟩) 2 2) (by simp)
            have hl8 := run_loadAt_rowat (P := Try.prog) hc8.1 Try.underlying29 rfl (by kernel_rfl)
            have k78 : Kp (fun x => x = w2.heap.size) w7 (w7.setCell ⟨w2.heap.size, 10, none⟩ (.slice (some ⟨w6.heap.size, 0, none⟩) 2 2)) := kp1_set3 _ _ _
            have k28 : KpN w2 (w7.setCell ⟨w2.heap.size, 10, none⟩ (.slice (some ⟨w6.heap.size, 0, none⟩) 2 2)) := ((k23.fresh k34 (fun i e => by omega)).thenN k47).fresh k78 (fun i e => by omega)
            have hr8 : CellsAt (w7.setCell ⟨w2.heap.size, 10, none⟩ (.slice (some ⟨w6.heap.size, 0, none⟩) 2 2)) (w.heap.size + 1) [.int .u64 0, .int .u64 0, .int .u64 0, .int .u64 0, .int .u64 0, .int .u64 0, .int .u64 0, .int .u64 0, .int .u64 0, .int .u64 0, .slice none 0 0, .slice none 0 0] := krs.keep (by have := HZ.out; omega) k28 (fun x => x)
            have hst9 := run_storeAt_mid (P := Try.prog) (w7.setCell ⟨w2.heap.size, 10, none⟩ (.slice (some ⟨w6.heap.size, 0, none⟩) 2 2)) (w.heap.size + 1) 0 29 #[.int .u64 5, n64 to, n64 m, n64 fr, n64 m, n64 fr, .int .u64 0, n64 ti, n64 sq, n64 li, .slice (some ⟨w6.heap.size, 0, none⟩) 2 2, .slice A L c] (hr8.there _ (Nat.le_refl _)) (by kernel_rfl) (by kernel_rfl)
            have hr9 := hr8.put (ds := [.int .u64 5, n64 to, n64 m, n64 fr, n64 m, n64 fr, .int .u64 0, n64 ti, n64 sq, n64 li, .slice (some ⟨w6.heap.size, 0, none⟩) 2 2, .slice A L c]) rfl
            have k89 := Kp.setCells (w.heap.size + 1) [.int .u64 5, n64 to, n64 m, n64 fr, n64 m, n64 fr, .int .u64 0, n64 ti, n64 sq, n64 li, .slice (some ⟨w6.heap.size, 0, none⟩) 2 2, .slice A L c] 0 (w7.setCell ⟨w2.heap.size, 10, none⟩ (.slice (some ⟨w6.heap.size, 0, none⟩) 2 2))
            have k09 : KpN w ((w7.setCell ⟨w2.heap.size, 10, none⟩ (.slice (some ⟨w6.heap.size, 0, none⟩) 2 2)).setCells (w.heap.size + 1) 0 [.int .u64 5, n64 to, n64 m, n64 fr, n64 m, n64 fr, .int .u64 0, n64 ti, n64 sq, n64 li, .slice (some ⟨w6.heap.size, 0, none⟩) 2 2, .slice A L c]) := ((kb.thenN k2).thenN k28).fresh k89 (fun i e => by omega)
            have k79 : Kp (fun x => x = w2.heap.size ∨ x = w.heap.size + 1) w7 ((w7.setCell ⟨w2.heap.size, 10, none⟩ (.slice (some ⟨w6.heap.size, 0, none⟩) 2 2)).setCells (w.heap.size + 1) 0 [.int .u64 5, n64 to, n64 m, n64 fr, n64 m, n64 fr, .int .u64 0, n64 ti, n64 sq, n64 li, .slice (some ⟨w6.heap.size, 0, none⟩) 2 2, .slice A L c]) := (k78.mono (fun i _ e => .inl e)).trans k89 (fun i _ e => e) (fun i _ e => .inr e)
            have hbl := two_bl (t := 10) (n := 2) (t' := 7) (n' := 3) (hb7.keep (by omega) k79 (fun e => by have := HZ.out; omega)) ((OwB.keep (xs := [8, 0]) (o5.keepN (k56.thenN k67)) k79 (fun i hi e => by have := hi.1; have := HZ.out; omega)).readsB) ((OwB.keep (xs := [0]) (o6.keepN k67) k79 (fun i hi e => by have := hi.1; have := HZ.out; omega)).readsB) (by unfold U64; decide) (by unfold U64; decide) (by unfold U64; decide) (by unfold U64; decide)
            have hpl := HH.out.keepN k09
            rw [HLL.out.1] at hpl
            have hfin : WrapP (m : Int) ti sq li fr to xs false w (.returned (.tuple #[.agg ([.int .u64 5, n64 to, n64 m, n64 fr, n64 m, n64 fr, .int .u64 0, n64 ti, n64 sq, n64 li, .slice (some ⟨w6.heap.size, 0, none⟩) 2 2, .slice A L c] : List Value).toArray, .int .i64 0])) ((w7.setCell ⟨w2.heap.size, 10, none⟩ (.slice (some ⟨w6.heap.size, 0, none⟩) 2 2)).setCells (w.heap.size + 1) 0 [.int .u64 5, n64 to, n64 m, n64 fr, n64 m, n64 fr, .int .u64 0, n64 ti, n64 sq, n64 li, .slice (some ⟨w6.heap.size, 0, none⟩) 2 2, .slice A L c]) := by
              unfold WrapP
              rw [hwf, show wrapB (m : Int) ti sq li fr to xs false = wrapD (m : Int) ti sq li fr to xs false by unfold wrapB; rw [if_pos hwf]]
              exact ⟨_, _, rfl, ⟨⟨show (5 : Nat) < 18446744073709551616 by decide, HU.out.2.2.2.2, hmU, HU.out.2.2.2.1, hmU, HU.out.2.2.2.1, show (0 : Nat) < 18446744073709551616 by decide, HU.out.1, HU.out.2.1, HU.out.2.2.1⟩, hbl, hpl⟩, k09⟩
            have HF := Lib.hid hfin
            have HL := Lib.hid (And.intro hst3 (And.intro hl8 (And.intro hst9 (And.intro hr9 hl2))))
            have c30 : w3.cell? ⟨w2.heap.size, 0, none⟩ = some (.int .u64 5) := hc3.at_ 0 rfl
            have f30 : w3.frozen? ⟨w2.heap.size, 0, none⟩ = false := hc3.2 0
            have c710 : w7.cell? ⟨w2.heap.size, 10, none⟩ = some (.slice none 0 0) := hc7.at_ 10 rfl
            have f710 : w7.frozen? ⟨w2.heap.size, 10, none⟩ = false := hc7.2 10
            have HZ4 := Lib.hid z4
            have HW := Lib.hid (And.intro hw3 (And.intro hw5 (And.intro hw6 hw7)))
            clear hw3 hw5 hw6 hw7 hst3 hl8 hst9 hr9 hl2 hfin hbl hpl hb7 hc3 hc4 hc7 hc8 hr8 o5 o6 k23 k34 k45 k56 k67 k47 k78 k28 k89 k09 k79 z4 z5 z6 z7 hz3
            go_wp2_with (first
              | ((with_reducible show wpList _ _ _ (Oper.mk _ (Op.load 25 _) _ _ _ _ :: _) _ _); refine wpl_val rfl (run_load_opv HL.out.2.2.2.2 rfl) ?_)
              | ((with_reducible show wpList _ _ _ (Oper.mk _ (Op.build 23 _) _ _ _ _ :: _) _ _); refine wpl_val rfl (run_build6 rfl rfl rfl rfl rfl rfl) ?_)
              | ((with_reducible show wpList _ _ _ (Oper.mk _ (Op.build 29 _) _ _ _ _ :: _) _ _); refine wpl_val rfl (run_buildR rfl rfl rfl rfl rfl) ?_)
              | ((with_reducible show wpList _ _ _ (Oper.mk _ (Op.store 29 _ _) _ _ _ _ :: _) _ _); first | (refine wpl_skip rfl (run_store_op HL.out.1 rfl rfl) ?_; rw [HW.out.1]) | (refine wpl_skip rfl (run_store_op HL.out.2.2.1 rfl rfl) ?_))
              | ((with_reducible show wpList _ _ _ (Oper.mk _ (Op.buildSlice 27 2 _) _ _ _ _ :: _) _ _); refine wpl_val rfl (run_two8 rfl rfl) ?_; rw [HW.out.2.1]; (try rw [HZ4.out]))
              | ((with_reducible show wpList _ _ _ (Oper.mk _ (Op.build 40 _) _ _ _ _ :: _) _ _); refine wpl_val rfl (run_buildRB rfl rfl rfl) ?_)
              | ((with_reducible show wpList _ _ _ (Oper.mk _ (Op.buildSlice 27 1 _) _ _ _ _ :: _) _ _); refine wpl_val rfl (run_one8 rfl) ?_; rw [HW.out.2.2.1])
              | ((with_reducible show wpList _ _ _ (Oper.mk _ (Op.buildSlice 26 2 _) _ _ _ _ :: _) _ _); refine wpl_val rfl (run_twoRBlk rfl rfl) ?_; rw [HW.out.2.2.2])
              | ((with_reducible show wpList _ _ _ (Oper.mk _ (Op.load 29 _) _ _ _ _ :: _) _ _); refine wpl_val rfl (run_load_opv HL.out.2.1 rfl) ?_))
            (try simp only [Exit.inBlock, Exit.then])
            refine bodyPost_ret (results_cell_tmp_at rfl _ _ rfl HL.out.2.2.2.1.1 Try.underlying29 rfl (by kernel_rfl)) rfl ?_
            exact HF.out
          · have hca := CellsAt.new w2 [.int .u64 0, .int .u64 0, .int .u64 0, .int .u64 0, .int .u64 0, .int .u64 0, .int .u64 0, .int .u64 0, .int .u64 0, .int .u64 0, .slice none 0 0, .slice none 0 0] 29
            have ka : KpN w2 (w2.alloc (.cells #[.int .u64 0, .int .u64 0, .int .u64 0, .int .u64 0, .int .u64 0, .int .u64 0, .int .u64 0, .int .u64 0, .int .u64 0, .int .u64 0, .slice none 0 0, .slice none 0 0] 29)) := (Kp.refl _ _).alloc _
            have hza : (w2.alloc (.cells #[.int .u64 0, .int .u64 0, .int .u64 0, .int .u64 0, .int .u64 0, .int .u64 0, .int .u64 0, .int .u64 0, .int .u64 0, .int .u64 0, .slice none 0 0, .slice none 0 0] 29)).heap.size = w2.heap.size + 1 := by simp
            have kc := Kp.setCells w2.heap.size [.int .u64 5, n64 to, n64 m, n64 fr, n64 m, n64 fr, .int .u64 0, n64 ti, n64 sq, n64 li, .slice none 0 0, .slice A L c] 0 (w2.alloc (.cells #[.int .u64 0, .int .u64 0, .int .u64 0, .int .u64 0, .int .u64 0, .int .u64 0, .int .u64 0, .int .u64 0, .int .u64 0, .int .u64 0, .slice none 0 0, .slice none 0 0] 29))
            have hst3 := run_storeAt_mid (P := Try.prog) (w2.alloc (.cells #[.int .u64 0, .int .u64 0, .int .u64 0, .int .u64 0, .int .u64 0, .int .u64 0, .int .u64 0, .int .u64 0, .int .u64 0, .int .u64 0, .slice none 0 0, .slice none 0 0] 29)) w2.heap.size 0 29 #[.int .u64 5, n64 to, n64 m, n64 fr, n64 m, n64 fr, .int .u64 0, n64 ti, n64 sq, n64 li, .slice none 0 0, .slice A L c] (hca.there _ (Nat.le_refl _)) (by kernel_rfl) (by kernel_rfl)
            have hc3 := hca.put (ds := [.int .u64 5, n64 to, n64 m, n64 fr, n64 m, n64 fr, .int .u64 0, n64 ti, n64 sq, n64 li, .slice none 0 0, .slice A L c]) rfl
            have k23 : KpN w2 ((w2.alloc (.cells #[.int .u64 0, .int .u64 0, .int .u64 0, .int .u64 0, .int .u64 0, .int .u64 0, .int .u64 0, .int .u64 0, .int .u64 0, .int .u64 0, .slice none 0 0, .slice none 0 0] 29)).setCells w2.heap.size 0 [.int .u64 5, n64 to, n64 m, n64 fr, n64 m, n64 fr, .int .u64 0, n64 ti, n64 sq, n64 li, .slice none 0 0, .slice A L c]) := ka.fresh kc (fun i e => by omega)
            have hz3 : w2.heap.size < ((w2.alloc (.cells #[.int .u64 0, .int .u64 0, .int .u64 0, .int .u64 0, .int .u64 0, .int .u64 0, .int .u64 0, .int .u64 0, .int .u64 0, .int .u64 0, .slice none 0 0, .slice none 0 0] 29)).setCells w2.heap.size 0 [.int .u64 5, n64 to, n64 m, n64 fr, n64 m, n64 fr, .int .u64 0, n64 ti, n64 sq, n64 li, .slice none 0 0, .slice A L c]).heap.size := by have := kc.size; omega
            clear ka hza kc hca
            obtain ⟨w3, hw3⟩ : ∃ w3, ((w2.alloc (.cells #[.int .u64 0, .int .u64 0, .int .u64 0, .int .u64 0, .int .u64 0, .int .u64 0, .int .u64 0, .int .u64 0, .int .u64 0, .int .u64 0, .slice none 0 0, .slice none 0 0] 29)).setCells w2.heap.size 0 [.int .u64 5, n64 to, n64 m, n64 fr, n64 m, n64 fr, .int .u64 0, n64 ti, n64 sq, n64 li, .slice none 0 0, .slice A L c]) = w3 := ⟨_, rfl⟩
            rw [hw3] at hc3 k23 hz3
            have hc4 : CellsAt (w3.setCell ⟨w2.heap.size, 0, none⟩ (.int .u64 7)) w2.heap.size [.int .u64 7, n64 to, n64 m, n64 fr, n64 m, n64 fr, .int .u64 0, n64 ti, n64 sq, n64 li, .slice none 0 0, .slice A L c] := hc3.set 0 (.int .u64 7) (by simp)
            have k34 : Kp (fun x => x = w2.heap.size) w3 (w3.setCell ⟨w2.heap.size, 0, none⟩ (.int .u64 7)) := kp1_set3 _ _ _
            have z4 : (w3.setCell ⟨w2.heap.size, 0, none⟩ (.int .u64 7)).heap.size = w3.heap.size := by simp
            have o5 := OwC.lit (w3.setCell ⟨w2.heap.size, 0, none⟩ (.int .u64 7)) 5 1 2 #[.int .u8 8, .int .u8 0] (by decide) rfl
            rw [z4] at o5
            have k45 : KpN (w3.setCell ⟨w2.heap.size, 0, none⟩ (.int .u64 7)) ((w3.setCell ⟨w2.heap.size, 0, none⟩ (.int .u64 7)).alloc (.cells #[.int .u8 8, .int .u8 0] 5)) := (Kp.refl _ _).alloc _
            have z5 : ((w3.setCell ⟨w2.heap.size, 0, none⟩ (.int .u64 7)).alloc (.cells #[.int .u8 8, .int .u8 0] 5)).heap.size = w3.heap.size + 1 := by simp
            obtain ⟨w5, hw5⟩ : ∃ w5, ((w3.setCell ⟨w2.heap.size, 0, none⟩ (.int .u64 7)).alloc (.cells #[.int .u8 8, .int .u8 0] 5)) = w5 := ⟨_, rfl⟩
            rw [hw5] at o5 k45 z5
            have o6 := OwC.lit w5 5 1 1 #[.int .u8 0] (by decide) rfl
            have k56 : KpN w5 (w5.alloc (.cells #[.int .u8 0] 5)) := (Kp.refl _ _).alloc _
            have z6 : (w5.alloc (.cells #[.int .u8 0] 5)).heap.size = w5.heap.size + 1 := by simp
            obtain ⟨w6, hw6⟩ : ∃ w6, (w5.alloc (.cells #[.int .u8 0] 5)) = w6 := ⟨_, rfl⟩
            rw [hw6] at o6 k56 z6
            have hb7 := CellsAt.new w6 [.int .u64 10, .int .u64 2, .int .u64 0, .slice (some ⟨w3.heap.size, 0, none⟩) 2 2, .int .u64 7, .int .u64 3, .int .u64 0, .slice (some ⟨w5.heap.size, 0, none⟩) 1 1] 40
            have k67 : KpN w6 (w6.alloc (.cells #[.int .u64 10, .int .u64 2, .int .u64 0, .slice (some ⟨w3.heap.size, 0, none⟩) 2 2, .int .u64 7, .int .u64 3, .int .u64 0, .slice (some ⟨w5.heap.size, 0, none⟩) 1 1] 40)) := (Kp.refl _ _).alloc _
            have z7 : (w6.alloc (.cells #[.int .u64 10, .int .u64 2, .int .u64 0, .slice (some ⟨w3.heap.size, 0, none⟩) 2 2, .int .u64 7, .int .u64 3, .int .u64 0, .slice (some ⟨w5.heap.size, 0, none⟩) 1 1] 40)).heap.size = w6.heap.size + 1 := by simp
            obtain ⟨w7, hw7⟩ : ∃ w7, (w6.alloc (.cells #[.int .u64 10, .int .u64 2, .int .u64 0, .slice (some ⟨w3.heap.size, 0, none⟩) 2 2, .int .u64 7, .int .u64 3, .int .u64 0, .slice (some ⟨w5.heap.size, 0, none⟩) 1 1] 40)) = w7 := ⟨_, rfl⟩
            rw [show (w6.alloc (.cells ([.int .u64 10, .int .u64 2, .int .u64 0, .slice (some ⟨w3.heap.size, 0, none⟩) 2 2, .int .u64 7, .int .u64 3, .int .u64 0, .slice (some ⟨w5.heap.size, 0, none⟩) 1 1] : List Value).toArray 40)) = w7 from hw7] at hb7
            rw [hw7] at k67 z7
            have k47 := (k45.thenN k56).thenN k67
            have hc7 : CellsAt w7 w2.heap.size [.int .u64 7, n64 to, n64 m, n64 fr, n64 m, n64 fr, .int .u64 0, n64 ti, n64 sq, n64 li, .slice none 0 0, .slice A L c] := hc4.keep (by omega) k47 (fun x => x)
            have hc8 : CellsAt (w7.setCell ⟨w2.heap.size, 10, none⟩ (.slice (some ⟨w6.heap.size, 0, none⟩) 2 2)) w2.heap.size [.int .u64 7, n64 to, n64 m, n64 fr, n64 m, n64 fr, .int .u64 0, n64 ti, n64 sq, n64 li, .slice (some ⟨w6.heap.size, 0, none⟩) 2 2, .slice A L c] := hc7.set 10 (.slice (some ⟨w6.heap.size, 0, none⟩) 2 2) (by simp)
            have hl8 := run_loadAt_rowat (P := Try.prog) hc8.1 Try.underlying29 rfl (by kernel_rfl)
            have k78 : Kp (fun x => x = w2.heap.size) w7 (w7.setCell ⟨w2.heap.size, 10, none⟩ (.slice (some ⟨w6.heap.size, 0, none⟩) 2 2)) := kp1_set3 _ _ _
            have k28 : KpN w2 (w7.setCell ⟨w2.heap.size, 10, none⟩ (.slice (some ⟨w6.heap.size, 0, none⟩) 2 2)) := ((k23.fresh k34 (fun i e => by omega)).thenN k47).fresh k78 (fun i e => by omega)
            have hr8 : CellsAt (w7.setCell ⟨w2.heap.size, 10, none⟩ (.slice (some ⟨w6.heap.size, 0, none⟩) 2 2)) (w.heap.size + 1) [.int .u64 0, .int .u64 0, .int .u64 0, .int .u64 0, .int .u64 0, .int .u64 0, .int .u64 0, .int .u64 0, .int .u64 0, .int .u64 0, .slice none 0 0, .slice none 0 0] := krs.keep (by have := HZ.out; omega) k28 (fun x => x)
            have hst9 := run_storeAt_mid (P := Try.prog) (w7.setCell ⟨w2.heap.size, 10, none⟩ (.slice (some ⟨w6.heap.size, 0, none⟩) 2 2)) (w.heap.size + 1) 0 29 #[.int .u64 7, n64 to, n64 m, n64 fr, n64 m, n64 fr, .int .u64 0, n64 ti, n64 sq, n64 li, .slice (some ⟨w6.heap.size, 0, none⟩) 2 2, .slice A L c] (hr8.there _ (Nat.le_refl _)) (by kernel_rfl) (by kernel_rfl)
            have hr9 := hr8.put (ds := [.int .u64 7, n64 to, n64 m, n64 fr, n64 m, n64 fr, .int .u64 0, n64 ti, n64 sq, n64 li, .slice (some ⟨w6.heap.size, 0, none⟩) 2 2, .slice A L c]) rfl
            have k89 := Kp.setCells (w.heap.size + 1) [.int .u64 7, n64 to, n64 m, n64 fr, n64 m, n64 fr, .int .u64 0, n64 ti, n64 sq, n64 li, .slice (some ⟨w6.heap.size, 0, none⟩) 2 2, .slice A L c] 0 (w7.setCell ⟨w2.heap.size, 10, none⟩ (.slice (some ⟨w6.heap.size, 0, none⟩) 2 2))
            have k09 : KpN w ((w7.setCell ⟨w2.heap.size, 10, none⟩ (.slice (some ⟨w6.heap.size, 0, none⟩) 2 2)).setCells (w.heap.size + 1) 0 [.int .u64 7, n64 to, n64 m, n64 fr, n64 m, n64 fr, .int .u64 0, n64 ti, n64 sq, n64 li, .slice (some ⟨w6.heap.size, 0, none⟩) 2 2, .slice A L c]) := ((kb.thenN k2).thenN k28).fresh k89 (fun i e => by omega)
            have k79 : Kp (fun x => x = w2.heap.size ∨ x = w.heap.size + 1) w7 ((w7.setCell ⟨w2.heap.size, 10, none⟩ (.slice (some ⟨w6.heap.size, 0, none⟩) 2 2)).setCells (w.heap.size + 1) 0 [.int .u64 7, n64 to, n64 m, n64 fr, n64 m, n64 fr, .int .u64 0, n64 ti, n64 sq, n64 li, .slice (some ⟨w6.heap.size, 0, none⟩) 2 2, .slice A L c]) := (k78.mono (fun i _ e => .inl e)).trans k89 (fun i _ e => e) (fun i _ e => .inr e)
            have hbl := two_bl (t := 10) (n := 2) (t' := 7) (n' := 3) (hb7.keep (by omega) k79 (fun e => by have := HZ.out; omega)) ((OwB.keep (xs := [8, 0]) (o5.keepN (k56.thenN k67)) k79 (fun i hi e => by have := hi.1; have := HZ.out; omega)).readsB) ((OwB.keep (xs := [0]) (o6.keepN k67) k79 (fun i hi e => by have := hi.1; have := HZ.out; omega)).readsB) (by unfold U64; decide) (by unfold U64; decide) (by unfold U64; decide) (by unfold U64; decide)
            have hpl := HH.out.keepN k09
            rw [HLL.out.1] at hpl
            have hfin : WrapP (m : Int) ti sq li fr to xs true w (.returned (.tuple #[.agg ([.int .u64 7, n64 to, n64 m, n64 fr, n64 m, n64 fr, .int .u64 0, n64 ti, n64 sq, n64 li, .slice (some ⟨w6.heap.size, 0, none⟩) 2 2, .slice A L c] : List Value).toArray, .int .i64 0])) ((w7.setCell ⟨w2.heap.size, 10, none⟩ (.slice (some ⟨w6.heap.size, 0, none⟩) 2 2)).setCells (w.heap.size + 1) 0 [.int .u64 7, n64 to, n64 m, n64 fr, n64 m, n64 fr, .int .u64 0, n64 ti, n64 sq, n64 li, .slice (some ⟨w6.heap.size, 0, none⟩) 2 2, .slice A L c]) := by
              unfold WrapP
              rw [hwf, show wrapB (m : Int) ti sq li fr to xs true = wrapD (m : Int) ti sq li fr to xs true by unfold wrapB; rw [if_pos hwf]]
              exact ⟨_, _, rfl, ⟨⟨show (7 : Nat) < 18446744073709551616 by decide, HU.out.2.2.2.2, hmU, HU.out.2.2.2.1, hmU, HU.out.2.2.2.1, show (0 : Nat) < 18446744073709551616 by decide, HU.out.1, HU.out.2.1, HU.out.2.2.1⟩, hbl, hpl⟩, k09⟩
            have HF := Lib.hid hfin
            have HL := Lib.hid (And.intro hst3 (And.intro hl8 (And.intro hst9 (And.intro hr9 hl2))))
            have c30 : w3.cell? ⟨w2.heap.size, 0, none⟩ = some (.int .u64 5) := hc3.at_ 0 rfl
            have f30 : w3.frozen? ⟨w2.heap.size, 0, none⟩ = false := hc3.2 0
            have c710 : w7.cell? ⟨w2.heap.size, 10, none⟩ = some (.slice none 0 0) := hc7.at_ 10 rfl
            have f710 : w7.frozen? ⟨w2.heap.size, 10, none⟩ = false := hc7.2 10
            have HZ4 := Lib.hid z4
            have HW := Lib.hid (And.intro hw3 (And.intro hw5 (And.intro hw6 hw7)))
            clear hw3 hw5 hw6 hw7 hst3 hl8 hst9 hr9 hl2 hfin hbl hpl hb7 hc3 hc4 hc7 hc8 hr8 o5 o6 k23 k34 k45 k56 k67 k47 k78 k28 k89 k09 k79 z4 z5 z6 z7 hz3
            go_wp2_with (first
              | ((with_reducible show wpList _ _ _ (Oper.mk _ (Op.load 25 _) _ _ _ _ :: _) _ _); refine wpl_val rfl (run_load_opv HL.out.2.2.2.2 rfl) ?_)
              | ((with_reducible show wpList _ _ _ (Oper.mk _ (Op.build 23 _) _ _ _ _ :: _) _ _); refine wpl_val rfl (run_build6 rfl rfl rfl rfl rfl rfl) ?_)
              | ((with_reducible show wpList _ _ _ (Oper.mk _ (Op.build 29 _) _ _ _ _ :: _) _ _); refine wpl_val rfl (run_buildR rfl rfl rfl rfl rfl) ?_)
              | ((with_reducible show wpList _ _ _ (Oper.mk _ (Op.store 29 _ _) _ _ _ _ :: _) _ _); first | (refine wpl_skip rfl (run_store_op HL.out.1 rfl rfl) ?_; rw [HW.out.1]) | (refine wpl_skip rfl (run_store_op HL.out.2.2.1 rfl rfl) ?_))
              | ((with_reducible show wpList _ _ _ (Oper.mk _ (Op.buildSlice 27 2 _) _ _ _ _ :: _) _ _); refine wpl_val rfl (run_two8 rfl rfl) ?_; rw [HW.out.2.1]; (try rw [HZ4.out]))
              | ((with_reducible show wpList _ _ _ (Oper.mk _ (Op.build 40 _) _ _ _ _ :: _) _ _); refine wpl_val rfl (run_buildRB rfl rfl rfl) ?_)
              | ((with_reducible show wpList _ _ _ (Oper.mk _ (Op.buildSlice 27 1 _) _ _ _ _ :: _) _ _); refine wpl_val rfl (run_one8 rfl) ?_; rw [HW.out.2.2.1])
              | ((with_reducible show wpList _ _ _ (Oper.mk _ (Op.buildSlice 26 2 _) _ _ _ _ :: _) _ _); refine wpl_val rfl (run_twoRBlk rfl rfl) ?_; rw [HW.out.2.2.2])
              | ((with_reducible show wpList _ _ _ (Oper.mk _ (Op.load 29 _) _ _ _ _ :: _) _ _); refine wpl_val rfl (run_load_opv HL.out.2.1 rfl) ?_))
            (try simp only [Exit.inBlock, Exit.then])
            refine bodyPost_ret (results_cell_tmp_at rfl _ _ rfl HL.out.2.2.2.1.1 Try.underlying29 rfl (by kernel_rfl)) rfl ?_
            exact HF.out
end Go.Proofs.Yteokkpmndfekoaa
