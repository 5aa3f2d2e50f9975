/- The statements against the document's disk: both. -/
import Derived.Test.YthkbgbbejgpeaaaYK
namespace Go.Proofs.Ythkbgbbejgpeaaa
open Go Go.RowKit
set_option maxRecDepth 100000

set_option maxHeartbeats 6400000 in
theorem both_c {w : World} {iv : Value} {img : List UInt8} {s : Int} (hi : RdB w iv img) (hl : img.length ≤ 1000000000) (hs : I64 s) :
    Calls Try.prog 29 #[.agg #[iv, .int .i64 s]] w (BothP w (startD img s)) := by
  obtain ⟨iA, ic, rfl, -⟩ := hi.form
  obtain ⟨L, hL⟩ : ∃ L, img.length = L := ⟨_, rfl⟩
  rw [hL] at hi hl ⊢
  have kb := (Kp.refl (fun _ => False) w).alloc (.cells #[.slice iA L ic, .int .i64 s] 40)
  have hbx : ∀ j v, #[Value.slice iA L ic, .int .i64 s][j]? = some v → (w.alloc (.cells #[.slice iA L ic, .int .i64 s] 40)).cell? ⟨w.heap.size, j, none⟩ = some v := fun j v hj => by
    rw [cell_of_row _ _ _ _ _ _ (heap_alloc_new _ _)]
    exact hj
  have hzb : w.heap.size < (w.alloc (.cells #[.slice iA L ic, .int .i64 s] 40)).heap.size := by simp
  have b0 := hbx 0 _ rfl
  have b1 := hbx 1 _ rfl
  have HI := Lib.hid (hi.keepN kb)
  have HL := Lib.hid hL
  clear hbx hi hL
  go_enter Try.func29, Try.ntmps29
  have hz1 : (w.alloc (.cells #[.slice iA L ic, .int .i64 s] 40)).heap.size = w.heap.size + 1 := by simp
  have HZ1 := Lib.hid hz1
  clear hz1
  by_cases h0 : L = 0
  · subst h0
    have himg : img = [] := List.eq_nil_of_length_eq_zero HL.out
    have hst : startD img s = if 1 ≤ s ∧ s ≤ 65536 then some (newD s.toNat) else none := by unfold startD; rw [if_neg (by simp [himg])]
    by_cases hb : 1 ≤ s ∧ s ≤ 65536
    · obtain ⟨n, rfl⟩ := Int.eq_ofNat_of_zero_le (show 0 ≤ s by omega)
      rw [if_pos hb] at hst
      have HST := Lib.hid hst
      clear hst himg
      go_wp2_with fail
      generalize w.alloc (.cells #[.slice iA 0 ic, .int .i64 (n : Int)] 40) = w1 at kb hzb b0 b1 HI ⊢
      refine (new_x (n := n) (by omega) (by omega)).mono ?_
      rintro e w2 ⟨g, rfl, hd, k2⟩
      have b12 : w2.cell? ⟨w.heap.size, 1, none⟩ = some (.int .i64 (n : Int)) := by rw [k2.cell hzb (fun x => x)]; exact b1
      have HD := Lib.hid hd
      clear hd
      go_wp2_with fail
      refine (new_r (n := n) (by omega) (by omega)).mono ?_
      rintro e w3 ⟨r, rfl, hr, k3⟩
      have hfin : BothP w (startD img (n : Int)) (.returned (.tuple #[.pointer (some ⟨g, 0, none⟩), .pointer (some ⟨r, 0, none⟩), .bool true])) w3 := by
        have z1 := kb.size
        have z2 := k2.size
        have z3 := k3.size
        rw [HST.out]
        exact ⟨_, _, g, r, rfl, HD.out.keepN k3, hr, (kb.thenN k2).thenN k3, fun x hx => ⟨by have := hx.1; omega, by have := hx.2; omega⟩, fun x hx => ⟨by have := hx.1; omega, hx.2⟩, fun x hx hy => by have := hx.2; have := hy.1; omega⟩
      have HF := Lib.hid hfin
      clear hfin hr b12
      go_wp2_with fail
      refine bodyPost_ret (results_tmp3 rfl _ _ _) rfl ?_
      exact HF.out
    · rw [if_neg hb] at hst
      have HST := Lib.hid hst
      clear hst himg
      go_wp2_with fail
      generalize w.alloc (.cells #[.slice iA 0 ic, .int .i64 s] 40) = w1 at kb hzb b0 b1 HI ⊢
      refine (dnew_bad (n := s) (by omega)).mono ?_
      rintro e w2 ⟨rfl, rfl⟩
      go_wp2_with fail
      refine (new_bad (n := s) (by omega)).mono ?_
      rintro e w3 ⟨rfl, rfl⟩
      go_wp2_with fail
      refine bodyPost_ret (results_tmp3 rfl _ _ _) rfl ?_
      rw [HST.out]
      exact ⟨rfl, kb⟩
  · have himg : img ≠ [] := fun e => h0 (by have := HL.out; rw [e] at this; simpa using this.symm)
    have hst : startD img s = loadD img := by unfold startD; rw [if_pos himg]
    have HST := Lib.hid hst
    have hLp : 0 < L := by omega
    obtain ⟨w1, hw1⟩ : ∃ w1, w.alloc (.cells #[.slice iA L ic, .int .i64 s] 40) = w1 := ⟨_, rfl⟩
    rw [hw1] at kb hzb b0 b1 HI HZ1
    obtain ⟨v2, w2, r2, o2, k2⟩ := full_c w1 HI.out (by rw [HL.out]; exact hl)
    obtain ⟨fb, cf, w3, r3, o3, k3, hfb, hfb2, hcf⟩ := full2_c w1 w2 201 202 201 202 rfl rfl o2 k2 (by rw [HL.out]; exact hl)
    rw [HL.out] at r3 o3 hcf
    have b03 : w3.cell? ⟨w.heap.size, 0, none⟩ = some (.slice iA L ic) := by rw [k3.cell hzb (fun x => x)]; exact b0
    have hfr : RdB w3 (.slice (some ⟨fb, 0, none⟩) L cf) img := by
      have := o3.readsB.take L (by omega)
      rwa [List.take_left' HL.out] at this
    have b02 : w2.cell? ⟨w.heap.size, 0, none⟩ = some (.slice iA L ic) := by rw [k2.cell hzb (fun x => x)]; exact b0
    have HO := Lib.hid o3
    have HFR := Lib.hid hfr
    obtain ⟨VA, vc, hv2, -⟩ := o2.readsB.form
    rw [hv2, HL.out] at r2 r3
    rw [HZ1.out, ← hw1] at r2
    clear o2 o3 hfr himg hst hv2 hw1
    go_wp2_with (at_builtin; (first | ((with_reducible show wpList _ _ _ _ _ (World.alloc (World.alloc w _) _)); refine app_op r2 rfl rfl ?_) | ((with_reducible show wpList _ _ _ _ _ (World.alloc w2 _)); refine app_op r3 rfl rfl ?_)))
    clear r2 r3
    have hc1 : w3.cell? ⟨fb, L, none⟩ = some (.int .u8 201) := by
      have := OwB.byteAt HO.out (by simp; rw [HL.out]) L (by simp; rw [HL.out]; omega)
      rw [this]
      have : (img ++ [201, 202])[L]'(by simp; rw [HL.out]; omega) = 201 := by have := HL.out; subst this; simp
      rw [this]
      rfl
    have hc2 : w3.cell? ⟨fb, L + 1, none⟩ = some (.int .u8 202) := by
      have := OwB.byteAt HO.out (by simp; rw [HL.out]) (L + 1) (by simp; rw [HL.out]; omega)
      rw [this]
      have : (img ++ [201, 202])[L + 1]'(by simp; rw [HL.out]; omega) = 202 := by have := HL.out; subst this; simp
      rw [this]
      rfl
    have hlb3 : w.heap.size < w3.heap.size := by have := k3.size; omega
    have HC := Lib.hid (And.intro hc1 hc2)
    clear hc1 hc2
    refine (load_x HFR.out (by omega)).mono ?_
    rintro e w4 h4
    rcases hld : loadD img with _ | dk
    · rw [hld] at h4
      obtain ⟨rfl, k4⟩ := h4
      have HLD := Lib.hid hld
      clear hld
      have b04 : w4.cell? ⟨w.heap.size, 0, none⟩ = some (.slice iA L ic) := by rw [k4.cell hlb3 (fun x => x)]; exact b03
      have k14 : KpN w1 w4 := k3.thenN k4
      go_wp2_with fail
      refine (load_r (HI.out.keepN k14) (by omega)).mono ?_
      rintro e w5 h5
      rw [HLD.out] at h5
      obtain ⟨rfl, k5⟩ := h5
      have k35 : KpN w3 w5 := k4.thenN k5
      have b05 : w5.cell? ⟨w.heap.size, 0, none⟩ = some (.slice iA L ic) := by rw [k5.cell (by have := k4.size; show w.heap.size < _; omega) (fun x => x)]; exact b04
      have z35 := k35.size
      clear b04
      go_wp2_with fail
      obtain ⟨M, hM⟩ : ∃ M, L + 2 = M := ⟨_, rfl⟩
      rw [hM] at hcf ⊢
      rw [hM] at HO
      have hMM : L ≤ M := by omega
      have hCc : L ≤ cf := by omega
      have hM1 : L < M := by omega
      have hix : ((M : Int) ≤ (L : Int) + 1) = False := propext ⟨fun h => by omega, fun h => h.elim⟩
      have hi0 : (0 ≤ (L : Int) + 1) = True := propext ⟨fun _ => trivial, fun _ => by omega⟩
      have hsum : IntKind.i64.wrap ((L : Int) + 1) = (L : Int) + 1 := IntWalk.i64_in _ (by omega)
      refine rg_begin 28 (fun _ => False) (by kernel_rfl) (fun w6 d6 => ?_)
      have hB := Bytes_c (ys := img) ((HFR.out.keepN k35).keepN d6) (((HI.out.keepN k14).keepN k5).keepN d6) (by rw [HL.out]; omega)
      rw [show decide (img = img) = true by simp] at hB
      refine rg_take 0 (d := (some 42)) (v := .slice (some ⟨fb, 0, none⟩) M cf) (by decide) rfl rfl (by kernel_rfl) (by kernel_rfl) (by kernel_rfl) (fun _ _ _ h => h) rfl (fun W => rfl) ?_
      conv => arg 8; simp only [Act.put, List.setIfInBounds_toArray, List.set_cons_zero, List.set_cons_succ]
      refine rg_take 1 (d := (some 43)) (v := .pointer (some ⟨w.heap.size, 0, none⟩)) (by decide) rfl rfl (by kernel_rfl) (by kernel_rfl) (by kernel_rfl) (fun _ _ _ h => h) rfl (fun W => by go_simp) ?_
      conv => arg 8; simp only [Act.put, List.setIfInBounds_toArray, List.set_cons_zero, List.set_cons_succ]
      refine rg_read 2 (d := (some 44)) (v := .slice iA L ic) (by decide) (by kernel_rfl) (by kernel_rfl) rfl rfl (by kernel_rfl) (by kernel_rfl) (by kernel_rfl) (fun _ _ _ h => h) rfl (fun W hW => by have hc := (hW.cell (p := ⟨w.heap.size, 0, none⟩) ((by have := d6.size; show w.heap.size < _; omega)) (fun x => x)).trans ((d6.cell (p := ⟨w.heap.size, 0, none⟩) (by show w.heap.size < _; omega) (fun x => x)).trans b05); go_simp) ?_
      conv => arg 8; simp only [Act.put, List.setIfInBounds_toArray, List.set_cons_zero, List.set_cons_succ]
      refine rg_take 3 (d := (some 45)) (v := .int .i64 L) (by decide) rfl rfl (by kernel_rfl) (by kernel_rfl) (by kernel_rfl) (fun _ _ _ h => h) rfl (fun W => by go_simp) ?_
      conv => arg 8; simp only [Act.put, List.setIfInBounds_toArray, List.set_cons_zero, List.set_cons_succ]
      refine rg_take 4 (d := (some 46)) (v := .slice (some ⟨fb, 0, none⟩) L cf) (by decide) rfl rfl (by kernel_rfl) (by kernel_rfl) (by kernel_rfl) (fun _ _ _ h => h) rfl (fun W => by go_simp) ?_
      conv => arg 8; simp only [Act.put, List.setIfInBounds_toArray, List.set_cons_zero, List.set_cons_succ]
      refine rg_take 5 (d := (some 47)) (v := .pointer (some ⟨w.heap.size, 0, none⟩)) (by decide) rfl rfl (by kernel_rfl) (by kernel_rfl) (by kernel_rfl) (fun _ _ _ h => h) rfl (fun W => by go_simp) ?_
      conv => arg 8; simp only [Act.put, List.setIfInBounds_toArray, List.set_cons_zero, List.set_cons_succ]
      refine rg_read 6 (d := (some 48)) (v := .slice iA L ic) (by decide) (by kernel_rfl) (by kernel_rfl) rfl rfl (by kernel_rfl) (by kernel_rfl) (by kernel_rfl) (fun _ _ _ h => h) rfl (fun W hW => by have hc := (hW.cell (p := ⟨w.heap.size, 0, none⟩) ((by have := d6.size; show w.heap.size < _; omega)) (fun x => x)).trans ((d6.cell (p := ⟨w.heap.size, 0, none⟩) (by show w.heap.size < _; omega) (fun x => x)).trans b05); go_simp) ?_
      conv => arg 8; simp only [Act.put, List.setIfInBounds_toArray, List.set_cons_zero, List.set_cons_succ]
      refine rg_call 7 (d := (some 49)) (by kernel_rfl) (hB) rfl rfl (by kernel_rfl) rfl rfl ?_
      rintro e w7 ⟨rfl, k7⟩
      refine ⟨_, rfl, k7, ?_⟩
      conv => arg 8; simp only [Act.put, List.setIfInBounds_toArray, List.set_cons_zero, List.set_cons_succ]
      have k37 : KpN w3 w7 := (k35.thenN d6).thenN k7
      have z37 := k37.size
      refine rg_take 8 (d := (some 50)) (v := .bool true) (by decide) rfl rfl (by kernel_rfl) (by kernel_rfl) (by kernel_rfl) (fun _ _ _ h => h) rfl (fun W => rfl) ?_
      conv => arg 8; simp only [Act.put, List.setIfInBounds_toArray, List.set_cons_zero, List.set_cons_succ]
      refine rg_take 9 (d := (some 51)) (v := .slice (some ⟨fb, 0, none⟩) M cf) (by decide) rfl rfl (by kernel_rfl) (by kernel_rfl) (by kernel_rfl) (fun _ _ _ h => h) rfl (fun W => rfl) ?_
      conv => arg 8; simp only [Act.put, List.setIfInBounds_toArray, List.set_cons_zero, List.set_cons_succ]
      refine rg_take 10 (d := (some 52)) (v := .pointer (some ⟨w.heap.size, 0, none⟩)) (by decide) rfl rfl (by kernel_rfl) (by kernel_rfl) (by kernel_rfl) (fun _ _ _ h => h) rfl (fun W => by go_simp) ?_
      conv => arg 8; simp only [Act.put, List.setIfInBounds_toArray, List.set_cons_zero, List.set_cons_succ]
      refine rg_read 11 (d := (some 53)) (v := .slice iA L ic) (by decide) (by kernel_rfl) (by kernel_rfl) rfl rfl (by kernel_rfl) (by kernel_rfl) (by kernel_rfl) (fun _ _ _ h => h) rfl (fun W hW => by have hc := (hW.cell (p := ⟨w.heap.size, 0, none⟩) ((by show w.heap.size < _; omega)) (fun x => x)).trans ((k37.cell (p := ⟨w.heap.size, 0, none⟩) hlb3 (fun x => x)).trans b03); go_simp) ?_
      conv => arg 8; simp only [Act.put, List.setIfInBounds_toArray, List.set_cons_zero, List.set_cons_succ]
      refine rg_take 12 (d := (some 54)) (v := .int .i64 L) (by decide) rfl rfl (by kernel_rfl) (by kernel_rfl) (by kernel_rfl) (fun _ _ _ h => h) rfl (fun W => by go_simp) ?_
      conv => arg 8; simp only [Act.put, List.setIfInBounds_toArray, List.set_cons_zero, List.set_cons_succ]
      refine rg_take 13 (d := (some 55)) (v := .pointer (some ⟨fb, L, none⟩)) (by decide) rfl rfl (by kernel_rfl) (by kernel_rfl) (by kernel_rfl) (fun _ _ _ h => h) rfl (fun W => by go_simp) ?_
      conv => arg 8; simp only [Act.put, List.setIfInBounds_toArray, List.set_cons_zero, List.set_cons_succ]
      refine rg_read 14 (d := (some 56)) (v := .int .u8 201) (by decide) (by kernel_rfl) (by kernel_rfl) rfl rfl (by kernel_rfl) (by kernel_rfl) (by kernel_rfl) (fun _ _ _ h => h) rfl (fun W hW => by have hc := (hW.cell (p := ⟨fb, L, none⟩) ((by show fb < _; omega)) (fun x => x)).trans ((k37.cell (p := ⟨fb, L, none⟩) hfb2 (fun x => x)).trans HC.out.1); go_simp) ?_
      conv => arg 8; simp only [Act.put, List.setIfInBounds_toArray, List.set_cons_zero, List.set_cons_succ]
      refine rg_take 15 (d := (some 57)) (v := .bool true) (by decide) rfl rfl (by kernel_rfl) (by kernel_rfl) (by kernel_rfl) (fun _ _ _ h => h) rfl (fun W => by go_simp) ?_
      conv => arg 8; simp only [Act.put, List.setIfInBounds_toArray, List.set_cons_zero, List.set_cons_succ]
      refine rg_take 16 (d := (some 58)) (v := .bool true) (by decide) rfl rfl (by kernel_rfl) (by kernel_rfl) (by kernel_rfl) (fun _ _ _ h => h) rfl (fun W => rfl) ?_
      conv => arg 8; simp only [Act.put, List.setIfInBounds_toArray, List.set_cons_zero, List.set_cons_succ]
      refine rg_take 17 (d := (some 59)) (v := .bool true) (by decide) rfl rfl (by kernel_rfl) (by kernel_rfl) (by kernel_rfl) (fun _ _ _ h => h) rfl (fun W => rfl) ?_
      conv => arg 8; simp only [Act.put, List.setIfInBounds_toArray, List.set_cons_zero, List.set_cons_succ]
      refine rg_take 18 (d := (some 60)) (v := .slice (some ⟨fb, 0, none⟩) M cf) (by decide) rfl rfl (by kernel_rfl) (by kernel_rfl) (by kernel_rfl) (fun _ _ _ h => h) rfl (fun W => rfl) ?_
      conv => arg 8; simp only [Act.put, List.setIfInBounds_toArray, List.set_cons_zero, List.set_cons_succ]
      refine rg_take 19 (d := (some 61)) (v := .pointer (some ⟨w.heap.size, 0, none⟩)) (by decide) rfl rfl (by kernel_rfl) (by kernel_rfl) (by kernel_rfl) (fun _ _ _ h => h) rfl (fun W => by go_simp) ?_
      conv => arg 8; simp only [Act.put, List.setIfInBounds_toArray, List.set_cons_zero, List.set_cons_succ]
      refine rg_read 20 (d := (some 62)) (v := .slice iA L ic) (by decide) (by kernel_rfl) (by kernel_rfl) rfl rfl (by kernel_rfl) (by kernel_rfl) (by kernel_rfl) (fun _ _ _ h => h) rfl (fun W hW => by have hc := (hW.cell (p := ⟨w.heap.size, 0, none⟩) ((by show w.heap.size < _; omega)) (fun x => x)).trans ((k37.cell (p := ⟨w.heap.size, 0, none⟩) hlb3 (fun x => x)).trans b03); go_simp) ?_
      conv => arg 8; simp only [Act.put, List.setIfInBounds_toArray, List.set_cons_zero, List.set_cons_succ]
      refine rg_take 21 (d := (some 63)) (v := .int .i64 L) (by decide) rfl rfl (by kernel_rfl) (by kernel_rfl) (by kernel_rfl) (fun _ _ _ h => h) rfl (fun W => by go_simp) ?_
      conv => arg 8; simp only [Act.put, List.setIfInBounds_toArray, List.set_cons_zero, List.set_cons_succ]
      refine rg_take 22 (d := (some 64)) (v := .int .i64 ((L : Int) + 1)) (by decide) rfl rfl (by kernel_rfl) (by kernel_rfl) (by kernel_rfl) (fun _ _ _ h => h) rfl (fun W => by go_simp) ?_
      conv => arg 8; simp only [Act.put, List.setIfInBounds_toArray, List.set_cons_zero, List.set_cons_succ]
      refine rg_take 23 (d := (some 65)) (v := .pointer (some ⟨fb, L + 1, none⟩)) (by decide) rfl rfl (by kernel_rfl) (by kernel_rfl) (by kernel_rfl) (fun _ _ _ h => h) rfl (fun W => by go_simp) ?_
      conv => arg 8; simp only [Act.put, List.setIfInBounds_toArray, List.set_cons_zero, List.set_cons_succ]
      refine rg_read 24 (d := (some 66)) (v := .int .u8 202) (by decide) (by kernel_rfl) (by kernel_rfl) rfl rfl (by kernel_rfl) (by kernel_rfl) (by kernel_rfl) (fun _ _ _ h => h) rfl (fun W hW => by have hc := (hW.cell (p := ⟨fb, L + 1, none⟩) ((by show fb < _; omega)) (fun x => x)).trans ((k37.cell (p := ⟨fb, L + 1, none⟩) hfb2 (fun x => x)).trans HC.out.2); go_simp) ?_
      conv => arg 8; simp only [Act.put, List.setIfInBounds_toArray, List.set_cons_zero, List.set_cons_succ]
      refine rg_take 25 (d := (some 67)) (v := .bool true) (by decide) rfl rfl (by kernel_rfl) (by kernel_rfl) (by kernel_rfl) (fun _ _ _ h => h) rfl (fun W => by go_simp) ?_
      conv => arg 8; simp only [Act.put, List.setIfInBounds_toArray, List.set_cons_zero, List.set_cons_succ]
      refine rg_take 26 (d := (some 68)) (v := .bool true) (by decide) rfl rfl (by kernel_rfl) (by kernel_rfl) (by kernel_rfl) (fun _ _ _ h => h) rfl (fun W => rfl) ?_
      conv => arg 8; simp only [Act.put, List.setIfInBounds_toArray, List.set_cons_zero, List.set_cons_succ]
      refine rg_take 27 (d := (some 10)) (v := .bool true) (by decide) rfl rfl (by kernel_rfl) (by kernel_rfl) (by kernel_rfl) (fun _ _ _ h => h) rfl (fun W => rfl) ?_
      conv => arg 8; simp only [Act.put, List.setIfInBounds_toArray, List.set_cons_zero, List.set_cons_succ]
      refine rg_done (by kernel_rfl) ?_
      have b07 : w7.cell? ⟨w.heap.size, 0, none⟩ = some (.slice iA L ic) := by rw [k37.cell hlb3 (fun x => x)]; exact b03
      have hlb7 : w.heap.size < w7.heap.size := by omega
      have hfw : fb ≠ w.heap.size := by omega
      have HO7 := Lib.hid (HO.out.keepN k37)
      have HM := Lib.hid (show (img ++ [201, 202]).length = M by simp; rw [HL.out]; exact hM)
      have HFIN := Lib.hid (show KpN w w7 from (kb.thenN k3).thenN k37)
      clear hB hM b05 k37 k35 hix hi0 hsum
      go_wp2_with fail
      go_loopw [11] (fun i wr => ∃ (q : Nat) (ys : List UInt8), q ≤ L ∧ i = .int .i64 q ∧ ys.length = M ∧ OwB wr 5 (fun z => z = fb) (.slice (some ⟨fb, 0, none⟩) M cf) ys ∧ Kp (fun x => x = fb) w7 wr) (fun i _ => L - (intOf i).toNat)
      case atStart => exact ⟨0, _, Nat.zero_le _, rfl, HM.out, HO7.out, Kp.refl _ _⟩
      case round =>
        obtain ⟨q, ys, hq, rfl, hyl, ho, hkq⟩ := hrel
        have b0r : wr.cell? ⟨w.heap.size, 0, none⟩ = some (.slice iA L ic) := by rw [hkq.cell hlb7 (fun e => hfw e.symm)]; exact b07
        by_cases hlt : q < L
        · have hqM : q < M := by omega
          have zk := ho.frozenAt q
          obtain ⟨Y, zs, hyb, ck, hp, hzl⟩ : ∃ (Y : Nat) (zs : List UInt8), Y < 256 ∧ wr.cell? ⟨fb, q, none⟩ = some (.int .u8 (Y : Int)) ∧ OwB (wr.setCell ⟨fb, q, none⟩ (.int .u8 (bits BinOp.xor IntKind.u8 (if IntKind.u8.signed = true then -1 else IntKind.u8.max) (Y : Int)))) 5 (fun z => z = fb) (.slice (some ⟨fb, 0, none⟩) M cf) zs ∧ zs.length = M := by
            refine ⟨(ys[q]'(by omega)).toNat, ys.set q (~~~(ys[q]'(by omega))), UInt8.toNat_lt _, ho.byteAt hyl.symm q (by omega), ?_, by simpa using hyl⟩
            have := ho.putB hyl.symm q (~~~(ys[q]'(by omega)))
            rw [bv_notZ] at this
            exact this
          have kp := hkq.setCell (p := ⟨fb, q, none⟩) (.inl rfl) (.int .u8 (bits BinOp.xor IntKind.u8 (if IntKind.u8.signed = true then -1 else IntKind.u8.max) (Y : Int)))
          have HP := Lib.hid (And.intro hp hzl)
          clear ho hp hzl hyl b03 b07
          go_wp2_with fail
          go_roundw
          case rel => exact ⟨q + 1, _, by omega, by go_num, HP.out.2, HP.out.1, kp⟩
          case measure => exact meas_up hlt
        · have hqT : L = q := by omega
          subst hqT
          have hfin : BothP w (startD img s) (.returned (.tuple #[.pointer none, .pointer none, .bool true])) wr := by
            rw [HST.out, HLD.out]
            exact ⟨rfl, HFIN.out.fresh hkq (fun x e => by rw [e]; have := kb.size; omega)⟩
          have HF := Lib.hid hfin
          clear hfin ho hyl b03 b07
          go_wp2_with fail
          refine bodyPost_ret (results_tmp3 rfl _ _ _) rfl ?_
          exact HF.out
    · rw [hld] at h4
      obtain ⟨g, rfl, hd, k4⟩ := h4
      have HD := Lib.hid hd
      clear hd
      have HLD := Lib.hid hld
      clear hld
      have b04 : w4.cell? ⟨w.heap.size, 0, none⟩ = some (.slice iA L ic) := by rw [k4.cell hlb3 (fun x => x)]; exact b03
      have k14 : KpN w1 w4 := k3.thenN k4
      go_wp2_with fail
      refine (load_r (HI.out.keepN k14) (by omega)).mono ?_
      rintro e w5 h5
      rw [HLD.out] at h5
      obtain ⟨r, rfl, hr, k5⟩ := h5
      have HR := Lib.hid hr
      clear hr
      have k35 : KpN w3 w5 := k4.thenN k5
      have b05 : w5.cell? ⟨w.heap.size, 0, none⟩ = some (.slice iA L ic) := by rw [k5.cell (by have := k4.size; show w.heap.size < _; omega) (fun x => x)]; exact b04
      have z35 := k35.size
      clear b04
      go_wp2_with fail
      obtain ⟨M, hM⟩ : ∃ M, L + 2 = M := ⟨_, rfl⟩
      rw [hM] at hcf ⊢
      rw [hM] at HO
      have hMM : L ≤ M := by omega
      have hCc : L ≤ cf := by omega
      have hM1 : L < M := by omega
      have hix : ((M : Int) ≤ (L : Int) + 1) = False := propext ⟨fun h => by omega, fun h => h.elim⟩
      have hi0 : (0 ≤ (L : Int) + 1) = True := propext ⟨fun _ => trivial, fun _ => by omega⟩
      have hsum : IntKind.i64.wrap ((L : Int) + 1) = (L : Int) + 1 := IntWalk.i64_in _ (by omega)
      refine rg_begin 28 (fun _ => False) (by kernel_rfl) (fun w6 d6 => ?_)
      have hB := Bytes_c (ys := img) ((HFR.out.keepN k35).keepN d6) (((HI.out.keepN k14).keepN k5).keepN d6) (by rw [HL.out]; omega)
      rw [show decide (img = img) = true by simp] at hB
      refine rg_take 0 (d := (some 42)) (v := .slice (some ⟨fb, 0, none⟩) M cf) (by decide) rfl rfl (by kernel_rfl) (by kernel_rfl) (by kernel_rfl) (fun _ _ _ h => h) rfl (fun W => rfl) ?_
      conv => arg 8; simp only [Act.put, List.setIfInBounds_toArray, List.set_cons_zero, List.set_cons_succ]
      refine rg_take 1 (d := (some 43)) (v := .pointer (some ⟨w.heap.size, 0, none⟩)) (by decide) rfl rfl (by kernel_rfl) (by kernel_rfl) (by kernel_rfl) (fun _ _ _ h => h) rfl (fun W => by go_simp) ?_
      conv => arg 8; simp only [Act.put, List.setIfInBounds_toArray, List.set_cons_zero, List.set_cons_succ]
      refine rg_read 2 (d := (some 44)) (v := .slice iA L ic) (by decide) (by kernel_rfl) (by kernel_rfl) rfl rfl (by kernel_rfl) (by kernel_rfl) (by kernel_rfl) (fun _ _ _ h => h) rfl (fun W hW => by have hc := (hW.cell (p := ⟨w.heap.size, 0, none⟩) ((by have := d6.size; show w.heap.size < _; omega)) (fun x => x)).trans ((d6.cell (p := ⟨w.heap.size, 0, none⟩) (by show w.heap.size < _; omega) (fun x => x)).trans b05); go_simp) ?_
      conv => arg 8; simp only [Act.put, List.setIfInBounds_toArray, List.set_cons_zero, List.set_cons_succ]
      refine rg_take 3 (d := (some 45)) (v := .int .i64 L) (by decide) rfl rfl (by kernel_rfl) (by kernel_rfl) (by kernel_rfl) (fun _ _ _ h => h) rfl (fun W => by go_simp) ?_
      conv => arg 8; simp only [Act.put, List.setIfInBounds_toArray, List.set_cons_zero, List.set_cons_succ]
      refine rg_take 4 (d := (some 46)) (v := .slice (some ⟨fb, 0, none⟩) L cf) (by decide) rfl rfl (by kernel_rfl) (by kernel_rfl) (by kernel_rfl) (fun _ _ _ h => h) rfl (fun W => by go_simp) ?_
      conv => arg 8; simp only [Act.put, List.setIfInBounds_toArray, List.set_cons_zero, List.set_cons_succ]
      refine rg_take 5 (d := (some 47)) (v := .pointer (some ⟨w.heap.size, 0, none⟩)) (by decide) rfl rfl (by kernel_rfl) (by kernel_rfl) (by kernel_rfl) (fun _ _ _ h => h) rfl (fun W => by go_simp) ?_
      conv => arg 8; simp only [Act.put, List.setIfInBounds_toArray, List.set_cons_zero, List.set_cons_succ]
      refine rg_read 6 (d := (some 48)) (v := .slice iA L ic) (by decide) (by kernel_rfl) (by kernel_rfl) rfl rfl (by kernel_rfl) (by kernel_rfl) (by kernel_rfl) (fun _ _ _ h => h) rfl (fun W hW => by have hc := (hW.cell (p := ⟨w.heap.size, 0, none⟩) ((by have := d6.size; show w.heap.size < _; omega)) (fun x => x)).trans ((d6.cell (p := ⟨w.heap.size, 0, none⟩) (by show w.heap.size < _; omega) (fun x => x)).trans b05); go_simp) ?_
      conv => arg 8; simp only [Act.put, List.setIfInBounds_toArray, List.set_cons_zero, List.set_cons_succ]
      refine rg_call 7 (d := (some 49)) (by kernel_rfl) (hB) rfl rfl (by kernel_rfl) rfl rfl ?_
      rintro e w7 ⟨rfl, k7⟩
      refine ⟨_, rfl, k7, ?_⟩
      conv => arg 8; simp only [Act.put, List.setIfInBounds_toArray, List.set_cons_zero, List.set_cons_succ]
      have k37 : KpN w3 w7 := (k35.thenN d6).thenN k7
      have z37 := k37.size
      refine rg_take 8 (d := (some 50)) (v := .bool true) (by decide) rfl rfl (by kernel_rfl) (by kernel_rfl) (by kernel_rfl) (fun _ _ _ h => h) rfl (fun W => rfl) ?_
      conv => arg 8; simp only [Act.put, List.setIfInBounds_toArray, List.set_cons_zero, List.set_cons_succ]
      refine rg_take 9 (d := (some 51)) (v := .slice (some ⟨fb, 0, none⟩) M cf) (by decide) rfl rfl (by kernel_rfl) (by kernel_rfl) (by kernel_rfl) (fun _ _ _ h => h) rfl (fun W => rfl) ?_
      conv => arg 8; simp only [Act.put, List.setIfInBounds_toArray, List.set_cons_zero, List.set_cons_succ]
      refine rg_take 10 (d := (some 52)) (v := .pointer (some ⟨w.heap.size, 0, none⟩)) (by decide) rfl rfl (by kernel_rfl) (by kernel_rfl) (by kernel_rfl) (fun _ _ _ h => h) rfl (fun W => by go_simp) ?_
      conv => arg 8; simp only [Act.put, List.setIfInBounds_toArray, List.set_cons_zero, List.set_cons_succ]
      refine rg_read 11 (d := (some 53)) (v := .slice iA L ic) (by decide) (by kernel_rfl) (by kernel_rfl) rfl rfl (by kernel_rfl) (by kernel_rfl) (by kernel_rfl) (fun _ _ _ h => h) rfl (fun W hW => by have hc := (hW.cell (p := ⟨w.heap.size, 0, none⟩) ((by show w.heap.size < _; omega)) (fun x => x)).trans ((k37.cell (p := ⟨w.heap.size, 0, none⟩) hlb3 (fun x => x)).trans b03); go_simp) ?_
      conv => arg 8; simp only [Act.put, List.setIfInBounds_toArray, List.set_cons_zero, List.set_cons_succ]
      refine rg_take 12 (d := (some 54)) (v := .int .i64 L) (by decide) rfl rfl (by kernel_rfl) (by kernel_rfl) (by kernel_rfl) (fun _ _ _ h => h) rfl (fun W => by go_simp) ?_
      conv => arg 8; simp only [Act.put, List.setIfInBounds_toArray, List.set_cons_zero, List.set_cons_succ]
      refine rg_take 13 (d := (some 55)) (v := .pointer (some ⟨fb, L, none⟩)) (by decide) rfl rfl (by kernel_rfl) (by kernel_rfl) (by kernel_rfl) (fun _ _ _ h => h) rfl (fun W => by go_simp) ?_
      conv => arg 8; simp only [Act.put, List.setIfInBounds_toArray, List.set_cons_zero, List.set_cons_succ]
      refine rg_read 14 (d := (some 56)) (v := .int .u8 201) (by decide) (by kernel_rfl) (by kernel_rfl) rfl rfl (by kernel_rfl) (by kernel_rfl) (by kernel_rfl) (fun _ _ _ h => h) rfl (fun W hW => by have hc := (hW.cell (p := ⟨fb, L, none⟩) ((by show fb < _; omega)) (fun x => x)).trans ((k37.cell (p := ⟨fb, L, none⟩) hfb2 (fun x => x)).trans HC.out.1); go_simp) ?_
      conv => arg 8; simp only [Act.put, List.setIfInBounds_toArray, List.set_cons_zero, List.set_cons_succ]
      refine rg_take 15 (d := (some 57)) (v := .bool true) (by decide) rfl rfl (by kernel_rfl) (by kernel_rfl) (by kernel_rfl) (fun _ _ _ h => h) rfl (fun W => by go_simp) ?_
      conv => arg 8; simp only [Act.put, List.setIfInBounds_toArray, List.set_cons_zero, List.set_cons_succ]
      refine rg_take 16 (d := (some 58)) (v := .bool true) (by decide) rfl rfl (by kernel_rfl) (by kernel_rfl) (by kernel_rfl) (fun _ _ _ h => h) rfl (fun W => rfl) ?_
      conv => arg 8; simp only [Act.put, List.setIfInBounds_toArray, List.set_cons_zero, List.set_cons_succ]
      refine rg_take 17 (d := (some 59)) (v := .bool true) (by decide) rfl rfl (by kernel_rfl) (by kernel_rfl) (by kernel_rfl) (fun _ _ _ h => h) rfl (fun W => rfl) ?_
      conv => arg 8; simp only [Act.put, List.setIfInBounds_toArray, List.set_cons_zero, List.set_cons_succ]
      refine rg_take 18 (d := (some 60)) (v := .slice (some ⟨fb, 0, none⟩) M cf) (by decide) rfl rfl (by kernel_rfl) (by kernel_rfl) (by kernel_rfl) (fun _ _ _ h => h) rfl (fun W => rfl) ?_
      conv => arg 8; simp only [Act.put, List.setIfInBounds_toArray, List.set_cons_zero, List.set_cons_succ]
      refine rg_take 19 (d := (some 61)) (v := .pointer (some ⟨w.heap.size, 0, none⟩)) (by decide) rfl rfl (by kernel_rfl) (by kernel_rfl) (by kernel_rfl) (fun _ _ _ h => h) rfl (fun W => by go_simp) ?_
      conv => arg 8; simp only [Act.put, List.setIfInBounds_toArray, List.set_cons_zero, List.set_cons_succ]
      refine rg_read 20 (d := (some 62)) (v := .slice iA L ic) (by decide) (by kernel_rfl) (by kernel_rfl) rfl rfl (by kernel_rfl) (by kernel_rfl) (by kernel_rfl) (fun _ _ _ h => h) rfl (fun W hW => by have hc := (hW.cell (p := ⟨w.heap.size, 0, none⟩) ((by show w.heap.size < _; omega)) (fun x => x)).trans ((k37.cell (p := ⟨w.heap.size, 0, none⟩) hlb3 (fun x => x)).trans b03); go_simp) ?_
      conv => arg 8; simp only [Act.put, List.setIfInBounds_toArray, List.set_cons_zero, List.set_cons_succ]
      refine rg_take 21 (d := (some 63)) (v := .int .i64 L) (by decide) rfl rfl (by kernel_rfl) (by kernel_rfl) (by kernel_rfl) (fun _ _ _ h => h) rfl (fun W => by go_simp) ?_
      conv => arg 8; simp only [Act.put, List.setIfInBounds_toArray, List.set_cons_zero, List.set_cons_succ]
      refine rg_take 22 (d := (some 64)) (v := .int .i64 ((L : Int) + 1)) (by decide) rfl rfl (by kernel_rfl) (by kernel_rfl) (by kernel_rfl) (fun _ _ _ h => h) rfl (fun W => by go_simp) ?_
      conv => arg 8; simp only [Act.put, List.setIfInBounds_toArray, List.set_cons_zero, List.set_cons_succ]
      refine rg_take 23 (d := (some 65)) (v := .pointer (some ⟨fb, L + 1, none⟩)) (by decide) rfl rfl (by kernel_rfl) (by kernel_rfl) (by kernel_rfl) (fun _ _ _ h => h) rfl (fun W => by go_simp) ?_
      conv => arg 8; simp only [Act.put, List.setIfInBounds_toArray, List.set_cons_zero, List.set_cons_succ]
      refine rg_read 24 (d := (some 66)) (v := .int .u8 202) (by decide) (by kernel_rfl) (by kernel_rfl) rfl rfl (by kernel_rfl) (by kernel_rfl) (by kernel_rfl) (fun _ _ _ h => h) rfl (fun W hW => by have hc := (hW.cell (p := ⟨fb, L + 1, none⟩) ((by show fb < _; omega)) (fun x => x)).trans ((k37.cell (p := ⟨fb, L + 1, none⟩) hfb2 (fun x => x)).trans HC.out.2); go_simp) ?_
      conv => arg 8; simp only [Act.put, List.setIfInBounds_toArray, List.set_cons_zero, List.set_cons_succ]
      refine rg_take 25 (d := (some 67)) (v := .bool true) (by decide) rfl rfl (by kernel_rfl) (by kernel_rfl) (by kernel_rfl) (fun _ _ _ h => h) rfl (fun W => by go_simp) ?_
      conv => arg 8; simp only [Act.put, List.setIfInBounds_toArray, List.set_cons_zero, List.set_cons_succ]
      refine rg_take 26 (d := (some 68)) (v := .bool true) (by decide) rfl rfl (by kernel_rfl) (by kernel_rfl) (by kernel_rfl) (fun _ _ _ h => h) rfl (fun W => rfl) ?_
      conv => arg 8; simp only [Act.put, List.setIfInBounds_toArray, List.set_cons_zero, List.set_cons_succ]
      refine rg_take 27 (d := (some 10)) (v := .bool true) (by decide) rfl rfl (by kernel_rfl) (by kernel_rfl) (by kernel_rfl) (fun _ _ _ h => h) rfl (fun W => rfl) ?_
      conv => arg 8; simp only [Act.put, List.setIfInBounds_toArray, List.set_cons_zero, List.set_cons_succ]
      refine rg_done (by kernel_rfl) ?_
      have b07 : w7.cell? ⟨w.heap.size, 0, none⟩ = some (.slice iA L ic) := by rw [k37.cell hlb3 (fun x => x)]; exact b03
      have hlb7 : w.heap.size < w7.heap.size := by omega
      have hfw : fb ≠ w.heap.size := by omega
      have HO7 := Lib.hid (HO.out.keepN k37)
      have HM := Lib.hid (show (img ++ [201, 202]).length = M by simp; rw [HL.out]; exact hM)
      have z3 := k3.size
      have z4 := k4.size
      have z5 := k5.size
      have z6 := d6.size
      have z7 := k7.size
      have HFIN := Lib.hid (show TwoM w w7 (Iv w3.heap.size w4.heap.size) (Iv w4.heap.size w5.heap.size) g r 0 dk dk from ⟨((HD.out.keepN k5).keepN d6).keepN k7, (HR.out.keepN d6).keepN k7, (kb.thenN k3).thenN k37, fun x hx => ⟨by have := hx.1; omega, by have := hx.2; omega⟩, fun x hx => ⟨by have := hx.1; omega, by have := hx.2; omega⟩, fun x hx hy => by have := hx.2; have := hy.1; omega⟩)
      clear hB hM b05 k37 k35 hix hi0 hsum
      go_wp2_with fail
      go_loopw [11] (fun i wr => ∃ (q : Nat) (ys : List UInt8), q ≤ L ∧ i = .int .i64 q ∧ ys.length = M ∧ OwB wr 5 (fun z => z = fb) (.slice (some ⟨fb, 0, none⟩) M cf) ys ∧ Kp (fun x => x = fb) w7 wr) (fun i _ => L - (intOf i).toNat)
      case atStart => exact ⟨0, _, Nat.zero_le _, rfl, HM.out, HO7.out, Kp.refl _ _⟩
      case round =>
        obtain ⟨q, ys, hq, rfl, hyl, ho, hkq⟩ := hrel
        have b0r : wr.cell? ⟨w.heap.size, 0, none⟩ = some (.slice iA L ic) := by rw [hkq.cell hlb7 (fun e => hfw e.symm)]; exact b07
        by_cases hlt : q < L
        · have hqM : q < M := by omega
          have zk := ho.frozenAt q
          obtain ⟨Y, zs, hyb, ck, hp, hzl⟩ : ∃ (Y : Nat) (zs : List UInt8), Y < 256 ∧ wr.cell? ⟨fb, q, none⟩ = some (.int .u8 (Y : Int)) ∧ OwB (wr.setCell ⟨fb, q, none⟩ (.int .u8 (bits BinOp.xor IntKind.u8 (if IntKind.u8.signed = true then -1 else IntKind.u8.max) (Y : Int)))) 5 (fun z => z = fb) (.slice (some ⟨fb, 0, none⟩) M cf) zs ∧ zs.length = M := by
            refine ⟨(ys[q]'(by omega)).toNat, ys.set q (~~~(ys[q]'(by omega))), UInt8.toNat_lt _, ho.byteAt hyl.symm q (by omega), ?_, by simpa using hyl⟩
            have := ho.putB hyl.symm q (~~~(ys[q]'(by omega)))
            rw [bv_notZ] at this
            exact this
          have kp := hkq.setCell (p := ⟨fb, q, none⟩) (.inl rfl) (.int .u8 (bits BinOp.xor IntKind.u8 (if IntKind.u8.signed = true then -1 else IntKind.u8.max) (Y : Int)))
          have HP := Lib.hid (And.intro hp hzl)
          clear ho hp hzl hyl b03 b07
          go_wp2_with fail
          go_roundw
          case rel => exact ⟨q + 1, _, by omega, by go_num, HP.out.2, HP.out.1, kp⟩
          case measure => exact meas_up hlt
        · have hqT : L = q := by omega
          subst hqT
          have hfin : BothP w (startD img s) (.returned (.tuple #[.pointer (some ⟨g, 0, none⟩), .pointer (some ⟨r, 0, none⟩), .bool true])) wr := by
            rw [HST.out, HLD.out]
            exact ⟨_, _, g, r, rfl, HFIN.out.keep hkq (fun x hx e => by have := hx.1; omega) (fun x hx e => by have := hx.1; omega) (fun x e => by rw [e]; have := kb.size; omega)⟩
          have HF := Lib.hid hfin
          clear hfin ho hyl b03 b07
          go_wp2_with fail
          refine bodyPost_ret (results_tmp3 rfl _ _ _) rfl ?_
          exact HF.out
end Go.Proofs.Ythkbgbbejgpeaaa
