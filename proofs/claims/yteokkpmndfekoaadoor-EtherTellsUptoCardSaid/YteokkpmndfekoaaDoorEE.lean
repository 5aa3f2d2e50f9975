/- A way: Double, Take, Drop. -/
import Derived.Test.YteokkpmndfekoaaDoorED
namespace Go.Proofs.YteokkpmndfekoaaDoor
open Go Go.RowKit
set_option maxRecDepth 100000
-- %lastw

/-- the datagram at a place -/
def atS (st : List (List UInt8 × Bool)) (i : Int) : Option (List UInt8 × Bool) := if i < 0 then none else st[i.toNat]?
theorem atS_out {st : List (List UInt8 × Bool)} {i : Int} (h : i < 0 ∨ (st.length : Int) ≤ i) : atS st i = none := by
  unfold atS
  split
  · rfl
  · exact List.getElem?_eq_none (by omega)
theorem atS_in {st : List (List UInt8 × Bool)} {j : Nat} (h : j < st.length) : atS st (j : Int) = some st[j] := by
  unfold atS
  rw [if_neg (by omega), Int.toNat_natCast]
  exact List.getElem?_eq_getElem h
theorem stOf_get (ls : List Dg) (j : Nat) (h : j < ls.length) : (stOf ls)[j]'(by rw [stOf_len]; exact h) = (ls[j].b, ls[j].t) := by simp [stOf]
def doubleS (n : Nat) (st : List (List UInt8 × Bool)) (i : Int) : Nat × List (List UInt8 × Bool) := match atS st i with
  | none => (4, st)
  | some d => if st.length = n then (2, st) else (0, st ++ [d])
set_option maxHeartbeats 3200000 in
theorem way_double {w : World} {F : Nat → Prop} {g n : Nat} {st : List (List UInt8 × Bool)} {i : Int} (hX : WayX true 68 w F g n st) :
    Calls Tryd.prog 12 #[.pointer (some ⟨g, 0, none⟩), .int .i64 i] w (WOpP true 68 w F g n (.int .i64 ((doubleS n st i).1 : Int)) (doubleS n st i).2) := by
  obtain ⟨v, ls, h, rfl⟩ := hX
  by_cases hout : i < 0 ∨ (ls.length : Int) ≤ i
  · have hM := way_out h hout
    have hfin : WOpP true 68 w F g n (.int .i64 ((doubleS n (stOf ls) i).1 : Int)) (doubleS n (stOf ls) i).2 (.returned (.int .i64 4)) w := by
      rw [show doubleS n (stOf ls) i = (4, stOf ls) by unfold doubleS; rw [atS_out (by rw [stOf_len]; exact hout)]]
      exact ⟨rfl, F, ⟨v, ls, h, rfl⟩, Gr.refl _ _ _, Kp.refl _ _⟩
    have HF := Lib.hid hfin
    clear hfin h hout
    go_enter Tryd.func12, Tryd.ntmps12
    go_wp2_with fail
    refine hM.mono ?_
    rintro e w2 ⟨rfl, rfl⟩
    go_wp2
    go_ret
    exact HF.out
  · obtain ⟨j, rfl⟩ := Int.eq_ofNat_of_zero_le (show 0 ≤ i by omega)
    have hj : j < ls.length := by omega
    obtain ⟨gr, vc, rfl, -, hvc⟩ := h.r.form (by omega)
    have hM := way_at h hj
    obtain ⟨m, hm⟩ : ∃ m, ls.length = m := ⟨_, rfl⟩
    have hat := atS_in (st := stOf ls) (j := j) (by rw [stOf_len]; exact hj)
    rw [stOf_get ls j hj] at hat
    have c1 := h.c1
    have c0 := h.c0
    rw [hm] at c1 h
    clear hout
    by_cases h2 : m = n
    · have hfin : WOpP true 68 w F g n (.int .i64 ((doubleS n (stOf ls) (j : Int)).1 : Int)) (doubleS n (stOf ls) (j : Int)).2 (.returned (.int .i64 2)) w.drew := by
        rw [show doubleS n (stOf ls) (j : Int) = (2, stOf ls) by unfold doubleS; rw [hat]; exact if_pos (by rw [stOf_len]; omega)]
        exact ⟨rfl, F, ⟨_, ls, h.keepN (Kp.refl _ w).drew, rfl⟩, Gr.refl _ _ _, (Kp.refl _ w).drew⟩
      have HF := Lib.hid hfin
      clear hfin h hat hm hj
      subst h2
      go_enter Tryd.func12, Tryd.ntmps12
      go_wp2_with fail
      refine hM.mono ?_
      rintro e w2 ⟨rfl, rfl⟩
      go_wp2
      go_region
      go_wp2
      go_ret
      exact HF.out
    · have hps : doubleS n (stOf ls) (j : Int) = (0, stOf ls ++ [(ls[j].b, ls[j].t)]) := by unfold doubleS; rw [hat]; exact if_neg (by rw [stOf_len]; omega)
      have h2' : ((m : Int) == (n : Int)) = false := by simp; omega
      have HPS := Lib.hid hps
      have HH := Lib.hid (And.intro h hm)
      have hn1 := h.lt
      have hle := h.le
      have hne := h.ne
      have hb := (h.r.all.each _ (List.getElem_mem hj)).readsB
      have hp0 := h.r.p0 j hj
      have hp1 := h.r.p1 j hj
      have hsm := h.sm _ (List.getElem_mem hj)
      have hgr : gr < w.heap.size := h.r.row.lt gr rfl
      generalize ls[j] = d at *
      obtain ⟨dv, xs, t⟩ := d
      dsimp only at hp0 hp1 hsm hb hps hat HPS
      obtain ⟨A, c, rfl, -⟩ := hb.form
      obtain ⟨L, hL⟩ : ∃ L, xs.length = L := ⟨_, rfl⟩
      rw [hL] at hb hp1 hsm
      have HB := Lib.hid (And.intro hb hL)
      have HP := Lib.hid (And.intro hp0 hp1)
      clear hps h hb hat hL hp0 hp1
      go_enter Tryd.func12, Tryd.ntmps12
      go_wp2_with fail
      refine hM.mono ?_
      rintro e w2 ⟨rfl, rfl⟩
      go_wp2
      go_region
      go_wp2_with fail
      refine rg_begin 16 (fun _ => False) (by kernel_rfl) (fun w1 d1 => ?_)
      have k01 : KpN w w1 := (Kp.refl (fun _ => False) w).drew.thenN d1
      have hh1 := HH.out.1.keepN k01
      have hp01 : w1.cell? ⟨gr, j * 2, none⟩ = some (.bool t) := by rw [k01.cell hgr (fun x => x)]; exact HP.out.1
      have hp11 : w1.cell? ⟨gr, j * 2 + 1, none⟩ = some (.slice A L c) := by rw [k01.cell hgr (fun x => x)]; exact HP.out.2
      have hrow1 : RowAt w1 ⟨gr, j * 2, none⟩ [.bool t] := fun i v hi => by
        match i, hi with
        | 0, hi => simp at hi; subst hi; exact hp01
      have hgr1 : gr < w1.heap.size := by have := k01.size; omega
      refine rg_take 0 (d := (some 26)) (v := .pointer (some ⟨g, 0, none⟩)) (by decide) rfl rfl (by kernel_rfl) (by kernel_rfl) (by kernel_rfl) (fun _ _ _ h => h) rfl (fun W => rfl) ?_
      conv => arg 8; simp only [Act.put, List.setIfInBounds_toArray, List.set_cons_zero, List.set_cons_succ]
      refine rg_take 1 (d := (some 27)) (v := .pointer (some ⟨g, 0, none⟩)) (by decide) rfl rfl (by kernel_rfl) (by kernel_rfl) (by kernel_rfl) (fun _ _ _ h => h) rfl (fun W => rfl) ?_
      conv => arg 8; simp only [Act.put, List.setIfInBounds_toArray, List.set_cons_zero, List.set_cons_succ]
      refine rg_take 2 (d := (some 28)) (v := .pointer (some ⟨g, 0, none⟩)) (by decide) rfl rfl (by kernel_rfl) (by kernel_rfl) (by kernel_rfl) (fun _ _ _ h => h) rfl (fun W => by go_simp) ?_
      conv => arg 8; simp only [Act.put, List.setIfInBounds_toArray, List.set_cons_zero, List.set_cons_succ]
      refine rg_take 3 (d := (some 29)) (v := .pointer (some ⟨g, 1, none⟩)) (by decide) rfl rfl (by kernel_rfl) (by kernel_rfl) (by kernel_rfl) (fun _ _ _ h => h) rfl (fun W => by go_simp) ?_
      conv => arg 8; simp only [Act.put, List.setIfInBounds_toArray, List.set_cons_zero, List.set_cons_succ]
      refine rg_read 4 (d := (some 30)) (v := .slice (some ⟨gr, 0, none⟩) m vc) (by decide) (by kernel_rfl) (by kernel_rfl) rfl rfl (by kernel_rfl) (by kernel_rfl) (by kernel_rfl) (fun _ _ _ h => h) rfl (fun W hW => by have hc := (hW.cell (p := ⟨g, 1, none⟩) (hh1.lt) (fun x => x)).trans (hh1.c1); go_simp) ?_
      conv => arg 8; simp only [Act.put, List.setIfInBounds_toArray, List.set_cons_zero, List.set_cons_succ]
      refine rg_take 5 (d := (some 31)) (v := .pointer (some ⟨gr, j * 2, none⟩)) (by decide) rfl rfl (by kernel_rfl) (by kernel_rfl) (by kernel_rfl) (fun _ _ _ h => h) rfl (fun W => rfl) ?_
      conv => arg 8; simp only [Act.put, List.setIfInBounds_toArray, List.set_cons_zero, List.set_cons_succ]
      refine rg_take 6 (d := (some 32)) (v := .pointer (some ⟨gr, j * 2, none⟩)) (by decide) rfl rfl (by kernel_rfl) (by kernel_rfl) (by kernel_rfl) (fun _ _ _ h => h) rfl (fun W => by go_simp) ?_
      conv => arg 8; simp only [Act.put, List.setIfInBounds_toArray, List.set_cons_zero, List.set_cons_succ]
      refine rg_take 7 (d := (some 33)) (v := .pointer (some ⟨gr, j * 2, none⟩)) (by decide) rfl rfl (by kernel_rfl) (by kernel_rfl) (by kernel_rfl) (fun _ _ _ h => h) rfl (fun W => by go_simp) ?_
      conv => arg 8; simp only [Act.put, List.setIfInBounds_toArray, List.set_cons_zero, List.set_cons_succ]
      refine rg_readD 8 [14, 15, 16, 17, 18, 19] (d := (some 34)) (v := .agg #[.bool t]) (by decide) (by kernel_rfl) (by kernel_rfl) (by kernel_rfl) rfl rfl (by kernel_rfl) (by kernel_rfl) (by kernel_rfl) (fun _ _ _ h => h) rfl (fun W hW => by exact run_load_op (hrow1.keep hW (fun x => x)) rfl Tryd.underlying66 rfl (by kernel_rfl)) ?_
      conv => arg 8; simp only [Act.put, List.setIfInBounds_toArray, List.set_cons_zero, List.set_cons_succ]
      refine rg_take 9 (d := (some 35)) (v := .pointer (some ⟨gr, j * 2, none⟩)) (by decide) rfl rfl (by kernel_rfl) (by kernel_rfl) (by kernel_rfl) (fun _ _ _ h => h) rfl (fun W => rfl) ?_
      conv => arg 8; simp only [Act.put, List.setIfInBounds_toArray, List.set_cons_zero, List.set_cons_succ]
      refine rg_take 10 (d := (some 36)) (v := .pointer (some ⟨gr, j * 2, none⟩)) (by decide) rfl rfl (by kernel_rfl) (by kernel_rfl) (by kernel_rfl) (fun _ _ _ h => h) rfl (fun W => by go_simp) ?_
      conv => arg 8; simp only [Act.put, List.setIfInBounds_toArray, List.set_cons_zero, List.set_cons_succ]
      refine rg_take 11 (d := (some 37)) (v := .pointer (some ⟨gr, j * 2 + 1, none⟩)) (by decide) rfl rfl (by kernel_rfl) (by kernel_rfl) (by kernel_rfl) (fun _ _ _ h => h) rfl (fun W => by go_simp) ?_
      conv => arg 8; simp only [Act.put, List.setIfInBounds_toArray, List.set_cons_zero, List.set_cons_succ]
      refine rg_readD 12 [13, 14, 15, 16, 17, 18, 19] (d := (some 38)) (v := .slice A L c) (by decide) (by kernel_rfl) (by kernel_rfl) (by kernel_rfl) rfl rfl (by kernel_rfl) (by kernel_rfl) (by kernel_rfl) (fun _ _ _ h => h) rfl (fun W hW => by have hc := (hW.cell (p := ⟨gr, j * 2 + 1, none⟩) (hgr1) (fun x => x)).trans (hp11); go_simp) ?_
      conv => arg 8; simp only [Act.put, List.setIfInBounds_toArray, List.set_cons_zero, List.set_cons_succ]
      refine rg_call 13 (d := (some 39)) (by kernel_rfl) (clone_c (HB.out.1.keepN k01) (by rw [HB.out.2]; omega)) rfl rfl (by kernel_rfl) rfl rfl ?_
      rintro e w2 ⟨u, rfl, ou, k2⟩
      refine ⟨_, rfl, k2, ?_⟩
      conv => arg 8; simp only [Act.put, List.setIfInBounds_toArray, List.set_cons_zero, List.set_cons_succ]
      obtain ⟨Au, cu, rfl, -⟩ := ou.readsB.form
      obtain ⟨v3, w3, p3⟩ := hh1.push (ty := 23) (t := 23) (by decide) Tryd.underlying23 dgInfo rfl (by omega) (by rw [HH.out.2]; omega) k2 (d := ⟨.slice Au xs.length cu, xs, t⟩) ou (by rw [HB.out.2]; omega)
      refine rg_take 14 (d := (some 40)) (v := .agg #[.bool t, .slice Au xs.length cu]) (by decide) rfl rfl (by kernel_rfl) (by kernel_rfl) (by kernel_rfl) (fun _ _ _ h => h) rfl (fun W => run_dg rfl rfl) ?_
      conv => arg 8; simp only [Act.put, List.setIfInBounds_toArray, List.set_cons_zero, List.set_cons_succ]
      refine rg_onlyW 15 (w' := w2.alloc (.cells #[.bool t, .slice Au xs.length cu] 68)) (d := (some 41)) (v := .slice (some ⟨w2.heap.size, 0, none⟩) 1 1) rfl rfl (by kernel_rfl) rfl (run_dgs w2 rfl) ((Kp.refl _ w2).alloc _) ?_
      conv => arg 8; simp only [Act.put, List.setIfInBounds_toArray, List.set_cons_zero, List.set_cons_succ]
      refine rg_lastW (G := fun _ => True) (w3) (d := (some 42)) (v := v3) rfl rfl (by kernel_rfl) rfl (run_append_op p3.run rfl rfl) (by kernel_rfl) ?_
      conv => arg 8; simp only [Act.put, List.setIfInBounds_toArray, List.set_cons_zero, List.set_cons_succ]
      refine rg_stage 19 (fun _ => False) (by kernel_rfl) ?_
      refine rg_take 17 (d := (some 43)) (v := .pointer (some ⟨g, 0, none⟩)) (by decide) rfl rfl (by kernel_rfl) (by kernel_rfl) (by kernel_rfl) (fun _ _ _ h => h) rfl (fun W => by go_simp) ?_
      conv => arg 8; simp only [Act.put, List.setIfInBounds_toArray, List.set_cons_zero, List.set_cons_succ]
      refine rg_take 18 (d := (some 44)) (v := .pointer (some ⟨g, 1, none⟩)) (by decide) rfl rfl (by kernel_rfl) (by kernel_rfl) (by kernel_rfl) (fun _ _ _ h => h) rfl (fun W => by go_simp) ?_
      conv => arg 8; simp only [Act.put, List.setIfInBounds_toArray, List.set_cons_zero, List.set_cons_succ]
      refine rg_lastS (G := fun _ => True) (w3.setCell ⟨g, 1, none⟩ v3) (d := none) rfl rfl (by kernel_rfl) rfl (run_store_op (run_storeAt_one _ g 1 23 v3 p3.there p3.fz (by kernel_rfl) p3.cells p3.one) rfl rfl) (by kernel_rfl) ?_
      conv => arg 8; simp only [Act.put, List.setIfInBounds_toArray, List.set_cons_zero, List.set_cons_succ]
      refine rg_done (by kernel_rfl) ?_
      have hfin : WOpP true 68 w F g n (.int .i64 ((doubleS n (stOf ls) (j : Int)).1 : Int)) (doubleS n (stOf ls) (j : Int)).2 (.returned (.int .i64 0)) (w3.setCell ⟨g, 1, none⟩ v3) := by
        rw [HPS.out]
        obtain ⟨F', hw, hg⟩ := p3.way
        refine ⟨rfl, F', ⟨_, _, hw, by rw [stOf_app]; rfl⟩, fun b hb => ?_, Kp.after k01 p3.all⟩
        rcases hg b hb with hb | hb
        · exact .inl hb
        · exact .inr ⟨by have := hb.1; have := k01.size; omega, hb.2⟩
      have HF := Lib.hid hfin
      clear hfin p3 ou hh1
      generalize w3.setCell ⟨g, 1, none⟩ v3 = w8 at HF ⊢
      go_wp2
      go_ret
      exact HF.out
end Go.Proofs.YteokkpmndfekoaaDoor
