/- The document's way: Put, Double. -/
import Derived.Test.YteokkpmndfekoaaDoorEH
namespace Go.Proofs.YteokkpmndfekoaaDoor
open Go Go.RowKit
set_option maxRecDepth 100000
-- %lastw

theorem run_rg {w : World} {b : Bool} {A : Option Addr} {l c : Nat} {a : Act} {dst : Option Tmp} {ty : TypeId} {x y : Operand} {pos : String} {af : Array Edge} {gd : Option (Nat × Bool)} (hx : a.eval x = .slice A l c) (hy : a.eval y = .bool b) :
    (execOp a.eval { dst := dst, op := .build 81 #[(0, x), (1, y)], type := ty, pos := pos, after := af, guard := gd }).run Tryd.prog w = .ok (.value (.agg #[.slice A l c, .bool b])) w := by
  unfold execOp
  simp only [List.map_toArray, List.map_cons, List.map_nil, hx, hy]
  kernel_rfl
theorem run_rg0 {w : World} {A : Option Addr} {l c : Nat} {a : Act} {dst : Option Tmp} {ty : TypeId} {y : Operand} {pos : String} {af : Array Edge} {gd : Option (Nat × Bool)} (hy : a.eval y = .slice A l c) :
    (execOp a.eval { dst := dst, op := .build 81 #[(0, y)], type := ty, pos := pos, after := af, guard := gd }).run Tryd.prog w = .ok (.value (.agg #[.slice A l c, .bool false])) w := by
  unfold execOp
  simp only [List.map_toArray, List.map_cons, List.map_nil, hy]
  kernel_rfl
theorem run_rgs (w : World) {b : Bool} {A : Option Addr} {l c : Nat} {a : Act} {dst : Option Tmp} {ty : TypeId} {x : Operand} {pos : String} {af : Array Edge} {gd : Option (Nat × Bool)} (hx : a.eval x = .agg #[.slice A l c, .bool b]) :
    (execOp a.eval { dst := dst, op := .buildSlice 50 1 #[(0, x)], type := ty, pos := pos, after := af, guard := gd }).run Tryd.prog w = .ok (.value (.slice (some ⟨w.heap.size, 0, none⟩) 1 1)) (w.alloc (.cells #[.slice A l c, .bool b] 81)) := by
  unfold execOp
  simp only [List.map_toArray, List.map_cons, List.map_nil, hx, Sem.run_bind]
  have : (Instr.buildSlice 50 1 #[(0, .agg #[.slice A l c, .bool b])]).run Tryd.prog w = .ok (.slice (some ⟨w.heap.size, 0, none⟩) 1 1) (w.alloc (.cells #[.slice A l c, .bool b] 81)) := by
    kernel_rfl
  rw [this]
  simp only [Result.andThen_ok, Sem.run_pure]
set_option maxHeartbeats 3200000 in
theorem eput_c {w : World} {F : Nat → Prop} {g n : Nat} {st : List (List UInt8 × Bool)} {A : Option Addr} {L c : Nat} {xs : List UInt8} (hX : WayX false 81 w F g n st) (hb : RdB w (.slice A L c) xs) (hL : L ≤ 1000000000) :
    Calls Tryd.prog 30 #[.pointer (some ⟨g, 0, none⟩), .slice A L c] w (WOpP false 81 w F g n (.int .i64 ((putS n st xs).1 : Int)) (putS n st xs).2) := by
  obtain ⟨v, ls, h, rfl⟩ := hX
  have hl := hb.len
  by_cases h1 : 2048 < L
  · have hfin : WOpP false 81 w F g n (.int .i64 ((putS n (stOf ls) xs).1 : Int)) (putS n (stOf ls) xs).2 (.returned (.int .i64 81)) w := by
      rw [show putS n (stOf ls) xs = (81, stOf ls) by unfold putS; rw [if_pos (by omega)]]
      exact ⟨rfl, F, ⟨v, ls, h, rfl⟩, Gr.refl _ _ _, Kp.refl _ _⟩
    have HF := Lib.hid hfin
    clear hfin h hb hl
    go_enter Tryd.func30, Tryd.ntmps30
    go_wp2
    go_ret
    exact HF.out
  · obtain ⟨vA, vc, rfl, hvc⟩ := h.r.shape
    obtain ⟨m, hm⟩ : ∃ m, ls.length = m := ⟨_, rfl⟩
    have c1 := h.c1
    have c0 := h.c0
    rw [hm] at c1 h
    by_cases h2 : m = n
    · have hfin : WOpP false 81 w F g n (.int .i64 ((putS n (stOf ls) xs).1 : Int)) (putS n (stOf ls) xs).2 (.returned (.int .i64 2)) w.drew := by
        rw [show putS n (stOf ls) xs = (2, stOf ls) by unfold putS; rw [if_neg (by omega), if_pos (by rw [stOf_len]; omega)]]
        exact ⟨rfl, F, ⟨_, ls, h.keepN (Kp.refl _ w).drew, rfl⟩, Gr.refl _ _ _, (Kp.refl _ w).drew⟩
      have HF := Lib.hid hfin
      clear hfin h hb hl hm
      subst h2
      go_enter Tryd.func30, Tryd.ntmps30
      go_wp2
      go_region
      go_wp2
      go_ret
      exact HF.out
    · have hps : putS n (stOf ls) xs = (0, stOf ls ++ [(xs, false)]) := by unfold putS; rw [if_neg (by omega), if_neg (by rw [stOf_len]; omega)]
      have h2' : ((m : Int) == (n : Int)) = false := by simp; omega
      have HPS := Lib.hid hps
      have HH := Lib.hid (And.intro h (And.intro hm hl))
      have HB := Lib.hid hb
      have hn1 := h.lt
      have hle := h.le
      have hne := h.ne
      clear hps h hb hl
      go_enter Tryd.func30, Tryd.ntmps30
      go_wp2
      go_region
      go_wp2_with fail
      refine rg_begin 12 (fun k => (Value.slice vA m vc).ownBlock = some k) (by kernel_rfl) (fun w1 d1 => ?_)
      have k01 : KpN w w1 := (Kp.refl (fun _ => False) w).drew.thenN d1
      have hh1 := HH.out.1.keepN k01
      refine rg_take 0 (d := (some 18)) (v := .pointer (some ⟨g, 0, none⟩)) (by decide) rfl rfl (by kernel_rfl) (by kernel_rfl) (by kernel_rfl) (fun _ _ _ h => h) rfl (fun W => rfl) ?_
      conv => arg 8; simp only [Act.put, List.setIfInBounds_toArray, List.set_cons_zero, List.set_cons_succ]
      refine rg_take 1 (d := (some 19)) (v := .pointer (some ⟨g, 0, none⟩)) (by decide) rfl rfl (by kernel_rfl) (by kernel_rfl) (by kernel_rfl) (fun _ _ _ h => h) rfl (fun W => rfl) ?_
      conv => arg 8; simp only [Act.put, List.setIfInBounds_toArray, List.set_cons_zero, List.set_cons_succ]
      refine rg_take 2 (d := (some 20)) (v := .pointer (some ⟨g, 0, none⟩)) (by decide) rfl rfl (by kernel_rfl) (by kernel_rfl) (by kernel_rfl) (fun _ _ _ h => h) rfl (fun W => by go_simp) ?_
      conv => arg 8; simp only [Act.put, List.setIfInBounds_toArray, List.set_cons_zero, List.set_cons_succ]
      refine rg_take 3 (d := (some 21)) (v := .pointer (some ⟨g, 1, none⟩)) (by decide) rfl rfl (by kernel_rfl) (by kernel_rfl) (by kernel_rfl) (fun _ _ _ h => h) rfl (fun W => by go_simp) ?_
      conv => arg 8; simp only [Act.put, List.setIfInBounds_toArray, List.set_cons_zero, List.set_cons_succ]
      refine rg_read 4 (d := (some 22)) (v := .slice vA m vc) (by decide) (by kernel_rfl) (by kernel_rfl) rfl rfl (by kernel_rfl) (by kernel_rfl) (by kernel_rfl) (fun _ _ _ h => h) rfl (fun W hW => by have hc := (hW.cell (p := ⟨g, 1, none⟩) (hh1.lt) hne).trans (hh1.c1); go_simp) ?_
      conv => arg 8; simp only [Act.put, List.setIfInBounds_toArray, List.set_cons_zero, List.set_cons_succ]
      refine rg_take 5 (d := (some 23)) (v := .slice A L c) (by decide) rfl rfl (by kernel_rfl) (by kernel_rfl) (by kernel_rfl) (fun _ _ _ h => h) rfl (fun W => rfl) ?_
      conv => arg 8; simp only [Act.put, List.setIfInBounds_toArray, List.set_cons_zero, List.set_cons_succ]
      refine rg_call 6 (d := (some 24)) (by kernel_rfl) (ecopied_c (HB.out.keepN k01) (by rw [← HH.out.2.2]; omega)) rfl rfl (by kernel_rfl) rfl rfl ?_
      rintro e w2 ⟨u, rfl, ou, k2⟩
      refine ⟨_, rfl, k2.mono (fun _ _ x => x.elim), ?_⟩
      conv => arg 8; simp only [Act.put, List.setIfInBounds_toArray, List.set_cons_zero, List.set_cons_succ]
      obtain ⟨Au, cu, rfl, -⟩ := ou.readsB.form
      obtain ⟨v3, w3, p3⟩ := hh1.push (ty := 50) (t := 50) (by decide) Tryd.underlying50 dgInfoR rfl (by omega) (by rw [HH.out.2.1]; omega) k2 (d := ⟨.slice Au xs.length cu, xs, false⟩) ou (by rw [← HH.out.2.2]; omega)
      refine rg_take 7 (d := (some 25)) (v := .agg #[.slice Au xs.length cu, .bool false]) (by decide) rfl rfl (by kernel_rfl) (by kernel_rfl) (by kernel_rfl) (fun _ _ _ h => h) rfl (fun W => run_rg0 rfl) ?_
      conv => arg 8; simp only [Act.put, List.setIfInBounds_toArray, List.set_cons_zero, List.set_cons_succ]
      refine rg_onlyW 8 (w' := w2.alloc (.cells #[.slice Au xs.length cu, .bool false] 81)) (d := (some 26)) (v := .slice (some ⟨w2.heap.size, 0, none⟩) 1 1) rfl rfl (by kernel_rfl) rfl (run_rgs w2 rfl) ((Kp.refl _ w2).alloc _) ?_
      conv => arg 8; simp only [Act.put, List.setIfInBounds_toArray, List.set_cons_zero, List.set_cons_succ]
      refine rg_onlyW 9 (w' := w3) (d := (some 27)) (v := v3) rfl rfl (by kernel_rfl) rfl (run_append_op p3.run rfl rfl) (p3.kp) ?_
      conv => arg 8; simp only [Act.put, List.setIfInBounds_toArray, List.set_cons_zero, List.set_cons_succ]
      refine rg_take 10 (d := (some 28)) (v := .pointer (some ⟨g, 0, none⟩)) (by decide) rfl rfl (by kernel_rfl) (by kernel_rfl) (by kernel_rfl) (fun _ _ _ h => h) rfl (fun W => by go_simp) ?_
      conv => arg 8; simp only [Act.put, List.setIfInBounds_toArray, List.set_cons_zero, List.set_cons_succ]
      refine rg_take 11 (d := (some 29)) (v := .pointer (some ⟨g, 1, none⟩)) (by decide) rfl rfl (by kernel_rfl) (by kernel_rfl) (by kernel_rfl) (fun _ _ _ h => h) rfl (fun W => by go_simp) ?_
      conv => arg 8; simp only [Act.put, List.setIfInBounds_toArray, List.set_cons_zero, List.set_cons_succ]
      refine rg_lastS (G := fun _ => True) (w3.setCell ⟨g, 1, none⟩ v3) (d := none) rfl rfl (by kernel_rfl) rfl (run_store_op (run_storeAt_one _ g 1 50 v3 p3.there p3.fz (by kernel_rfl) p3.cells p3.one) rfl rfl) (by kernel_rfl) ?_
      conv => arg 8; simp only [Act.put, List.setIfInBounds_toArray, List.set_cons_zero, List.set_cons_succ]
      refine rg_done (by kernel_rfl) ?_
      have hfin : WOpP false 81 w F g n (.int .i64 ((putS n (stOf ls) xs).1 : Int)) (putS n (stOf ls) xs).2 (.returned (.int .i64 0)) (w3.setCell ⟨g, 1, none⟩ v3) := by
        rw [HPS.out]
        obtain ⟨F', hw, hg⟩ := p3.way
        refine ⟨rfl, F', ⟨_, _, hw, by rw [stOf_app]; rfl⟩, fun b hb => ?_, Kp.after k01 p3.all⟩
        rcases hg b hb with hb | hb
        · exact .inl hb
        · exact .inr ⟨by have := hb.1; have := k01.size; omega, hb.2⟩
      have HF := Lib.hid hfin
      clear hfin p3 ou hh1
      generalize w3.setCell ⟨g, 1, none⟩ v3 = w8 at HF ⊢
      go_wp2
      go_ret
      exact HF.out
set_option maxHeartbeats 3200000 in
theorem edouble_c {w : World} {F : Nat → Prop} {g n : Nat} {st : List (List UInt8 × Bool)} {i : Int} (hX : WayX false 81 w F g n st) :
    Calls Tryd.prog 35 #[.pointer (some ⟨g, 0, none⟩), .int .i64 i] w (WOpP false 81 w F g n (.int .i64 ((doubleS n st i).1 : Int)) (doubleS n st i).2) := by
  obtain ⟨v, ls, h, rfl⟩ := hX
  by_cases hout : i < 0 ∨ (ls.length : Int) ≤ i
  · have hM := eat_no (i := i) ⟨v, ls, h, rfl⟩ (atS_out (by rw [stOf_len]; exact hout))
    have hfin : WOpP false 81 w F g n (.int .i64 ((doubleS n (stOf ls) i).1 : Int)) (doubleS n (stOf ls) i).2 (.returned (.int .i64 4)) w := by
      rw [show doubleS n (stOf ls) i = (4, stOf ls) by unfold doubleS; rw [atS_out (by rw [stOf_len]; exact hout)]]
      exact ⟨rfl, F, ⟨v, ls, h, rfl⟩, Gr.refl _ _ _, Kp.refl _ _⟩
    have HF := Lib.hid hfin
    clear hfin h hout
    go_enter Tryd.func35, Tryd.ntmps35
    go_wp2_with fail
    refine hM.mono ?_
    rintro e w2 ⟨rfl, rfl⟩
    go_wp2
    go_ret
    exact HF.out
  · obtain ⟨j, rfl⟩ := Int.eq_ofNat_of_zero_le (show 0 ≤ i by omega)
    have hj : j < ls.length := by omega
    obtain ⟨gr, vc, rfl, -, hvc⟩ := h.r.form (by omega)
    have hM := eat_yes h hj
    obtain ⟨m, hm⟩ : ∃ m, ls.length = m := ⟨_, rfl⟩
    have hat := atS_in (st := stOf ls) (j := j) (by rw [stOf_len]; exact hj)
    rw [stOf_get ls j hj] at hat
    have c1 := h.c1
    have c0 := h.c0
    rw [hm] at c1 h
    clear hout
    by_cases h2 : m = n
    · have hfin : WOpP false 81 w F g n (.int .i64 ((doubleS n (stOf ls) (j : Int)).1 : Int)) (doubleS n (stOf ls) (j : Int)).2 (.returned (.int .i64 2)) w.drew := by
        rw [show doubleS n (stOf ls) (j : Int) = (2, stOf ls) by unfold doubleS; rw [hat]; exact if_pos (by rw [stOf_len]; omega)]
        exact ⟨rfl, F, ⟨_, ls, h.keepN (Kp.refl _ w).drew, rfl⟩, Gr.refl _ _ _, (Kp.refl _ w).drew⟩
      have HF := Lib.hid hfin
      clear hfin h hat hm hj
      subst h2
      go_enter Tryd.func35, Tryd.ntmps35
      go_wp2_with fail
      refine hM.mono ?_
      rintro e w2 ⟨rfl, rfl⟩
      go_wp2
      go_region
      go_wp2
      go_ret
      exact HF.out
    · have hps : doubleS n (stOf ls) (j : Int) = (0, stOf ls ++ [(ls[j].b, ls[j].t)]) := by unfold doubleS; rw [hat]; exact if_neg (by rw [stOf_len]; omega)
      have h2' : ((m : Int) == (n : Int)) = false := by simp; omega
      have HPS := Lib.hid hps
      have HH := Lib.hid (And.intro h hm)
      have hn1 := h.lt
      have hle := h.le
      have hne := h.ne
      have hb := (h.r.all.each _ (List.getElem_mem hj)).readsB
      have hp0 := h.r.r0 j hj
      have hp1 := h.r.r1 j hj
      have hsm := h.sm _ (List.getElem_mem hj)
      have hgr : gr < w.heap.size := h.r.row.lt gr rfl
      generalize ls[j] = d at *
      obtain ⟨dv, xs, t⟩ := d
      dsimp only at hp0 hp1 hsm hb hps hat HPS
      obtain ⟨A, c, rfl, -⟩ := hb.form
      obtain ⟨L, hL⟩ : ∃ L, xs.length = L := ⟨_, rfl⟩
      rw [hL] at hb hp0 hsm
      have HB := Lib.hid (And.intro hb hL)
      have HP := Lib.hid (And.intro hp0 hp1)
      clear hps h hb hat hL hp0 hp1
      go_enter Tryd.func35, Tryd.ntmps35
      go_wp2_with fail
      refine hM.mono ?_
      rintro e w2 ⟨rfl, rfl⟩
      go_wp2
      go_region
      go_wp2_with fail
      refine rg_begin 24 (fun _ => False) (by kernel_rfl) (fun w1 d1 => ?_)
      have k01 : KpN w w1 := (Kp.refl (fun _ => False) w).drew.thenN d1
      have hh1 := HH.out.1.keepN k01
      have hp01 : w1.cell? ⟨gr, j * 2, none⟩ = some (.slice A L c) := by rw [k01.cell hgr (fun x => x)]; exact HP.out.1
      have hp11 : w1.cell? ⟨gr, j * 2 + 1, none⟩ = some (.bool t) := by rw [k01.cell hgr (fun x => x)]; exact HP.out.2
      have hgr1 : gr < w1.heap.size := by have := k01.size; omega
      have hjm : ¬ m ≤ j := by omega
      refine rg_take 0 (d := (some 19)) (v := .pointer (some ⟨g, 0, none⟩)) (by decide) rfl rfl (by kernel_rfl) (by kernel_rfl) (by kernel_rfl) (fun _ _ _ h => h) rfl (fun W => rfl) ?_
      conv => arg 8; simp only [Act.put, List.setIfInBounds_toArray, List.set_cons_zero, List.set_cons_succ]
      refine rg_take 1 (d := (some 20)) (v := .pointer (some ⟨g, 0, none⟩)) (by decide) rfl rfl (by kernel_rfl) (by kernel_rfl) (by kernel_rfl) (fun _ _ _ h => h) rfl (fun W => rfl) ?_
      conv => arg 8; simp only [Act.put, List.setIfInBounds_toArray, List.set_cons_zero, List.set_cons_succ]
      refine rg_take 2 (d := (some 21)) (v := .pointer (some ⟨g, 0, none⟩)) (by decide) rfl rfl (by kernel_rfl) (by kernel_rfl) (by kernel_rfl) (fun _ _ _ h => h) rfl (fun W => by go_simp) ?_
      conv => arg 8; simp only [Act.put, List.setIfInBounds_toArray, List.set_cons_zero, List.set_cons_succ]
      refine rg_take 3 (d := (some 22)) (v := .pointer (some ⟨g, 1, none⟩)) (by decide) rfl rfl (by kernel_rfl) (by kernel_rfl) (by kernel_rfl) (fun _ _ _ h => h) rfl (fun W => by go_simp) ?_
      conv => arg 8; simp only [Act.put, List.setIfInBounds_toArray, List.set_cons_zero, List.set_cons_succ]
      refine rg_read 4 (d := (some 23)) (v := .slice (some ⟨gr, 0, none⟩) m vc) (by decide) (by kernel_rfl) (by kernel_rfl) rfl rfl (by kernel_rfl) (by kernel_rfl) (by kernel_rfl) (fun _ _ _ h => h) rfl (fun W hW => by have hc := (hW.cell (p := ⟨g, 1, none⟩) (hh1.lt) (fun x => x)).trans (hh1.c1); go_simp) ?_
      conv => arg 8; simp only [Act.put, List.setIfInBounds_toArray, List.set_cons_zero, List.set_cons_succ]
      refine rg_take 5 (d := (some 24)) (v := .pointer (some ⟨g, 0, none⟩)) (by decide) rfl rfl (by kernel_rfl) (by kernel_rfl) (by kernel_rfl) (fun _ _ _ h => h) rfl (fun W => rfl) ?_
      conv => arg 8; simp only [Act.put, List.setIfInBounds_toArray, List.set_cons_zero, List.set_cons_succ]
      refine rg_take 6 (d := (some 25)) (v := .pointer (some ⟨g, 0, none⟩)) (by decide) rfl rfl (by kernel_rfl) (by kernel_rfl) (by kernel_rfl) (fun _ _ _ h => h) rfl (fun W => by go_simp) ?_
      conv => arg 8; simp only [Act.put, List.setIfInBounds_toArray, List.set_cons_zero, List.set_cons_succ]
      refine rg_take 7 (d := (some 26)) (v := .pointer (some ⟨g, 1, none⟩)) (by decide) rfl rfl (by kernel_rfl) (by kernel_rfl) (by kernel_rfl) (fun _ _ _ h => h) rfl (fun W => by go_simp) ?_
      conv => arg 8; simp only [Act.put, List.setIfInBounds_toArray, List.set_cons_zero, List.set_cons_succ]
      refine rg_readD 8 [10, 11, 12, 13, 22, 23, 24, 25, 26, 27] (d := (some 27)) (v := .slice (some ⟨gr, 0, none⟩) m vc) (by decide) (by kernel_rfl) (by kernel_rfl) (by kernel_rfl) rfl rfl (by kernel_rfl) (by kernel_rfl) (by kernel_rfl) (fun _ _ _ h => h) rfl (fun W hW => by have hc := (hW.cell (p := ⟨g, 1, none⟩) (hh1.lt) (fun x => x)).trans (hh1.c1); go_simp) ?_
      conv => arg 8; simp only [Act.put, List.setIfInBounds_toArray, List.set_cons_zero, List.set_cons_succ]
      refine rg_take 9 (d := (some 28)) (v := .int .i64 j) (by decide) rfl rfl (by kernel_rfl) (by kernel_rfl) (by kernel_rfl) (fun _ _ _ h => h) rfl (fun W => rfl) ?_
      conv => arg 8; simp only [Act.put, List.setIfInBounds_toArray, List.set_cons_zero, List.set_cons_succ]
      refine rg_take 10 (d := (some 29)) (v := .pointer (some ⟨gr, j * 2, none⟩)) (by decide) rfl rfl (by kernel_rfl) (by kernel_rfl) (by kernel_rfl) (fun _ _ _ h => h) rfl (fun W => by go_simp) ?_
      conv => arg 8; simp only [Act.put, List.setIfInBounds_toArray, List.set_cons_zero, List.set_cons_succ]
      refine rg_take 11 (d := (some 30)) (v := .pointer (some ⟨gr, j * 2, none⟩)) (by decide) rfl rfl (by kernel_rfl) (by kernel_rfl) (by kernel_rfl) (fun _ _ _ h => h) rfl (fun W => by go_simp) ?_
      conv => arg 8; simp only [Act.put, List.setIfInBounds_toArray, List.set_cons_zero, List.set_cons_succ]
      refine rg_readD 12 [13, 22, 23, 24, 25, 26, 27] (d := (some 31)) (v := .slice A L c) (by decide) (by kernel_rfl) (by kernel_rfl) (by kernel_rfl) rfl rfl (by kernel_rfl) (by kernel_rfl) (by kernel_rfl) (fun _ _ _ h => h) rfl (fun W hW => by have hc := (hW.cell (p := ⟨gr, j * 2, none⟩) (hgr1) (fun x => x)).trans (hp01); go_simp) ?_
      conv => arg 8; simp only [Act.put, List.setIfInBounds_toArray, List.set_cons_zero, List.set_cons_succ]
      refine rg_take 14 (d := (some 33)) (v := .pointer (some ⟨g, 0, none⟩)) (by decide) rfl rfl (by kernel_rfl) (by kernel_rfl) (by kernel_rfl) (fun _ _ _ h => h) rfl (fun W => rfl) ?_
      conv => arg 8; simp only [Act.put, List.setIfInBounds_toArray, List.set_cons_zero, List.set_cons_succ]
      refine rg_take 15 (d := (some 34)) (v := .pointer (some ⟨g, 0, none⟩)) (by decide) rfl rfl (by kernel_rfl) (by kernel_rfl) (by kernel_rfl) (fun _ _ _ h => h) rfl (fun W => by go_simp) ?_
      conv => arg 8; simp only [Act.put, List.setIfInBounds_toArray, List.set_cons_zero, List.set_cons_succ]
      refine rg_take 16 (d := (some 35)) (v := .pointer (some ⟨g, 1, none⟩)) (by decide) rfl rfl (by kernel_rfl) (by kernel_rfl) (by kernel_rfl) (fun _ _ _ h => h) rfl (fun W => by go_simp) ?_
      conv => arg 8; simp only [Act.put, List.setIfInBounds_toArray, List.set_cons_zero, List.set_cons_succ]
      refine rg_readD 17 [19, 20, 21, 22, 23, 24, 25, 26, 27] (d := (some 36)) (v := .slice (some ⟨gr, 0, none⟩) m vc) (by decide) (by kernel_rfl) (by kernel_rfl) (by kernel_rfl) rfl rfl (by kernel_rfl) (by kernel_rfl) (by kernel_rfl) (fun _ _ _ h => h) rfl (fun W hW => by have hc := (hW.cell (p := ⟨g, 1, none⟩) (hh1.lt) (fun x => x)).trans (hh1.c1); go_simp) ?_
      conv => arg 8; simp only [Act.put, List.setIfInBounds_toArray, List.set_cons_zero, List.set_cons_succ]
      refine rg_take 18 (d := (some 37)) (v := .int .i64 j) (by decide) rfl rfl (by kernel_rfl) (by kernel_rfl) (by kernel_rfl) (fun _ _ _ h => h) rfl (fun W => rfl) ?_
      conv => arg 8; simp only [Act.put, List.setIfInBounds_toArray, List.set_cons_zero, List.set_cons_succ]
      refine rg_take 19 (d := (some 38)) (v := .pointer (some ⟨gr, j * 2, none⟩)) (by decide) rfl rfl (by kernel_rfl) (by kernel_rfl) (by kernel_rfl) (fun _ _ _ h => h) rfl (fun W => by go_simp) ?_
      conv => arg 8; simp only [Act.put, List.setIfInBounds_toArray, List.set_cons_zero, List.set_cons_succ]
      refine rg_take 20 (d := (some 39)) (v := .pointer (some ⟨gr, j * 2 + 1, none⟩)) (by decide) rfl rfl (by kernel_rfl) (by kernel_rfl) (by kernel_rfl) (fun _ _ _ h => h) rfl (fun W => by go_simp) ?_
      conv => arg 8; simp only [Act.put, List.setIfInBounds_toArray, List.set_cons_zero, List.set_cons_succ]
      refine rg_readD 21 [22, 23, 24, 25, 26, 27] (d := (some 40)) (v := .bool t) (by decide) (by kernel_rfl) (by kernel_rfl) (by kernel_rfl) rfl rfl (by kernel_rfl) (by kernel_rfl) (by kernel_rfl) (fun _ _ _ h => h) rfl (fun W hW => by have hc := (hW.cell (p := ⟨gr, j * 2 + 1, none⟩) (hgr1) (fun x => x)).trans (hp11); go_simp) ?_
      conv => arg 8; simp only [Act.put, List.setIfInBounds_toArray, List.set_cons_zero, List.set_cons_succ]
      refine rg_call 13 (d := (some 32)) (by kernel_rfl) (ecopied_c (HB.out.1.keepN k01) (by rw [HB.out.2]; omega)) rfl rfl (by kernel_rfl) rfl rfl ?_
      rintro e w2 ⟨u, rfl, ou, k2⟩
      refine ⟨_, rfl, k2, ?_⟩
      conv => arg 8; simp only [Act.put, List.setIfInBounds_toArray, List.set_cons_zero, List.set_cons_succ]
      obtain ⟨Au, cu, rfl, -⟩ := ou.readsB.form
      obtain ⟨v3, w3, p3⟩ := hh1.push (ty := 50) (t := 50) (by decide) Tryd.underlying50 dgInfoR rfl (by omega) (by rw [HH.out.2]; omega) k2 (d := ⟨.slice Au xs.length cu, xs, t⟩) ou (by rw [HB.out.2]; omega)
      refine rg_take 22 (d := (some 41)) (v := .agg #[.slice Au xs.length cu, .bool t]) (by decide) rfl rfl (by kernel_rfl) (by kernel_rfl) (by kernel_rfl) (fun _ _ _ h => h) rfl (fun W => run_rg rfl rfl) ?_
      conv => arg 8; simp only [Act.put, List.setIfInBounds_toArray, List.set_cons_zero, List.set_cons_succ]
      refine rg_onlyW 23 (w' := w2.alloc (.cells #[.slice Au xs.length cu, .bool t] 81)) (d := (some 42)) (v := .slice (some ⟨w2.heap.size, 0, none⟩) 1 1) rfl rfl (by kernel_rfl) rfl (run_rgs w2 rfl) ((Kp.refl _ w2).alloc _) ?_
      conv => arg 8; simp only [Act.put, List.setIfInBounds_toArray, List.set_cons_zero, List.set_cons_succ]
      refine rg_lastW (G := fun _ => True) (w3) (d := (some 43)) (v := v3) rfl rfl (by kernel_rfl) rfl (run_append_op p3.run rfl rfl) (by kernel_rfl) ?_
      conv => arg 8; simp only [Act.put, List.setIfInBounds_toArray, List.set_cons_zero, List.set_cons_succ]
      refine rg_stage 27 (fun _ => False) (by kernel_rfl) ?_
      refine rg_take 25 (d := (some 44)) (v := .pointer (some ⟨g, 0, none⟩)) (by decide) rfl rfl (by kernel_rfl) (by kernel_rfl) (by kernel_rfl) (fun _ _ _ h => h) rfl (fun W => by go_simp) ?_
      conv => arg 8; simp only [Act.put, List.setIfInBounds_toArray, List.set_cons_zero, List.set_cons_succ]
      refine rg_take 26 (d := (some 45)) (v := .pointer (some ⟨g, 1, none⟩)) (by decide) rfl rfl (by kernel_rfl) (by kernel_rfl) (by kernel_rfl) (fun _ _ _ h => h) rfl (fun W => by go_simp) ?_
      conv => arg 8; simp only [Act.put, List.setIfInBounds_toArray, List.set_cons_zero, List.set_cons_succ]
      refine rg_lastS (G := fun _ => True) (w3.setCell ⟨g, 1, none⟩ v3) (d := none) rfl rfl (by kernel_rfl) rfl (run_store_op (run_storeAt_one _ g 1 50 v3 p3.there p3.fz (by kernel_rfl) p3.cells p3.one) rfl rfl) (by kernel_rfl) ?_
      conv => arg 8; simp only [Act.put, List.setIfInBounds_toArray, List.set_cons_zero, List.set_cons_succ]
      refine rg_done (by kernel_rfl) ?_
      have hfin : WOpP false 81 w F g n (.int .i64 ((doubleS n (stOf ls) (j : Int)).1 : Int)) (doubleS n (stOf ls) (j : Int)).2 (.returned (.int .i64 0)) (w3.setCell ⟨g, 1, none⟩ v3) := by
        rw [HPS.out]
        obtain ⟨F', hw, hg⟩ := p3.way
        refine ⟨rfl, F', ⟨_, _, hw, by rw [stOf_app]; rfl⟩, fun b hb => ?_, Kp.after k01 p3.all⟩
        rcases hg b hb with hb | hb
        · exact .inl hb
        · exact .inr ⟨by have := hb.1; have := k01.size; omega, hb.2⟩
      have HF := Lib.hid hfin
      clear hfin p3 ou hh1
      generalize w3.setCell ⟨g, 1, none⟩ v3 = w8 at HF ⊢
      go_wp2
      go_ret
      exact HF.out
end Go.Proofs.YteokkpmndfekoaaDoor
