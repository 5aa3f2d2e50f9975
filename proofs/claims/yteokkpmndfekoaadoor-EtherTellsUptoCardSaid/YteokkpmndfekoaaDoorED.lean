/- A way: one more datagram at its end. -/
import Derived.Test.YteokkpmndfekoaaDoorEC
import Derived.Test.YteokkpmndfekoaaDoorRT
namespace Go.Proofs.YteokkpmndfekoaaDoor
open Go Go.RowKit
set_option maxRecDepth 100000

theorem dgC_rd (w : World) (o : Bool) (T : Nat) (d : Dg) : RdC (w.alloc (.cells (dgC o d).toArray T)) 2 (.slice (some ⟨w.heap.size, 0, none⟩) 1 1) 1 (dgC o d) := by
  have := (OwC.lit w T 2 1 (dgC o d).toArray (by simp [maxLen]) (by rw [List.size_toArray, dgC_len])).reads
  simpa using this
theorem run_storeAt_one {P : Program} (w : World) (b o : Nat) (ty : TypeId) (v : Value) (hc : (w.cell? ⟨b, o, none⟩).isSome = true) (hf : w.frozen? ⟨b, o, none⟩ = false) (hi : (P.info? ty).map (·.size) = some 1) (hv : v.cells = #[v]) (h1 : v.oneCell' = true) :
    (Instr.storeAt ty (.pointer (some ⟨b, o, none⟩)) v).run P w = .ok () (w.setCell ⟨b, o, none⟩ v) := by
  have := run_storeCells_cells (P := P) b o [v] 0 w (fun j hj => by obtain rfl : j = 0 := (by simpa using hj); exact hc) (fun j hj => by obtain rfl : j = 0 := (by simpa using hj); exact hf)
    (fun u hu => by obtain rfl : u = v := (by simpa using hu); exact h1)
  cases hq : P.info? ty with
  | none => simp [hq] at hi
  | some i =>
    have hs : i.size = 1 := by simpa [hq] using hi
    simp only [Nat.add_zero] at this
    simp [Instr.storeAt, Instr.sureAddr, storeVar, sizeOf, typeInfo, hq, hv, hs, this, World.setCells]
/-- what a call that puts one more comes to: the row, stored -/
structure Pushed (o : Bool) (T : Nat) (w wl : World) (F : Nat → Prop) (g n t ty : Nat) (v x : Value) (ls : List Dg) (v' : Value) (w' : World) : Prop where
  run : (Builtin.append_ #[t, t] ty #[v, x]).run Tryd.prog wl = .ok v' w'
  one : v'.oneCell' = true
  cells : v'.cells = #[v']
  there : (w'.cell? ⟨g, 1, none⟩).isSome = true
  fz : w'.frozen? ⟨g, 1, none⟩ = false
  kp : Kp (fun k => v.ownBlock = some k) wl w'
  all : Kp F w (w'.setCell ⟨g, 1, none⟩ v')
  way : ∃ F', WayM o T (w'.setCell ⟨g, 1, none⟩ v') F' g n v' ls ∧ Gr w (w'.setCell ⟨g, 1, none⟩ v') F F'
theorem WayM.push {o : Bool} {T t ty bytes : Nat} {z : Value} (hT : T ≠ 5) (ht : Tryd.prog.underlying t = some (.slice T)) (hinfo : (Tryd.prog.info? T).map (fun i => (i.zero, i.size, i.bytes)) = some (some z, 2, bytes)) (hzs : z.cells.size = 2) (hby : bytes ≤ 1000)
    {w w5 : World} {F : Nat → Prop} {g n : Nat} {v : Value} {ls : List Dg} (h0 : WayM o T w F g n v ls) (hlt : ls.length < n) (k5 : KpN w w5) {d : Dg} (ou : OwB w5 5 (Iv w.heap.size w5.heap.size) d.v d.b) (hx : d.b.length ≤ 2048) :
    ∃ v' w', Pushed o T w (w5.alloc (.cells (dgC o d).toArray T)) F g n t ty v (.slice (some ⟨w5.heap.size, 0, none⟩) 1 1) (ls ++ [d]) v' w' := by
  have h := h0.wide (G := fun k => F k ∧ k < w.heap.size) (fun k hk hf => ⟨hf, hk⟩)
  have k6 := (Kp.refl (fun _ => False) w5).alloc (.cells (dgC o d).toArray T)
  have hl := h.keepN (k5.thenN k6)
  have hz5 := k5.size
  have hzl : (w5.alloc (.cells (dgC o d).toArray T)).heap.size = w5.heap.size + 1 := by simp
  have hn2 := h.n2
  obtain ⟨v', w', hr, hR, hk, hor⟩ := DgR.push (ty := ty) hT ht hinfo hzs hby hl.r (ou.keepN k6) (fun k hf hg => by have := hf.2; have := hg.1; omega) (dgC_rd w5 o T d) (by omega)
  have hg0 := h.lt
  have hzk := hk.size
  have hcell : w'.cell? ⟨g, 1, none⟩ = some v := by rw [hk.cell hl.lt h.ne]; exact hl.c1
  have hfz : w'.frozen? ⟨g, 1, none⟩ = false := by rw [hk.frozen hl.lt h.ne]; exact hl.fz 1
  obtain ⟨A, c, hsh, -⟩ := hR.shape
  have hne : v'.ownBlock ≠ some g := by
    rcases hor with e | e
    · rw [e]; exact h.ne
    · rw [e]; intro e2; injection e2 with e2; omega
  have hm := hl.setRow hk h.ne hR (.inl h.fit) hne (fun x hx2 => by
    rcases List.mem_append.1 hx2 with hx2 | hx2
    · exact h.nes x hx2
    · obtain rfl := List.mem_singleton.1 hx2
      intro e
      have := (ou.fit g e).1
      omega) (by rw [List.length_append, List.length_singleton]; omega) (fun x hx2 => by
    rcases List.mem_append.1 hx2 with hx2 | hx2
    · exact h.sm x hx2
    · obtain rfl := List.mem_singleton.1 hx2
      exact hx)
  have ks : Kp (fun k => k = g) w' (w'.setCell ⟨g, 1, none⟩ v') := (Kp.refl (fun k => k = g) w').setCell (p := ⟨g, 1, none⟩) (.inl rfl) v'
  have hzs2 : (w'.setCell ⟨g, 1, none⟩ v').heap.size = w'.heap.size := by simp
  refine ⟨v', w', hr, by rw [hsh]; rfl, by rw [hsh]; rfl, by rw [hcell]; rfl, hfz, hk, ?_, _, hm, fun b hb => ?_⟩
  · exact ((k5.thenN k6).trans hk (fun _ _ x => x.elim) (fun i _ hi => (h.r.row.fit i hi).1)).trans ks (fun _ _ x => x) (fun i _ hi => by rw [hi]; exact h.fit.1)
  · rcases hb with hb | hb | hb
    · exact .inl hb.1
    · exact .inr ⟨hb.1, by have := hb.2; omega⟩
    · exact .inr ⟨by have := hb.1; omega, by have := hb.2; omega⟩
theorem run_dg {w : World} {b : Bool} {A : Option Addr} {l c : Nat} {a : Act} {dst : Option Tmp} {ty : TypeId} {x y : Operand} {pos : String} {af : Array Edge} {gd : Option (Nat × Bool)} (hx : a.eval x = .agg #[.bool b]) (hy : a.eval y = .slice A l c) :
    (execOp a.eval { dst := dst, op := .build 68 #[(0, x), (1, y)], type := ty, pos := pos, after := af, guard := gd }).run Tryd.prog w = .ok (.value (.agg #[.bool b, .slice A l c])) w := by
  unfold execOp
  simp only [List.map_toArray, List.map_cons, List.map_nil, hx, hy]
  kernel_rfl
theorem run_dg0 {w : World} {A : Option Addr} {l c : Nat} {a : Act} {dst : Option Tmp} {ty : TypeId} {y : Operand} {pos : String} {af : Array Edge} {gd : Option (Nat × Bool)} (hy : a.eval y = .slice A l c) :
    (execOp a.eval { dst := dst, op := .build 68 #[(1, y)], type := ty, pos := pos, after := af, guard := gd }).run Tryd.prog w = .ok (.value (.agg #[.bool false, .slice A l c])) w := by
  unfold execOp
  simp only [List.map_toArray, List.map_cons, List.map_nil, hy]
  kernel_rfl
theorem run_dgs (w : World) {b : Bool} {A : Option Addr} {l c : Nat} {a : Act} {dst : Option Tmp} {ty : TypeId} {x : Operand} {pos : String} {af : Array Edge} {gd : Option (Nat × Bool)} (hx : a.eval x = .agg #[.bool b, .slice A l c]) :
    (execOp a.eval { dst := dst, op := .buildSlice 23 1 #[(0, x)], type := ty, pos := pos, after := af, guard := gd }).run Tryd.prog w = .ok (.value (.slice (some ⟨w.heap.size, 0, none⟩) 1 1)) (w.alloc (.cells #[.bool b, .slice A l c] 68)) := by
  unfold execOp
  simp only [List.map_toArray, List.map_cons, List.map_nil, hx, Sem.run_bind]
  have : (Instr.buildSlice 23 1 #[(0, .agg #[.bool b, .slice A l c])]).run Tryd.prog w = .ok (.slice (some ⟨w.heap.size, 0, none⟩) 1 1) (w.alloc (.cells #[.bool b, .slice A l c] 68)) := by
    kernel_rfl
  rw [this]
  simp only [Result.andThen_ok, Sem.run_pure]
/-- a call's answer u, the way behind it -/
def WOpP (o : Bool) (T : Nat) (w : World) (F : Nat → Prop) (g n : Nat) (u : Value) (st : List (List UInt8 × Bool)) (e : Ending) (w' : World) : Prop := e = .returned u ∧ ∃ F', WayX o T w' F' g n st ∧ Gr w w' F F' ∧ Kp F w w'
theorem stOf_app (xs ys : List Dg) : stOf (xs ++ ys) = stOf xs ++ stOf ys := by simp [stOf]
def putS (n : Nat) (st : List (List UInt8 × Bool)) (xs : List UInt8) : Nat × List (List UInt8 × Bool) := if 2048 < xs.length then (81, st) else if st.length = n then (2, st) else (0, st ++ [(xs, false)])
theorem stOf_len (ls : List Dg) : (stOf ls).length = ls.length := by simp [stOf]
set_option maxHeartbeats 3200000 in
theorem way_put {w : World} {F : Nat → Prop} {g n : Nat} {st : List (List UInt8 × Bool)} {A : Option Addr} {L c : Nat} {xs : List UInt8} (hX : WayX true 68 w F g n st) (hb : RdB w (.slice A L c) xs) (hL : L ≤ 1000000000) :
    Calls Tryd.prog 10 #[.pointer (some ⟨g, 0, none⟩), .slice A L c] w (WOpP true 68 w F g n (.int .i64 ((putS n st xs).1 : Int)) (putS n st xs).2) := by
  obtain ⟨v, ls, h, rfl⟩ := hX
  have hl := hb.len
  have hM := made_none h
  by_cases h1 : 2048 < L
  · have hfin : WOpP true 68 w F g n (.int .i64 ((putS n (stOf ls) xs).1 : Int)) (putS n (stOf ls) xs).2 (.returned (.int .i64 81)) w := by
      rw [show putS n (stOf ls) xs = (81, stOf ls) by unfold putS; rw [if_pos (by omega)]]
      exact ⟨rfl, F, ⟨v, ls, h, rfl⟩, Gr.refl _ _ _, Kp.refl _ _⟩
    have HF := Lib.hid hfin
    clear hfin h hb hl
    go_enter Tryd.func10, Tryd.ntmps10
    go_wp2_with fail
    refine hM.mono ?_
    rintro e w2 ⟨rfl, rfl⟩
    go_wp2
    go_ret
    exact HF.out
  · obtain ⟨vA, vc, rfl, hvc⟩ := h.r.shape
    obtain ⟨m, hm⟩ : ∃ m, ls.length = m := ⟨_, rfl⟩
    have c1 := h.c1
    have c0 := h.c0
    rw [hm] at c1 h
    by_cases h2 : m = n
    · have hfin : WOpP true 68 w F g n (.int .i64 ((putS n (stOf ls) xs).1 : Int)) (putS n (stOf ls) xs).2 (.returned (.int .i64 2)) w.drew := by
        rw [show putS n (stOf ls) xs = (2, stOf ls) by unfold putS; rw [if_neg (by omega), if_pos (by rw [stOf_len]; omega)]]
        exact ⟨rfl, F, ⟨_, ls, h.keepN (Kp.refl _ w).drew, rfl⟩, Gr.refl _ _ _, (Kp.refl _ w).drew⟩
      have HF := Lib.hid hfin
      clear hfin h hb hl hm
      subst h2
      go_enter Tryd.func10, Tryd.ntmps10
      go_wp2_with fail
      refine hM.mono ?_
      rintro e w2 ⟨rfl, rfl⟩
      go_wp2
      go_region
      go_wp2
      go_ret
      exact HF.out
    · have hps : putS n (stOf ls) xs = (0, stOf ls ++ [(xs, false)]) := by unfold putS; rw [if_neg (by omega), if_neg (by rw [stOf_len]; omega)]
      have h2' : ((m : Int) == (n : Int)) = false := by simp; omega
      have HPS := Lib.hid hps
      have HH := Lib.hid (And.intro h (And.intro hm hl))
      have HB := Lib.hid hb
      have hn1 := h.lt
      have hle := h.le
      have hne := h.ne
      clear hps h hb hl
      go_enter Tryd.func10, Tryd.ntmps10
      go_wp2_with fail
      refine hM.mono ?_
      rintro e w2 ⟨rfl, rfl⟩
      go_wp2
      go_region
      go_wp2_with fail
      refine rg_begin 12 (fun k => (Value.slice vA m vc).ownBlock = some k) (by kernel_rfl) (fun w1 d1 => ?_)
      have k01 : KpN w w1 := (Kp.refl (fun _ => False) w).drew.thenN d1
      have hh1 := HH.out.1.keepN k01
      refine rg_take 0 (d := (some 23)) (v := .pointer (some ⟨g, 0, none⟩)) (by decide) rfl rfl (by kernel_rfl) (by kernel_rfl) (by kernel_rfl) (fun _ _ _ h => h) rfl (fun W => rfl) ?_
      conv => arg 8; simp only [Act.put, List.setIfInBounds_toArray, List.set_cons_zero, List.set_cons_succ]
      refine rg_take 1 (d := (some 24)) (v := .pointer (some ⟨g, 0, none⟩)) (by decide) rfl rfl (by kernel_rfl) (by kernel_rfl) (by kernel_rfl) (fun _ _ _ h => h) rfl (fun W => rfl) ?_
      conv => arg 8; simp only [Act.put, List.setIfInBounds_toArray, List.set_cons_zero, List.set_cons_succ]
      refine rg_take 2 (d := (some 25)) (v := .pointer (some ⟨g, 0, none⟩)) (by decide) rfl rfl (by kernel_rfl) (by kernel_rfl) (by kernel_rfl) (fun _ _ _ h => h) rfl (fun W => by go_simp) ?_
      conv => arg 8; simp only [Act.put, List.setIfInBounds_toArray, List.set_cons_zero, List.set_cons_succ]
      refine rg_take 3 (d := (some 26)) (v := .pointer (some ⟨g, 1, none⟩)) (by decide) rfl rfl (by kernel_rfl) (by kernel_rfl) (by kernel_rfl) (fun _ _ _ h => h) rfl (fun W => by go_simp) ?_
      conv => arg 8; simp only [Act.put, List.setIfInBounds_toArray, List.set_cons_zero, List.set_cons_succ]
      refine rg_read 4 (d := (some 27)) (v := .slice vA m vc) (by decide) (by kernel_rfl) (by kernel_rfl) rfl rfl (by kernel_rfl) (by kernel_rfl) (by kernel_rfl) (fun _ _ _ h => h) rfl (fun W hW => by have hc := (hW.cell (p := ⟨g, 1, none⟩) (hh1.lt) hne).trans (hh1.c1); go_simp) ?_
      conv => arg 8; simp only [Act.put, List.setIfInBounds_toArray, List.set_cons_zero, List.set_cons_succ]
      refine rg_take 5 (d := (some 28)) (v := .slice A L c) (by decide) rfl rfl (by kernel_rfl) (by kernel_rfl) (by kernel_rfl) (fun _ _ _ h => h) rfl (fun W => rfl) ?_
      conv => arg 8; simp only [Act.put, List.setIfInBounds_toArray, List.set_cons_zero, List.set_cons_succ]
      refine rg_call 6 (d := (some 29)) (by kernel_rfl) (clone_c (HB.out.keepN k01) (by rw [← HH.out.2.2]; omega)) rfl rfl (by kernel_rfl) rfl rfl ?_
      rintro e w2 ⟨u, rfl, ou, k2⟩
      refine ⟨_, rfl, k2.mono (fun _ _ x => x.elim), ?_⟩
      conv => arg 8; simp only [Act.put, List.setIfInBounds_toArray, List.set_cons_zero, List.set_cons_succ]
      obtain ⟨Au, cu, rfl, -⟩ := ou.readsB.form
      obtain ⟨v3, w3, p3⟩ := hh1.push (ty := 23) (t := 23) (by decide) Tryd.underlying23 dgInfo rfl (by omega) (by rw [HH.out.2.1]; omega) k2 (d := ⟨.slice Au xs.length cu, xs, false⟩) ou (by rw [← HH.out.2.2]; omega)
      refine rg_take 7 (d := (some 30)) (v := .agg #[.bool false, .slice Au xs.length cu]) (by decide) rfl rfl (by kernel_rfl) (by kernel_rfl) (by kernel_rfl) (fun _ _ _ h => h) rfl (fun W => run_dg0 rfl) ?_
      conv => arg 8; simp only [Act.put, List.setIfInBounds_toArray, List.set_cons_zero, List.set_cons_succ]
      refine rg_onlyW 8 (w' := w2.alloc (.cells #[.bool false, .slice Au xs.length cu] 68)) (d := (some 31)) (v := .slice (some ⟨w2.heap.size, 0, none⟩) 1 1) rfl rfl (by kernel_rfl) rfl (run_dgs w2 rfl) ((Kp.refl _ w2).alloc _) ?_
      conv => arg 8; simp only [Act.put, List.setIfInBounds_toArray, List.set_cons_zero, List.set_cons_succ]
      refine rg_onlyW 9 (w' := w3) (d := (some 32)) (v := v3) rfl rfl (by kernel_rfl) rfl (run_append_op p3.run rfl rfl) (p3.kp) ?_
      conv => arg 8; simp only [Act.put, List.setIfInBounds_toArray, List.set_cons_zero, List.set_cons_succ]
      refine rg_take 10 (d := (some 33)) (v := .pointer (some ⟨g, 0, none⟩)) (by decide) rfl rfl (by kernel_rfl) (by kernel_rfl) (by kernel_rfl) (fun _ _ _ h => h) rfl (fun W => by go_simp) ?_
      conv => arg 8; simp only [Act.put, List.setIfInBounds_toArray, List.set_cons_zero, List.set_cons_succ]
      refine rg_take 11 (d := (some 34)) (v := .pointer (some ⟨g, 1, none⟩)) (by decide) rfl rfl (by kernel_rfl) (by kernel_rfl) (by kernel_rfl) (fun _ _ _ h => h) rfl (fun W => by go_simp) ?_
      conv => arg 8; simp only [Act.put, List.setIfInBounds_toArray, List.set_cons_zero, List.set_cons_succ]
      refine rg_lastS (G := fun _ => True) (w3.setCell ⟨g, 1, none⟩ v3) (d := none) rfl rfl (by kernel_rfl) rfl (run_store_op (run_storeAt_one _ g 1 23 v3 p3.there p3.fz (by kernel_rfl) p3.cells p3.one) rfl rfl) (by kernel_rfl) ?_
      conv => arg 8; simp only [Act.put, List.setIfInBounds_toArray, List.set_cons_zero, List.set_cons_succ]
      refine rg_done (by kernel_rfl) ?_
      have hfin : WOpP true 68 w F g n (.int .i64 ((putS n (stOf ls) xs).1 : Int)) (putS n (stOf ls) xs).2 (.returned (.int .i64 0)) (w3.setCell ⟨g, 1, none⟩ v3) := by
        rw [HPS.out]
        obtain ⟨F', hw, hg⟩ := p3.way
        refine ⟨rfl, F', ⟨_, _, hw, by rw [stOf_app]; rfl⟩, fun b hb => ?_, Kp.after k01 p3.all⟩
        rcases hg b hb with hb | hb
        · exact .inl hb
        · exact .inr ⟨by have := hb.1; have := k01.size; omega, hb.2⟩
      have HF := Lib.hid hfin
      clear hfin p3 ou hh1
      generalize w3.setCell ⟨g, 1, none⟩ v3 = w8 at HF ⊢
      go_wp2
      go_ret
      exact HF.out
end Go.Proofs.YteokkpmndfekoaaDoor
