/- disk.settle. -/
import Derived.Test.YthkbgbbejgpeaaaDS
namespace Go.Proofs.Ythkbgbbejgpeaaa
open Go Go.RowKit
set_option maxRecDepth 100000

theorem run_storeAt_one {P : Program} (w : World) (b o : Nat) (ty : TypeId) (v : Value) (hc : (w.cell? ⟨b, o, none⟩).isSome = true) (hf : w.frozen? ⟨b, o, none⟩ = false) (hi : (P.info? ty).map (·.size) = some 1) (hv : v.cells = #[v]) (h1 : v.oneCell' = true) :
    (Instr.storeAt ty (.pointer (some ⟨b, o, none⟩)) v).run P w = .ok () (w.setCell ⟨b, o, none⟩ v) := by
  have := run_storeCells_cells (P := P) b o [v] 0 w (fun j hj => by obtain rfl : j = 0 := (by simpa using hj); exact hc) (fun j hj => by obtain rfl : j = 0 := (by simpa using hj); exact hf)
    (fun u hu => by obtain rfl : u = v := (by simpa using hu); exact h1)
  cases hq : P.info? ty with
  | none => simp [hq] at hi
  | some i =>
    have hs : i.size = 1 := by simpa [hq] using hi
    simp only [Nat.add_zero] at this
    simp [Instr.storeAt, Instr.sureAddr, storeVar, sizeOf, typeInfo, hq, hv, hs, this, World.setCells]
def DSettleP (w : World) (F : Nat → Prop) (g bd bt m k : Nat) (D : DataW Unit) (sl : Nat → Value) (d : Dk) (e : Ending) (w' : World) : Prop := e = .returned (.tuple #[]) ∧ DiskM w' F g bd bt m k D sl d ∧ Kp (fun b => b = bd ∨ b = bt) w w'
set_option maxHeartbeats 3200000 in
theorem settle_c {w : World} {F : Nat → Prop} {g bd bt m k : Nat} {D : DataW Unit} {sl : Nat → Value} {d : Dk} (i : Nat) (hi : i < d.n) (xs : List UInt8) (hx : xs.length = 128) (t : Bool) (h : DiskM w F g bd bt m k D sl d) :
    Calls Try.prog 59 #[.pointer (some ⟨g, 0, none⟩), .int .i64 i, .agg (bvs xs).toArray, .bool t] w (DSettleP w F g bd bt m k D sl (settleD d i xs t)) := by
  have hn2 := h.n2
  obtain ⟨l1, l2, l3, l4⟩ := h.lt
  obtain ⟨e1, e2, e3, e4, e5, e6⟩ := h.ne
  go_enter Try.func59, Try.ntmps59
  go_wp2_with fail
  have kb : KpN w (w.alloc (.cells (bvs xs).toArray 85)) := (Kp.refl _ w).alloc _
  have hrow : RowAt (w.alloc (.cells (bvs xs).toArray 85)) ⟨w.heap.size, 0, none⟩ (bvs xs) := by
    have := (RdB.laid w 85 xs (bvs xs).toArray (0, 0) rfl w.heap.size 128 rfl (by omega)).rowAt
    exact this
  have hbl : w.heap.size < (w.alloc (.cells (bvs xs).toArray 85)).heap.size := by rw [World.alloc]; simp only [Array.size_push]; omega
  obtain ⟨w1, hw1⟩ : ∃ w1, w.alloc (.cells (bvs xs).toArray 85) = w1 := ⟨_, rfl⟩
  rw [hw1] at kb hrow hbl ⊢
  refine rg_begin 15 (fun b => b = bd) (by kernel_rfl) (fun w3 d3 => ?_)
  have h3 := (h.keepN kb).keepN d3
  have hrow3 := hrow.keep d3 (fun e => e)
  have hst := h3.settle i hi xs hx t
  have kst : Kp (fun b => b = bd) w3 (w3.setCells bd (i * 128) (bvs xs)) := Kp.setCells bd (bvs xs) (i * 128) w3
  have hlen : (bvs xs).length = 128 := by rw [bvs_length, hx]
  refine rg_take 0 (d := (some 8)) (v := .pointer (some ⟨g, 0, none⟩)) (by decide) rfl rfl (by kernel_rfl) (by kernel_rfl) (by kernel_rfl) (fun _ _ _ h => h) rfl (fun W => rfl) ?_
  conv => arg 8; simp only [Act.put, List.setIfInBounds_toArray, List.set_cons_zero, List.set_cons_succ]
  refine rg_take 1 (d := (some 9)) (v := .pointer (some ⟨g, 0, none⟩)) (by decide) rfl rfl (by kernel_rfl) (by kernel_rfl) (by kernel_rfl) (fun _ _ _ h => h) rfl (fun W => by go_simp) ?_
  conv => arg 8; simp only [Act.put, List.setIfInBounds_toArray, List.set_cons_zero, List.set_cons_succ]
  refine rg_take 2 (d := (some 10)) (v := .pointer (some ⟨g, 0, none⟩)) (by decide) rfl rfl (by kernel_rfl) (by kernel_rfl) (by kernel_rfl) (fun _ _ _ h => h) rfl (fun W => by go_simp) ?_
  conv => arg 8; simp only [Act.put, List.setIfInBounds_toArray, List.set_cons_zero, List.set_cons_succ]
  refine rg_read 3 (d := (some 11)) (v := .slice (some ⟨bd, 0, none⟩) d.n d.n) (by decide) (by kernel_rfl) (by kernel_rfl) rfl rfl (by kernel_rfl) (by kernel_rfl) (by kernel_rfl) (fun _ _ _ h => h) rfl (fun W hW => by have hc := (hW.cell (p := ⟨g, 0, none⟩) (h3.lt.1) (fun hh => e1 hh)).trans (h3.c0); go_simp) ?_
  conv => arg 8; simp only [Act.put, List.setIfInBounds_toArray, List.set_cons_zero, List.set_cons_succ]
  refine rg_take 4 (d := (some 12)) (v := .int .i64 i) (by decide) rfl rfl (by kernel_rfl) (by kernel_rfl) (by kernel_rfl) (fun _ _ _ h => h) rfl (fun W => rfl) ?_
  conv => arg 8; simp only [Act.put, List.setIfInBounds_toArray, List.set_cons_zero, List.set_cons_succ]
  refine rg_take 5 (d := (some 13)) (v := .pointer (some ⟨g, 0, none⟩)) (by decide) rfl rfl (by kernel_rfl) (by kernel_rfl) (by kernel_rfl) (fun _ _ _ h => h) rfl (fun W => rfl) ?_
  conv => arg 8; simp only [Act.put, List.setIfInBounds_toArray, List.set_cons_zero, List.set_cons_succ]
  refine rg_take 6 (d := (some 14)) (v := .pointer (some ⟨g, 0, none⟩)) (by decide) rfl rfl (by kernel_rfl) (by kernel_rfl) (by kernel_rfl) (fun _ _ _ h => h) rfl (fun W => by go_simp) ?_
  conv => arg 8; simp only [Act.put, List.setIfInBounds_toArray, List.set_cons_zero, List.set_cons_succ]
  refine rg_take 7 (d := (some 15)) (v := .pointer (some ⟨g, 1, none⟩)) (by decide) rfl rfl (by kernel_rfl) (by kernel_rfl) (by kernel_rfl) (fun _ _ _ h => h) rfl (fun W => by go_simp) ?_
  conv => arg 8; simp only [Act.put, List.setIfInBounds_toArray, List.set_cons_zero, List.set_cons_succ]
  refine rg_read 8 (d := (some 16)) (v := .slice (some ⟨bt, 0, none⟩) d.n d.n) (by decide) (by kernel_rfl) (by kernel_rfl) rfl rfl (by kernel_rfl) (by kernel_rfl) (by kernel_rfl) (fun _ _ _ h => h) rfl (fun W hW => by have hc := (hW.cell (p := ⟨g, 1, none⟩) (h3.lt.1) (fun hh => e1 hh)).trans (h3.c1); go_simp) ?_
  conv => arg 8; simp only [Act.put, List.setIfInBounds_toArray, List.set_cons_zero, List.set_cons_succ]
  refine rg_take 9 (d := (some 17)) (v := .int .i64 i) (by decide) rfl rfl (by kernel_rfl) (by kernel_rfl) (by kernel_rfl) (fun _ _ _ h => h) rfl (fun W => rfl) ?_
  conv => arg 8; simp only [Act.put, List.setIfInBounds_toArray, List.set_cons_zero, List.set_cons_succ]
  refine rg_read 10 (d := (some 18)) (v := .agg (bvs xs).toArray) (by decide) (by kernel_rfl) (by kernel_rfl) rfl rfl (by kernel_rfl) (by kernel_rfl) (by kernel_rfl) (fun _ _ _ h => h) rfl (fun W hW => by exact run_load_op (hrow3.keep hW (fun e => by dsimp only at e; omega)) rfl Try.underlying85 rfl (secSize _ (by simp [bvs, hx]))) ?_
  conv => arg 8; simp only [Act.put, List.setIfInBounds_toArray, List.set_cons_zero, List.set_cons_succ]
  refine rg_take 11 (d := (some 19)) (v := .bool t) (by decide) rfl rfl (by kernel_rfl) (by kernel_rfl) (by kernel_rfl) (fun _ _ _ h => h) rfl (fun W => rfl) ?_
  conv => arg 8; simp only [Act.put, List.setIfInBounds_toArray, List.set_cons_zero, List.set_cons_succ]
  refine rg_take 12 (d := (some 20)) (v := .pointer (some ⟨bd, i * 128, none⟩)) (by decide) rfl rfl (by kernel_rfl) (by kernel_rfl) (by kernel_rfl) (fun _ _ _ h => h) rfl (fun W => by go_simp) ?_
  conv => arg 8; simp only [Act.put, List.setIfInBounds_toArray, List.set_cons_zero, List.set_cons_succ]
  refine rg_onlyS 13 (w' := w3.setCells bd (i * 128) (bvs xs)) (d := none) rfl rfl (by kernel_rfl) rfl (run_store_op (run_storeAt_mid w3 bd (i * 128) 85 (bvs xs).toArray (by simpa [hlen] using h3.there i hi) (secSize _ (by simp [bvs, hx])) (bvs_all _)) rfl rfl) (kst) ?_
  conv => arg 8; simp only [Act.put, List.setIfInBounds_toArray, List.set_cons_zero, List.set_cons_succ]
  refine rg_take 14 (d := (some 21)) (v := .pointer (some ⟨bt, i, none⟩)) (by decide) rfl rfl (by kernel_rfl) (by kernel_rfl) (by kernel_rfl) (fun _ _ _ h => h) rfl (fun W => by go_simp) ?_
  conv => arg 8; simp only [Act.put, List.setIfInBounds_toArray, List.set_cons_zero, List.set_cons_succ]
  refine rg_lastS (G := fun _ => True) ((w3.setCells bd (i * 128) (bvs xs)).setCell ⟨bt, i, none⟩ (.bool t)) (d := none) rfl rfl (by kernel_rfl) rfl (run_store_op (run_storeAt_one _ bt i 4 (.bool t) (by rw [kst.cell h3.lt.2.2.1 (fun e => e4 e.symm), h3.tor i hi]; rfl) (by rw [World.frozen?_setCells]; exact h3.tfz i) (by kernel_rfl) rfl rfl) rfl rfl) (by kernel_rfl) ?_
  conv => arg 8; simp only [Act.put, List.setIfInBounds_toArray, List.set_cons_zero, List.set_cons_succ]
  refine rg_done (by kernel_rfl) ?_
  go_wp2
  refine bodyPost_end (results_none rfl _ _ _) rfl ⟨rfl, hst, ?_⟩
  exact (((Kp.refl _ w).thenN kb).thenN d3).trans (kst.trans (kp1_set (F := fun b => b = bt) rfl i (.bool t)) (fun _ _ x => .inl x) (fun _ _ x => .inr x)) (fun _ _ x => x) (fun _ _ x => x)
end Go.Proofs.Ythkbgbbejgpeaaa
