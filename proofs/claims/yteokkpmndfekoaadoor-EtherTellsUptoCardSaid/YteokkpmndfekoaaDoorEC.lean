/- A way: New, none, at, Len, Look. -/
import Derived.Test.YteokkpmndfekoaaDoorEB
import Derived.Test.YteokkpmndfekoaaDoorOCL
namespace Go.Proofs.YteokkpmndfekoaaDoor
open Go Go.RowKit
set_option maxRecDepth 100000

/-- what is F' was F, or is new -/
def Gr (w w' : World) (F F' : Nat → Prop) : Prop := ∀ b, F' b → F b ∨ Iv w.heap.size w'.heap.size b
theorem Gr.refl (w w' : World) (F : Nat → Prop) : Gr w w' F F := fun _ h => .inl h
theorem DgR.shape {o : Bool} {T : Nat} {w : World} {F : Nat → Prop} {v : Value} {ls : List Dg} (h : DgR o T w F v ls) : ∃ A c, v = .slice A ls.length c ∧ ls.length ≤ c := by
  obtain ⟨_, A, c, rfl, hc, _⟩ := h.row.reads
  exact ⟨A, c, rfl, hc⟩
section
variable {T : Nat} {w : World} {F : Nat → Prop} {g n : Nat} {v : Value} {ls : List Dg}
theorem made_none (h : WayM true T w F g n v ls) : Calls Tryd.prog 27 #[.pointer (some ⟨g, 0, none⟩)] w fun e w' => e = .returned (.bool false) ∧ w = w' := by
  have c0 := h.c0
  have hn : ((n : Int) == 0) = false := by have := h.n1; simp; omega
  clear h
  go_enter Tryd.func27, Tryd.ntmps27
  go_wp2
  go_ret
  exact ⟨rfl, rfl⟩
theorem way_len (h : WayM true T w F g n v ls) : Calls Tryd.prog 9 #[.pointer (some ⟨g, 0, none⟩)] w fun e w' => e = .returned (.int .i64 (ls.length : Int)) ∧ w = w' := by
  obtain ⟨A, c, rfl, hc⟩ := h.r.shape
  have c1 := h.c1
  clear h
  go_enter Tryd.func9, Tryd.ntmps9
  go_wp2
  go_ret
  exact ⟨rfl, rfl⟩
theorem way_out {i : Int} (h : WayM true T w F g n v ls) (hi : i < 0 ∨ (ls.length : Int) ≤ i) : Calls Tryd.prog 24 #[.pointer (some ⟨g, 0, none⟩), .int .i64 i] w fun e w' => e = .returned (.tuple #[.pointer none, .int .i64 4]) ∧ w = w' := by
  obtain ⟨A, c, rfl, hc⟩ := h.r.shape
  have c1 := h.c1
  have hM := made_none h
  clear h
  generalize ls.length = m at *
  by_cases h0 : i < 0
  · go_enter Tryd.func24, Tryd.ntmps24
    go_wp2_with fail
    refine hM.mono ?_
    rintro e w2 ⟨rfl, rfl⟩
    go_wp2
    go_ret2
    exact ⟨rfl, rfl⟩
  · have h1 : (m : Int) ≤ i := by omega
    go_enter Tryd.func24, Tryd.ntmps24
    go_wp2_with fail
    refine hM.mono ?_
    rintro e w2 ⟨rfl, rfl⟩
    go_wp2
    go_ret2
    exact ⟨rfl, rfl⟩
theorem way_at {gr m c j : Nat} (h : WayM true 68 w F g n (.slice (some ⟨gr, 0, none⟩) m c) ls) (hj : j < m) : Calls Tryd.prog 24 #[.pointer (some ⟨g, 0, none⟩), .int .i64 (j : Int)] w fun e w' => e = .returned (.tuple #[.pointer (some ⟨gr, j * 2, none⟩), .int .i64 0]) ∧ w = w' := by
  have c1 := h.c1
  have hM := made_none h
  clear h
  go_enter Tryd.func24, Tryd.ntmps24
  go_wp2_with fail
  refine hM.mono ?_
  rintro e w2 ⟨rfl, rfl⟩
  go_wp2
  go_ret2
  exact ⟨rfl, rfl⟩
/-- new bytes are handed back, with no fault -/
def BokP (w : World) (xs : List UInt8) (e : Ending) (w' : World) : Prop := ∃ u, e = .returned (.tuple #[u, .int .i64 0]) ∧ OwB w' 5 (Iv w.heap.size w'.heap.size) u xs ∧ KpN w w'
/-- or a fault alone -/
def BnoP (w : World) (x : Int) (e : Ending) (w' : World) : Prop := e = .returned (.tuple #[.slice none 0 0, .int .i64 x]) ∧ KpN w w'
theorem way_look_out {i : Int} (h : WayM true T w F g n v ls) (hi : i < 0 ∨ (ls.length : Int) ≤ i) : Calls Tryd.prog 7 #[.pointer (some ⟨g, 0, none⟩), .int .i64 i] w (BnoP w 4) := by
  have hM := way_out h hi
  clear h hi
  go_enter Tryd.func7, Tryd.ntmps7
  go_wp2_with fail
  refine hM.mono ?_
  rintro e w2 ⟨rfl, rfl⟩
  go_wp2
  go_ret2
  exact ⟨rfl, Kp.refl _ _⟩
theorem way_look {j : Nat} (h : WayM true 68 w F g n v ls) (hj : j < ls.length) : Calls Tryd.prog 7 #[.pointer (some ⟨g, 0, none⟩), .int .i64 (j : Int)] w (BokP w ls[j].b) := by
  obtain ⟨gr, cap, rfl, -, -⟩ := h.r.form (by omega)
  have hM := way_at h hj
  have hc := h.r.p1 j hj
  have hb := (h.r.all.each _ (List.getElem_mem hj)).readsB
  have hs := h.sm _ (List.getElem_mem hj)
  generalize ls[j] = d at *
  obtain ⟨A, c, hv, -⟩ := hb.form
  rw [hv] at hc hb
  have hC := clone_c hb (by omega)
  have HC := Lib.hid hC
  clear hC hb hv hs h
  generalize d.b.length = L at *
  go_enter Tryd.func7, Tryd.ntmps7
  go_wp2_with fail
  refine hM.mono ?_
  rintro e w2 ⟨rfl, rfl⟩
  go_wp2_with fail
  refine HC.out.mono ?_
  rintro e w2 ⟨u, rfl, o2, k2⟩
  go_wp2
  go_ret2
  exact ⟨u, rfl, o2, k2⟩
end
theorem way_new {n : Nat} {w : World} (h1 : 1 ≤ n) (h2 : n ≤ 1024) (T : Nat) : Calls Tryd.prog 14 #[.int .i64 (n : Int)] w fun e w' => ∃ g, e = .returned (.tuple #[.pointer (some ⟨g, 0, none⟩), .int .i64 0]) ∧ WayM true T w' (Iv w.heap.size w'.heap.size) g n (.slice none 0 0) [] ∧ KpN w w' := by
  have k1 := (Kp.refl (fun _ => False) w).alloc (.cells #[.int .i64 (n : Int), .slice none 0 0] 25)
  have hz : (w.alloc (.cells #[.int .i64 (n : Int), .slice none 0 0] 25)).heap.size = w.heap.size + 1 := by simp
  have hm : WayM true T (w.alloc (.cells #[.int .i64 (n : Int), .slice none 0 0] 25)) (Iv w.heap.size (w.heap.size + 1)) w.heap.size n (.slice none 0 0) [] :=
    ⟨h1, h2, ⟨Nat.le_refl _, by omega⟩, by rw [hz]; omega, by simp, by simp, fun j => frozen_of_row _ _ j _ _ (heap_alloc_new _ _), DgR.nil _ _ _ _, by simp [Value.ownBlock], fun d hd => (List.not_mem_nil hd).elim, Nat.zero_le _, fun d hd => (List.not_mem_nil hd).elim⟩
  rw [← hz] at hm
  have HM := Lib.hid hm
  clear hm hz
  go_enter Tryd.func14, Tryd.ntmps14
  go_wp2
  go_ret2
  exact ⟨_, rfl, HM.out, k1⟩
theorem way_new_no {n : Int} {w : World} (h : n < 1 ∨ 1024 < n) : Calls Tryd.prog 14 #[.int .i64 n] w fun e w' => e = .returned (.tuple #[.pointer none, .int .i64 1]) ∧ w = w' := by
  by_cases h1 : n < 1
  · go_enter Tryd.func14, Tryd.ntmps14
    go_wp2
    go_ret2
    exact ⟨rfl, rfl⟩
  · have h2 : 1024 < n := by omega
    go_enter Tryd.func14, Tryd.ntmps14
    go_wp2
    go_ret2
    exact ⟨rfl, rfl⟩
end Go.Proofs.YteokkpmndfekoaaDoor
