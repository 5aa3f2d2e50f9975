/- EtherNone: what the call does. -/
import Derived.Test.YteokkpmndfekoaaDoorProg
import Derived.Test.YteokkpmndfekoaaDoorR
namespace Go.Proofs.YteokkpmndfekoaaDoor
open Go Go.RowKit

/-- no Way, or one that New did not make -/
def NoWay (w : World) (p : Value) : Prop := p = .pointer none ∨ ∃ g, p = .pointer (some ⟨g, 0, none⟩) ∧ w.cell? ⟨g, 0, none⟩ = some (.int .i64 0) ∧ w.cell? ⟨g, 1, none⟩ = some (.slice none 0 0)
theorem wnone_c {w : World} {p : Value} (h : NoWay w p) : Calls Tryd.prog 27 #[p] w fun e w' => e = .returned (.bool true) ∧ w = w' := by
  go_enter Tryd.func27, Tryd.ntmps27
  rcases h with rfl | ⟨g, rfl, h0, h1⟩
  all_goals go_wp2
  all_goals go_ret
  all_goals exact ⟨rfl, rfl⟩
theorem wat_c {w : World} {p : Value} {i : Int} (h : NoWay w p) : Calls Tryd.prog 24 #[p, .int .i64 i] w fun e w' => e = .returned (.tuple #[.pointer none, .int .i64 1]) ∧ w = w' := by
  go_enter Tryd.func24, Tryd.ntmps24
  go_wp2_with fail
  refine (wnone_c h).mono ?_
  rintro e w2 ⟨rfl, rfl⟩
  go_wp2
  go_ret2
  exact ⟨rfl, rfl⟩
theorem wput_c {w : World} {p b : Value} (h : NoWay w p) : Calls Tryd.prog 10 #[p, b] w fun e w' => e = .returned (.int .i64 1) ∧ w = w' := by
  go_enter Tryd.func10, Tryd.ntmps10
  go_wp2_with fail
  refine (wnone_c h).mono ?_
  rintro e w2 ⟨rfl, rfl⟩
  go_wp2
  go_ret
  exact ⟨rfl, rfl⟩
theorem wlen_c {w : World} {p : Value} (h : NoWay w p) : Calls Tryd.prog 9 #[p] w fun e w' => e = .returned (.int .i64 0) ∧ w = w' := by
  go_enter Tryd.func9, Tryd.ntmps9
  rcases h with rfl | ⟨g, rfl, h0, h1⟩
  all_goals go_wp2
  all_goals go_ret
  all_goals exact ⟨rfl, rfl⟩
theorem wlook_c {w : World} {p : Value} {i : Int} (h : NoWay w p) : Calls Tryd.prog 7 #[p, .int .i64 i] w fun e w' => e = .returned (.tuple #[.slice none 0 0, .int .i64 1]) ∧ w = w' := by
  go_enter Tryd.func7, Tryd.ntmps7
  go_wp2_with fail
  refine (wat_c h).mono ?_
  rintro e w2 ⟨rfl, rfl⟩
  go_wp2
  go_ret2
  exact ⟨rfl, rfl⟩
theorem wtake_c {w : World} {p : Value} {i : Int} (h : NoWay w p) : Calls Tryd.prog 8 #[p, .int .i64 i] w fun e w' => e = .returned (.tuple #[.slice none 0 0, .int .i64 1]) ∧ w = w' := by
  go_enter Tryd.func8, Tryd.ntmps8
  go_wp2_with fail
  refine (wlook_c h).mono ?_
  rintro e w2 ⟨rfl, rfl⟩
  go_wp2
  go_ret2
  exact ⟨rfl, rfl⟩
theorem wdrop_c {w : World} {p : Value} {i : Int} (h : NoWay w p) : Calls Tryd.prog 11 #[p, .int .i64 i] w fun e w' => e = .returned (.int .i64 1) ∧ w = w' := by
  go_enter Tryd.func11, Tryd.ntmps11
  go_wp2_with fail
  refine (wtake_c h).mono ?_
  rintro e w2 ⟨rfl, rfl⟩
  go_wp2
  go_ret
  exact ⟨rfl, rfl⟩
theorem wdouble_c {w : World} {p : Value} {i : Int} (h : NoWay w p) : Calls Tryd.prog 12 #[p, .int .i64 i] w fun e w' => e = .returned (.int .i64 1) ∧ w = w' := by
  go_enter Tryd.func12, Tryd.ntmps12
  go_wp2_with fail
  refine (wat_c h).mono ?_
  rintro e w2 ⟨rfl, rfl⟩
  go_wp2
  go_ret
  exact ⟨rfl, rfl⟩
theorem wturn_c {w : World} {p : Value} {i j m : Int} (h : NoWay w p) : Calls Tryd.prog 13 #[p, .int .i64 i, .int .i64 j, .int .u32 m] w fun e w' => e = .returned (.int .i64 1) ∧ w = w' := by
  go_enter Tryd.func13, Tryd.ntmps13
  go_wp2_with fail
  refine (wat_c h).mono ?_
  rintro e w2 ⟨rfl, rfl⟩
  go_wp2
  go_ret
  exact ⟨rfl, rfl⟩
set_option maxHeartbeats 3200000 in
theorem none_walk {w : World} : Calls Tryd.prog 3 #[] w fun e w' => e = .returned (.bool true) ∧ KpN w w' := by
  go_enter Tryd.func3, Tryd.ntmps3
  have k1 := (Kp.refl (fun _ => False) w).alloc (.cells #[.int .i64 0, .slice none 0 0] 25)
  have hz : NoWay (w.alloc (.cells #[.int .i64 0, .slice none 0 0] 25)) (.pointer (some ⟨w.heap.size, 0, none⟩)) := .inr ⟨_, rfl, by simp, by simp⟩
  have hn : ∀ w, NoWay w (.pointer none) := fun _ => .inl rfl
  go_wp2_with fail
  refine (wlook_c hz).mono ?_
  rintro e w2 ⟨rfl, rfl⟩
  go_wp2_with fail
  refine (wtake_c hz).mono ?_
  rintro e w2 ⟨rfl, rfl⟩
  go_wp2_with fail
  refine (wtake_c (hn _)).mono ?_
  rintro e w2 ⟨rfl, rfl⟩
  go_wp2_with fail
  refine (wlen_c hz).mono ?_
  rintro e w2 ⟨rfl, rfl⟩
  go_wp2_with fail
  refine (wlen_c (hn _)).mono ?_
  rintro e w2 ⟨rfl, rfl⟩
  go_wp2_with fail
  refine (wput_c hz).mono ?_
  rintro e w2 ⟨rfl, rfl⟩
  go_wp2_with fail
  refine (wdrop_c hz).mono ?_
  rintro e w2 ⟨rfl, rfl⟩
  go_wp2_with fail
  refine (wdouble_c hz).mono ?_
  rintro e w2 ⟨rfl, rfl⟩
  go_wp2_with fail
  refine (wturn_c hz).mono ?_
  rintro e w2 ⟨rfl, rfl⟩
  go_wp2_with fail
  refine (wput_c (hn _)).mono ?_
  rintro e w2 ⟨rfl, rfl⟩
  go_wp2
  go_ret
  exact ⟨rfl, k1.alloc _⟩
end Go.Proofs.YteokkpmndfekoaaDoor
