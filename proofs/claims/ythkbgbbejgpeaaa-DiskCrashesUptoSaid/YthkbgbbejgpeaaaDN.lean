/- DiskNames: what the call does. -/
import Derived.Test.YthkbgbbejgpeaaaDB
import Derived.Laws.Cover3
namespace Go.Proofs.Ythkbgbbejgpeaaa
open Go Go.RowKit
set_option maxRecDepth 100000

def DNewP (w : World) (n : Nat) : Ending → World → Prop := fun e w' => ∃ g bd bt m, e = .returned (.tuple #[.pointer (some ⟨g, 0, none⟩), .int .i64 0]) ∧ w.heap.size ≤ g ∧ w.heap.size ≤ bd ∧ w.heap.size ≤ bt ∧ w.heap.size ≤ m ∧ g ≠ bd ∧ g ≠ bt ∧ g ≠ m ∧ bd ≠ bt ∧ bd ≠ m ∧ bt ≠ m ∧
      w'.heap[g]? = some (.cells #[.slice (some ⟨bd, 0, none⟩) n n, .slice (some ⟨bt, 0, none⟩) n n, .map (some m), .bool false, .int .i64 (-1)] 79 (0, 0)) ∧
      w'.heap[bd]? = some (.cells (madeCells (Value.agg (Array.replicate 128 (.int .u8 0))).cells (n * 128)) 85 (0, 0)) ∧ w'.heap[bt]? = some (.cells (madeCells (Value.bool false).cells (n * 1)) 4 (0, 0)) ∧ w'.heap[m]? = some (.map #[] 0) ∧ KpN w w'
theorem dnew_c {n : Nat} {w : World} (h1 : 1 ≤ n) (hn : n ≤ 65536) : Calls Try.prog 20 #[.int .i64 (n : Int)] w (DNewP w n) := by
  go_enter Try.func20, Try.ntmps20
  have i1 : ¬ (n : Int) < 1 := by omega
  have i2 : ¬ (n : Int) > 65536 := by omega
  go_wp2_with fail
  refine (blank_c hn).mono ?_
  rintro e w1 ⟨g, bd, bt, m, rfl, hh⟩
  go_wp2
  go_ret2
  unfold DNewP
  exact ⟨g, bd, bt, m, rfl, hh⟩
set_option maxRecDepth 100000 in
theorem dnew_bad {n : Int} {w : World} (h : n < 1 ∨ 65536 < n) : Calls Try.prog 20 #[.int .i64 n] w fun e w' => e = .returned (.tuple #[.pointer none, .int .i64 1]) ∧ w = w' := by
  go_enter Try.func20, Try.ntmps20
  rcases h with h | h
  all_goals go_wp2
  all_goals go_ret2
  all_goals exact ⟨rfl, rfl⟩
set_option maxRecDepth 100000 in
theorem made_c {w : World} {g m : Nat} (h2 : w.cell? ⟨g, 2, none⟩ = some (.map (some m))) :
    Calls Try.prog 48 #[.pointer (some ⟨g, 0, none⟩)] w fun e w' => e = .returned (.bool true) ∧ w = w' := by
  go_enter Try.func48, Try.ntmps48
  have hm := run_neq_map_nil (P := Try.prog) w _ _ _ (some m) Try.underlying77
  go_wp2
  go_ret
  exact ⟨rfl, rfl⟩
theorem dsectors_c {w : World} {g n m : Nat} {A : Option Addr} (h0 : w.cell? ⟨g, 0, none⟩ = some (.slice A n n)) (h2 : w.cell? ⟨g, 2, none⟩ = some (.map (some m))) :
    Calls Try.prog 21 #[.pointer (some ⟨g, 0, none⟩)] w fun e w' => e = .returned (.int .i64 (n : Int)) ∧ w = w' := by
  go_enter Try.func21, Try.ntmps21
  go_wp2_with fail
  refine (made_c h2).mono ?_
  rintro e w2 ⟨rfl, rfl⟩
  go_wp2
  go_ret
  exact ⟨rfl, rfl⟩
set_option maxHeartbeats 1600000 in
theorem dnames_walk {w : World} : Calls Try.prog 3 #[] w fun e w' => e = .returned (.bool true) ∧ KpN w w' := by
  go_enter Try.func3, Try.ntmps3
  go_wp2_with fail
  refine (dnew_c (n := 3) (by omega) (by omega)).mono ?_
  rintro e w1 ⟨g, bd, bt, m, rfl, -, -, -, -, -, -, -, -, -, -, hg, -, -, -, k1⟩
  have h0 : w1.cell? ⟨g, 0, none⟩ = some (.slice (some ⟨bd, 0, none⟩) 3 3) := by simp [World.cell?, hg]
  have h2 : w1.cell? ⟨g, 2, none⟩ = some (.map (some m)) := by simp [World.cell?, hg]
  go_wp2_with fail
  refine (dsectors_c h0 h2).mono ?_
  rintro e w2 ⟨rfl, rfl⟩
  go_wp2
  go_ret
  exact ⟨rfl, k1⟩
end Go.Proofs.Ythkbgbbejgpeaaa
