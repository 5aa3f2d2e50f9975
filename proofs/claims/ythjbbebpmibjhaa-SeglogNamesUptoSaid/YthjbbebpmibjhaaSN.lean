/- SeglogNames: what the call does. -/
import Derived.Test.YthjbbebpmibjhaaR
import Derived.Test.YthjbbebpmibjhaaProg
namespace Go.Proofs.Ythjbbebpmibjhaa
open Go Go.RowKit

def need (n : Int) : Int := if n < 0 ∨ 8192 < n then 0 else max 1 ((n + 103) / 104)
theorem need_c (n : Int) (w : World) (h : -1000000000 ≤ n ∧ n ≤ 1000000000) : Calls Try.prog 4 #[.int .i64 n] w fun e w' => e = .returned (.int .i64 (need n)) ∧ w = w' := by
  go_enter Try.func4, Try.ntmps4
  have hd : need n = if n < 0 ∨ 8192 < n then 0 else max 1 ((n + 103) / 104) := rfl
  have H := Lib.hid hd
  clear hd
  generalize need n = r at *
  by_cases h1 : n < 0
  · have hr : r = 0 := by rw [H.out, if_pos (.inl h1)]
    subst hr
    go_wp2
    go_ret
    exact ⟨rfl, rfl⟩
  · by_cases h2 : 8192 < n
    · have hr : r = 0 := by rw [H.out, if_pos (.inr h2)]
      subst hr
      go_wp2
      go_ret
      exact ⟨rfl, rfl⟩
    · have hr : r = max 1 ((n + 103) / 104) := by rw [H.out, if_neg (by omega)]
      go_wp2
      all_goals go_ret
      all_goals refine ⟨congrArg (fun z => Ending.returned (Value.int .i64 z)) ?_, rfl⟩
      all_goals omega
set_option maxHeartbeats 1600000 in
theorem segNames_walk {w : World} :
    Calls Try.prog 3 #[] w fun e w' => e = .returned (.bool true) ∧ KpN w w' := by
  go_enter Try.func3, Try.ntmps3
  go_wp2_with fail
  refine (need_c _ _ (by decide)).mono ?_
  rintro e w2 ⟨rfl, rfl⟩
  rw [show need 0 = 1 by decide]
  go_wp2_with fail
  refine (need_c _ _ (by decide)).mono ?_
  rintro e w2 ⟨rfl, rfl⟩
  rw [show need 105 = 2 by decide]
  go_wp2_with fail
  refine (need_c _ _ (by decide)).mono ?_
  rintro e w2 ⟨rfl, rfl⟩
  rw [show need 8192 = 79 by decide]
  go_wp2_with fail
  refine (need_c _ _ (by decide)).mono ?_
  rintro e w2 ⟨rfl, rfl⟩
  rw [show need 8193 = 0 by decide]
  go_wp2_with fail
  go_ret
  exact ⟨rfl, Kp.refl _ _⟩
end Go.Proofs.Ythjbbebpmibjhaa
