/- 'knows' and 'num'. -/
import Derived.Test.YtjhndppmpldfbaaDoorOC
import Derived.Test.YtjhndppmpldfbaaDoorON2
import Derived.Test.YtjhndppmpldfbaaDoorR
import Derived.Lib.SmallJoins
namespace Go.Proofs.YtjhndppmpldfbaaDoor
open Go Go.RowKit

theorem errno_c (x : Int) (w : World) : Calls Tryd.prog 24 #[.int .i64 x] w fun e w' => e = .returned (.int .i64 x) ∧ w = w' := by
  go_enter Tryd.func24, Tryd.ntmps24
  go_wp2
  go_ret
  exact ⟨rfl, rfl⟩
theorem sd_300 : sd 300 = [130, 44] := by
  unfold sd
  rw [sdH_pos _ (by omega), show 300 / 128 / 128 = 0 by omega, sdH_zero]
  decide
theorem num_300 : num3 (numS [130, 44, 7]) = .tuple #[.int .u64 300, .int .i64 2, .int .i64 0] := by
  have : numS [130, 44, 7] = (300, 2, 0) := by decide
  rw [this]
  rfl
theorem crc_digits : crc [49, 50, 51, 52, 53, 54, 55, 56, 57] = 3421780262 := by decide +kernel
set_option maxHeartbeats 1600000 in
theorem knows_c {w : World} (ht : TabOk w) :
    Calls Tryd.prog 25 #[] w fun e w' => e = .returned (.bool true) ∧ KpN w w' := by
  go_enter Tryd.func25, Tryd.ntmps25
  go_wp2_with fail
  refine (number_c (n := 300) (RdB.nil w) (by omega) (by simp)).mono ?_
  rintro e w1 ⟨v1, rfl, o1, k1⟩
  rw [List.nil_append, sd_300] at o1
  go_wp2_with fail
  have o2 := OwB.lit w1 5 [130, 44, 7] _ rfl (by simp)
  refine (num_c o2.readsB (by simp)).mono ?_
  rintro e w2 ⟨rfl, rfl⟩
  rw [num_300]
  have k2 : KpN w1 (w1.alloc (.cells (bvs [130, 44, 7]).toArray 5)) := (Kp.refl _ _).alloc _
  have e2 := run_toStr (P := Tryd.prog) _ Tryd.underlying22 Tryd.underlying5 Tryd.underlying9 (o1.keepN k2).readsB
  have et : (bs [130, 44]).toList = [130, 44] := bs_toList _
  have e3 := Go.Joins.run_convert_bytes_const_at (P := Tryd.prog) (w1.alloc (.cells (bvs [130, 44, 7]).toArray 5)) 22 5 (bvs [49, 50, 51, 52, 53, 54, 55, 56, 57]).toArray 9 9 (w1.heap.size + 1) (by simp) Tryd.underlying22 Tryd.underlying5
  have rd := RdB.laid (w1.alloc (.cells (bvs [130, 44, 7]).toArray 5)) 5 [49, 50, 51, 52, 53, 54, 55, 56, 57] _ (9, 10) rfl (w1.heap.size + 1) 9 (by simp) (by simp)
  have k3 : KpN w1 ((w1.alloc (.cells (bvs [130, 44, 7]).toArray 5)).alloc (.cells (bvs [49, 50, 51, 52, 53, 54, 55, 56, 57]).toArray 5 (9, 10))) := k2.alloc _
  go_wp2_with (first | (refine conv_op e2 rfl ?_) | (refine conv_opg e3 rfl rfl ?_))
  refine (crc_c rd (ht.keepN (k1.thenN k3)) (by simp)).mono ?_
  rintro e w2 ⟨rfl, rfl⟩
  rw [crc_digits]
  go_wp2
  go_ret
  exact ⟨rfl, k1.thenN k3⟩
end Go.Proofs.YtjhndppmpldfbaaDoor
