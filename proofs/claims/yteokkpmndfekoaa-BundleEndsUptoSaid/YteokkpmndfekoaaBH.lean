/- The helpers of the statements on bundles: is, kept. -/
import Derived.Test.YteokkpmndfekoaaBG
import Derived.Test.YteokkpmndfekoaaEQ
namespace Go.Proofs.Yteokkpmndfekoaa
open Go Go.RowKit
set_option maxRecDepth 100000

theorem six_neq (W : World) (a b c d e f : Int) : (binOp .neq 23 (.agg #[.int .u64 a, .int .u64 b, .int .u64 c, .int .u64 d, .int .u64 e, .int .u64 f]) (.agg #[.int .u64 a, .int .u64 b, .int .u64 c, .int .u64 d, .int .u64 e, .int .u64 f])).run Try.prog W = .ok (.bool false) W := by
  have := run_neq_ints (P := Try.prog) W (t := 23) (e := 22) (k := .u64) [a, b, c, d, e, f] [a, b, c, d, e, f] Try.underlying23 Try.underlying22 (by kernel_rfl) rfl rfl
  rw [show (!decide ([a, b, c, d, e, f] = [a, b, c, d, e, f])) = false by simp] at this
  exact this
theorem stamp_neq (W : World) (a b : Int) : (binOp .neq 25 (.agg #[.int .u64 a, .int .u64 b]) (.agg #[.int .u64 a, .int .u64 b])).run Try.prog W = .ok (.bool false) W := by
  have e1 : (part 22 #[.int .u64 a, .int .u64 b] 0).run Try.prog W = .ok (.int .u64 a) W := run_part_plain W (by kernel_rfl) rfl
  have e2 : (part 22 #[.int .u64 a, .int .u64 b] 1).run Try.prog W = .ok (.int .u64 b) W := run_part_plain W (by kernel_rfl) rfl
  have q1 := run_equalIn_int (P := Try.prog) W 9998 22 .u64 .u64 a a Try.underlying22
  have q2 := run_equalIn_int (P := Try.prog) W 9998 22 .u64 .u64 b b Try.underlying22
  rw [run_neq_struct, run_equalIn_struct W 9999 _ _ _ Try.underlying25 (by kernel_rfl)]
  obtain ⟨F, hF⟩ : ∃ F, (Try.prog.fieldsOf 25).toList = F := ⟨_, rfl⟩
  have h2 : F = (Try.prog.fieldsOf 25).toList := hF.symm
  rw [hF]
  have h3 : F.map (fun f => (f.type, f.offset, f.name == "_")) = [(22, 0, false), (22, 1, false)] := by
    rw [h2]
    kernel_rfl
  match F, h3 with
  | [f0, f1], h3 =>
    simp only [List.map_cons, List.map_nil, List.cons.injEq, Prod.mk.injEq, beq_eq_false_iff_ne, and_true] at h3
    obtain ⟨⟨t0, o0, n0⟩, t1, o1, n1⟩ := h3
    simp [Op.eqFields, t0, t1, o0, o1, n0, n1, e1, e2, q1, q2]
end Go.Proofs.Yteokkpmndfekoaa
