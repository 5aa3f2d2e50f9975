/- A region that draws: whatever comes up next, one case each. No program stands in it. -/
import Derived.Test.YthkbgbbejgpeaaaR
namespace Go.Proofs.Ythkbgbbejgpeaaa
open Go Go.RowKit
set_option maxRecDepth 100000
variable {P : Program} {ops : Array Oper} {Q : Exit → Act → World → Prop}
theorem rg_step {x : Nat} {F : Nat → Prop} {n : Nat} {l : Array Bool} {a : Act} {w : World} (L : List Nat) (hr : Region.ready .any ops l = L) (hne : L ≠ [])
    (h : ∀ i, i ∈ L → ∃ oi v w', ops[i]? = some oi ∧ Region.wanted oi (yielded ops a.tmps) = true ∧ (execOp a.eval oi).run P w = .ok (.value v) w' ∧ Kp F w w' ∧ Rg P ops Q x F n (l.setIfInBounds i true) (a.put oi.dst v) w') : Rg P ops Q x F (n + 1) l a w := by
  refine ⟨fun h0 => absurd (hr.symm.trans h0) hne, fun j hj => ?_⟩
  rw [hr] at hj
  obtain ⟨oi, v, w', hi, hw, hy, hk, hrg⟩ := h j hj
  unfold wpOp
  rw [hi]
  simp only [hw, if_true]
  refine .inl ?_
  unfold Oper.wp
  rw [hy]
  refine ⟨.inr hk, wpSt_mono (fun _ => True) (fun _ _ _ => trivial) (fun l' W _ hW => ?_) _ _ _ _ trivial hrg⟩
  rcases hW with hW | hW
  · exact .inl hW
  · exact .inr (hk.trans hW (fun _ _ x => x) (fun _ _ x => x))
theorem rg_go {x : Nat} {F : Nat → Prop} {n : Nat} {l : Array Bool} {a : Act} {w : World} {i : Nat} {oi : Oper} {d : Option Tmp} {v : Value} {w' : World} (hi : ops[i]? = some oi) (hd : oi.dst = d) (hw : Region.wanted oi (yielded ops a.tmps) = true) (hy : (execOp a.eval oi).run P w = .ok (.value v) w') (hk : Kp F w w')
    (h : Rg P ops Q x F n (l.setIfInBounds i true) (a.put d v) w') : ∃ oi v w', ops[i]? = some oi ∧ Region.wanted oi (yielded ops a.tmps) = true ∧ (execOp a.eval oi).run P w = .ok (.value v) w' ∧ Kp F w w' ∧ Rg P ops Q x F n (l.setIfInBounds i true) (a.put oi.dst v) w' := by
  subst hd
  exact ⟨oi, v, w', hi, hw, hy, hk, h⟩
theorem run_mk_op {a : Act} {dst : Option Tmp} {t ty : TypeId} {x y : Operand} {pos : String} {af : Array Edge} {gd : Option (Nat × Bool)} {W w' : World} {r : Value} (h : (Instr.makeSlice t (a.eval x) (a.eval y)).run P W = .ok r w') :
    (execOp a.eval { dst := dst, op := .makeSlice t x y, type := ty, pos := pos, after := af, guard := gd }).run P W = .ok (.value r) w' := by
  unfold execOp
  simp only [Sem.run_bind, h, Result.andThen_ok, Sem.run_pure]
theorem run_mkmap_op {a : Act} {dst : Option Tmp} {t ty : TypeId} {pos : String} {af : Array Edge} {gd : Option (Nat × Bool)} {W w' : World} {r : Value} (h : (Instr.makeMap t none).run P W = .ok r w') :
    (execOp a.eval { dst := dst, op := .makeMap t none, type := ty, pos := pos, after := af, guard := gd }).run P W = .ok (.value r) w' := by
  unfold execOp
  simp [h]
end Go.Proofs.Ythkbgbbejgpeaaa
