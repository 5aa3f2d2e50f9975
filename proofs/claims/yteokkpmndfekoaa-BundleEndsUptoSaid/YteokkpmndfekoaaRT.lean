/- A region that draws its order: a call and another operation may come up. No program stands in it. -/
import Derived.Test.YteokkpmndfekoaaR
namespace Go.Proofs.Yteokkpmndfekoaa
open Go Go.RowKit
set_option maxRecDepth 100000
section
variable {P : Program} {ops : Array Oper} {Q : Exit → Act → World → Prop}
theorem rg_callOr {x : Nat} {F : Nat → Prop} {n : Nat} {l : Array Bool} {a : Act} {w w2 : World} (i j : Nat) {f : FuncId} {args : Array Value} {R : Ending → World → Prop} {dst d de : Option Tmp} {xs : Array Operand} {ts : Array TypeId} {ty : TypeId} {pos : String} {af : Array Edge} {gd : Option (Nat × Bool)} {oj : Oper} {u : Value}
    (hok : callOk P f = true) (hc : Calls P f args w R) (hi : ops[i]? = some { dst := dst, op := .call { callee := .value (.func f), args := xs, argTypes := ts }, type := ty, pos := pos, after := af, guard := gd }) (hd : dst = d)
    (hj : ops[j]? = some oj) (he : oj.dst = de)
    (hr : Region.ready .any ops l = [i, j]) (hw : Region.wanted { dst := dst, op := .call { callee := .value (.func f), args := xs, argTypes := ts }, type := ty, pos := pos, after := af, guard := gd } (yielded ops a.tmps) = true) (hw2 : Region.wanted oj (yielded ops a.tmps) = true)
    (hargs : xs.toList.map a.eval = args.toList) (hy2 : (execOp a.eval oj).run P w = .ok (.value u) w2) (hk2 : Kp F w w2)
    (h : ∀ e w', R e w' → ∃ u, e = .returned u ∧ Kp F w w' ∧ Rg P ops Q x F n (l.setIfInBounds i true) (a.put d u) w')
    (h2 : Rg P ops Q x F n (l.setIfInBounds j true) (a.put de u) w2) : Rg P ops Q x F (n + 1) l a w := by
  subst hd he
  refine ⟨fun h0 => (by rw [hr] at h0; cases h0), fun m hm => ?_⟩
  rw [hr] at hm
  rcases List.mem_cons.1 hm with rfl | hm
  · unfold wpOp
    rw [hi]
    simp only [hw, if_true]
    refine .inl ?_
    unfold Oper.wp
    have hargs' : xs.map a.eval = args := Array.ext' (by rw [Array.toList_map]; exact hargs)
    rw [execOp_call_go, hargs', Array.empty_append, Array.append_empty, run_callOk hok]
    refine hc.mono fun e w' hR => ?_
    obtain ⟨u, rfl, hk, hrg⟩ := h e w' hR
    refine ⟨.inr hk, wpSt_mono (fun _ => True) (fun _ _ _ => trivial) (fun l' W _ hW => ?_) _ _ _ _ trivial hrg⟩
    rcases hW with hW | hW
    · exact .inl hW
    · exact .inr (hk.trans hW (fun _ _ x => x) (fun _ _ x => x))
  · obtain rfl : m = j := by simpa using hm
    unfold wpOp
    rw [hj]
    simp only [hw2, if_true]
    refine .inl ?_
    unfold Oper.wp
    rw [hy2]
    refine ⟨.inr hk2, wpSt_mono (fun _ => True) (fun _ _ _ => trivial) (fun l' W _ hW => ?_) _ _ _ _ trivial h2⟩
    rcases hW with hW | hW
    · exact .inl hW
    · exact .inr (hk2.trans hW (fun _ _ x => x) (fun _ _ x => x))
/-- the operation to which the stage goes changes memory -/
theorem rg_lastW {x : Nat} {F G : Nat → Prop} {n : Nat} {l : Array Bool} {a : Act} {w : World} (w' : World) {oi : Oper} {d : Option Tmp} {v : Value} (hi : ops[x]? = some oi) (hd : oi.dst = d) (hr : Region.ready .any ops l = [x]) (hw : Region.wanted oi (yielded ops a.tmps) = true)
    (hy : (execOp a.eval oi).run P w = .ok (.value v) w') (hx : (l.setIfInBounds x true).getD x false = true) (h : Rg P ops Q x G n (l.setIfInBounds x true) (a.put d v) w') : Rg P ops Q x F (n + 1) l a w := by
  subst hd
  refine ⟨fun h0 => (by rw [hr] at h0; cases h0), fun j hj => ?_⟩
  rw [hr] at hj
  obtain rfl : j = x := by simpa using hj
  unfold wpOp
  rw [hi]
  simp only [hw, if_true]
  refine .inl ?_
  unfold Oper.wp
  rw [hy]
  exact ⟨.inl hx, wpSt_mono (fun l => l.getD j false = true) (fun _ _ hl => getD_set_true hl) (fun _ _ hl _ => .inl hl) _ _ _ _ hx h⟩
end
end Go.Proofs.Yteokkpmndfekoaa
