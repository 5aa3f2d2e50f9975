/- A region that draws its order: what only reads is taken first, what changes memory comes in its own order. No program stands in it. -/
import Derived.Test.YtjhndppmpldfbaaV
import Derived.OrdersHeld
import Derived.RegionTactic
import Derived.Outline
import Derived.BigCall
namespace Go.Proofs.Ytjhndppmpldfbaa
open Go Go.RowKit
section
variable {P : Program} {ops : Array Oper} {Q : Exit → Act → World → Prop} {md : Region.Mode}

theorem wpAnyH_mono {S T : World → Prop} (hst : ∀ w, T w → S w) : ∀ (fuel : Nat) (listed : Array Bool) (a : Act) (w : World), wpAnyH P md ops Q T fuel listed a w → wpAnyH P md ops Q S fuel listed a w
  | 0, _, _, _, h => h
  | fuel + 1, _, _, _, h => ⟨h.1, fun i hi => wpOp_mono (fun a' w' h' => ⟨hst _ h'.1, wpAnyH_mono hst fuel _ a' w' h'.2⟩) (h.2 i hi)⟩
/-- the walk of a region in which no block outside F is changed -/
def Rg (P : Program) (ops : Array Oper) (Q : Exit → Act → World → Prop) (F : Nat → Prop) (fuel : Nat) (listed : Array Bool) (a : Act) (w : World) : Prop := wpAnyH P .any ops Q (Kp F w) fuel listed a w
theorem rg_begin (F : Nat → Prop) {id : Nat} {a : Act} {w : World} (hm : P.follows .mixedOrders = true) (h : Rg P ops Q F ops.size (Array.replicate ops.size false) a w.drew) : (Code.region id ops true).wp P Q a w :=
  wp_region_held hm h
/-- what only reads -/
theorem rg_take {F : Nat → Prop} {fuel : Nat} {listed : Array Bool} {a : Act} {w : World} (i : Nat) {oi : Oper} {d : Option Tmp} {v : Value} (hi : ops[i]? = some oi) (hd : oi.dst = d) (hs : Region.noSelect ops = true) (hf : Region.free .any ops listed i = true)
    (hr : (Region.ready .any ops listed).contains i = true) (hQ : ∀ c a w, Q (.panic c) (a.put d v) w → Q (.panic c) a w) (hw : Region.wanted oi (yielded ops a.tmps) = true)
    (hy : ∀ W, Kp F w W → (execOp a.eval oi).run P W = .ok (.value v) W) (h : Rg P ops Q F fuel (listed.setIfInBounds i true) (a.put d v) w) : Rg P ops Q F (fuel + 1) listed a w := by
  subst hd
  exact wpAnyH_take hi hs hf hr hQ (.inl ⟨hw, hy⟩) (Kp.refl F w) h
/-- what isn't asked -/
theorem rg_skip {F : Nat → Prop} {fuel : Nat} {listed : Array Bool} {a : Act} {w : World} (i : Nat) {oi : Oper} {d : Option Tmp} (hi : ops[i]? = some oi) (hd : oi.dst = d) (hs : Region.noSelect ops = true) (hf : Region.free .any ops listed i = true)
    (hr : (Region.ready .any ops listed).contains i = true) (hQ : ∀ c a w, Q (.panic c) (a.put d undef) w → Q (.panic c) a w) (hw : Region.wanted oi (yielded ops a.tmps) = false)
    (h : Rg P ops Q F fuel (listed.setIfInBounds i true) (a.put d undef) w) : Rg P ops Q F (fuel + 1) listed a w := by
  subst hd
  exact wpAnyH_take hi hs hf hr hQ (.inr ⟨hw, rfl⟩) (Kp.refl F w) h
/-- a function with a body -/
def callOk (P : Program) (f : FuncId) : Bool := match P.funcs[f]? with
  | some fn => !(fn.name == "runtime.NumGoroutine") && !fn.body.isNone
  | none => false
theorem run_callOk {f : FuncId} (h : callOk P f = true) (args : Array Value) (w : World) : (callFunc f args).run P w = .ok (.enter f args) w := by
  unfold callOk at h
  split at h
  · rename_i fn hf
    simp only [Bool.and_eq_true, Bool.not_eq_true'] at h
    have h1 : fn.name ≠ "runtime.NumGoroutine" := by simpa using h.1
    have h2 : fn.body ≠ none := fun e => by simp [e] at h
    simp [callFunc, hf, h1, h2]
  · cases h
/-- a call, the one operation that may come up -/
theorem rg_call {F : Nat → Prop} {fuel : Nat} {listed : Array Bool} {a : Act} {w : World} (i : Nat) {f : FuncId} {args : Array Value} {R : Ending → World → Prop} {dst d : Option Tmp} {xs : Array Operand} {ts : Array TypeId} {ty : TypeId} {pos : String} {af : Array Edge} {gd : Option (Nat × Bool)}
    (hok : callOk P f = true) (hc : Calls P f args w R) (hi : ops[i]? = some { dst := dst, op := .call { callee := .value (.func f), args := xs, argTypes := ts }, type := ty, pos := pos, after := af, guard := gd }) (hd : dst = d)
    (hr : Region.ready .any ops listed = [i]) (hw : Region.wanted { dst := dst, op := .call { callee := .value (.func f), args := xs, argTypes := ts }, type := ty, pos := pos, after := af, guard := gd } (yielded ops a.tmps) = true)
    (hargs : xs.toList.map a.eval = args.toList)
    (h : ∀ e w', R e w' → ∃ u, e = .returned u ∧ Kp F w w' ∧ Rg P ops Q F fuel (listed.setIfInBounds i true) (a.put d u) w') : Rg P ops Q F (fuel + 1) listed a w := by
  subst hd
  refine wpAnyH_all hr (by simp) fun j hj => ?_
  obtain rfl : j = i := by simpa using hj
  unfold wpOp
  rw [hi]
  simp only [hw, if_true]
  refine .inl ?_
  unfold Oper.wp
  have hargs' : xs.map a.eval = args := Array.ext' (by rw [Array.toList_map]; exact hargs)
  rw [execOp_call_go, hargs', Array.empty_append, Array.append_empty, run_callOk hok]
  refine hc.mono fun e w' hR => ?_
  obtain ⟨u, rfl, hk, hrg⟩ := h e w' hR
  exact ⟨hk, wpAnyH_mono (fun W hW => hk.trans hW (fun _ _ x => x) (fun _ _ x => x)) _ _ _ _ hrg⟩
/-- bytes turned into a string -/
theorem rg_conv {F : Nat → Prop} {fuel : Nat} {listed : Array Bool} {a : Act} {w : World} (i : Nat) {dst d : Option Tmp} {t u ty e : TypeId} {x : Operand} {pos : String} {af : Array Edge} {gd : Option (Nat × Bool)} {v : Value} {ys : List UInt8}
    (hrd : RdB w v ys) (hF : ∀ k, v.ownBlock = some k → ¬ F k) (ht : P.underlying t = some (.slice e)) (he : P.underlying e = some (.int .u8)) (hu : P.underlying u = some .string)
    (hi : ops[i]? = some { dst := dst, op := .convert t u x, type := ty, pos := pos, after := af, guard := gd }) (hd : dst = d) (hs : Region.noSelect ops = true) (hf : Region.free .any ops listed i = true)
    (hr : (Region.ready .any ops listed).contains i = true) (hQ : ∀ c a w, Q (.panic c) (a.put d (.string (bs ys))) w → Q (.panic c) a w)
    (hw : Region.wanted { dst := dst, op := .convert t u x, type := ty, pos := pos, after := af, guard := gd } (yielded ops a.tmps) = true) (hx : a.eval x = v)
    (h : Rg P ops Q F fuel (listed.setIfInBounds i true) (a.put d (.string (bs ys))) w) : Rg P ops Q F (fuel + 1) listed a w :=
  rg_take i hi hd hs hf hr hQ hw (fun W hW => by
    unfold execOp
    simp only [hx, Sem.run_bind, run_toStr W ht he hu (hrd.keep hW hF), Result.andThen_ok, Sem.run_pure]) h
theorem run_str_eql {t : TypeId} (s : ByteArray) (w : World) : (binOp .eql t (.string s) (.string s)).run P w = .ok (.bool true) w := by
  simp [go_sem]
theorem run_str_neq {t : TypeId} (s : ByteArray) (w : World) : (binOp .neq t (.string s) (.string s)).run P w = .ok (.bool false) w := by
  simp [go_sem]
theorem rg_done {F : Nat → Prop} {fuel : Nat} {listed : Array Bool} {a : Act} {w : World} (hr : Region.ready .any ops listed = []) (h : Q .normal a w) : Rg P ops Q F fuel listed a w := wpAnyH_done hr h fuel
end
end Go.Proofs.Ytjhndppmpldfbaa
