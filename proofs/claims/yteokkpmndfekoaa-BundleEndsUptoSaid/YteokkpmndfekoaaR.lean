/- A region that draws its order, walked in one order: what only reads is taken first, what changes memory comes in its own order. No program stands in it. -/
import Derived.Test.YteokkpmndfekoaaV
import Derived.OrdersHeld
import Derived.RegionTactic
import Derived.Outline
import Derived.BigCall
import Derived.Deep.MidRow
namespace Go.Proofs.Yteokkpmndfekoaa
open Go Go.RowKit
set_option maxRecDepth 100000
section
variable {P : Program} {ops : Array Oper} {Q : Exit → Act → World → Prop} {S : Array Bool → World → Prop}

/-- whatever order is picked from here on; behind each operation S holds of what has come up and of the world -/
def wpSt (P : Program) (ops : Array Oper) (Q : Exit → Act → World → Prop) (S : Array Bool → World → Prop) : Nat → Array Bool → Act → World → Prop
  | 0, l, a, w => Region.ready .any ops l = [] ∧ Q .normal a w
  | n + 1, l, a, w => (Region.ready .any ops l = [] → Q .normal a w) ∧
    ∀ i ∈ Region.ready .any ops l, wpOp P ops Q i (fun a' w' => S (l.setIfInBounds i true) w' ∧ wpSt P ops Q S n (l.setIfInBounds i true) a' w') a w
theorem wpAny_of_st : ∀ (n : Nat) (l : Array Bool) (a : Act) (w : World), wpSt P ops Q S n l a w → wpAny P .any ops Q n l a w
  | 0, _, _, _, h => h
  | n + 1, _, _, _, h => ⟨h.1, fun i hi => wpOp_mono (fun a' w' h' => wpAny_of_st n _ a' w' h'.2) (h.2 i hi)⟩
/-- another S from here on -/
theorem wpSt_mono {T : Array Bool → World → Prop} (I : Array Bool → Prop) (hI : ∀ l j, I l → I (l.setIfInBounds j true)) (hst : ∀ l w, I l → T l w → S l w) :
    ∀ (n : Nat) (l : Array Bool) (a : Act) (w : World), I l → wpSt P ops Q T n l a w → wpSt P ops Q S n l a w
  | 0, _, _, _, _, h => h
  | n + 1, l, _, _, hl, h => ⟨h.1, fun i hi => wpOp_mono (fun a' w' h' => ⟨hst _ _ (hI l i hl) h'.1, wpSt_mono I hI hst n _ a' w' (hI l i hl) h'.2⟩) (h.2 i hi)⟩
theorem wpSt_take {i : Nat} {oi : Oper} {v : Value} (hi : ops[i]? = some oi) (hs : Region.noSelect ops = true) (hQ : ∀ c a w, Q (.panic c) (a.put oi.dst v) w → Q (.panic c) a w)
    (I : Array Bool → Prop) (hI : ∀ l j, I l → l.getD i true = false → j ≠ i → j ∈ Region.ready .any ops l → I (l.setIfInBounds j true)) {T : World → Prop} (hT : ∀ l w, I l → S l w → T w)
    (hS : ∀ l w, S (l.setIfInBounds i true) w → S l w) :
    ∀ (n : Nat) (l : Array Bool) (a : Act) (w : World), I l →
      (∀ j oj, ops[j]? = some oj → j ≠ i → l.getD j true = false → (∀ e ∈ oj.after, Region.binds .any e = true → e.on ≠ i) → oi.apart ops oj = true) →
      i ∈ Region.ready .any ops l → YieldsIf P ops T oi v a → S l w → S (l.setIfInBounds i true) w →
      wpSt P ops Q S n (l.setIfInBounds i true) (a.put oi.dst v) w → wpSt P ops Q S (n + 1) l a w := by
  intro n
  induction n with
  | zero =>
    intro l a w hl _ hr hy hSl hSi H
    refine ⟨fun h => (by rw [h] at hr; cases hr), fun j hj => ?_⟩
    by_cases hji : j = i
    · subst hji
      exact hy.wpOp hi (hT l w hl hSl) ⟨hSi, H⟩
    · have := ready_mono hj hji
      rw [H.1] at this
      cases this
  | succ n ih =>
    intro l a w hl hfree hr hy hSl hSi H
    refine ⟨fun h => (by rw [h] at hr; cases hr), fun j hj => ?_⟩
    by_cases hji : j = i
    · subst hji
      exact hy.wpOp hi (hT l w hl hSl) ⟨hSi, H⟩
    · have h1 := H.2 j (ready_mono hj hji)
      have hun := (mem_ready.1 hr).1
      obtain ⟨hjun, oj, hoj, hall⟩ := mem_ready.1 hj
      have hnot : ∀ e ∈ oj.after, Region.binds .any e = true → e.on ≠ i := fun e he hb heq => by
        have h2 := hall e he hb
        rw [heq] at h2
        rcases Nat.lt_or_ge i l.size with h' | h'
        · simp [h'] at hun h2
          rw [hun] at h2
          cases h2
        · simp [Array.getElem?_eq_none h'] at h2
      have h2 := wpOp_putIf hoj (hfree j oj hoj hji hjun hnot) (Region.noSelect_spec hs i oi · · hi) (Region.noSelect_spec hs j oj · · hoj) hQ hy h1
      have hfree' : ∀ k ok, ops[k]? = some ok → k ≠ i → (l.setIfInBounds j true).getD k true = false → (∀ e ∈ ok.after, Region.binds .any e = true → e.on ≠ i) → oi.apart ops ok = true := fun k ok hk hki hu hno => by
        refine hfree k ok hk hki ?_ hno
        by_cases hjk : j = k
        · subst hjk
          exact hjun
        · rw [getD_set_ne true hjk] at hu
          exact hu
      refine wpOp_mono (fun a' w' h3 => ?_) h2
      have hc := Array.setIfInBounds_comm (xs := l) true true (Ne.symm hji)
      have h4 : S ((l.setIfInBounds j true).setIfInBounds i true) w' := by rw [← hc]; exact h3.2.1
      exact ⟨hS _ _ h4, ih _ a' w' (hI l j hl hun hji hj) hfree' (ready_mono hr (Ne.symm hji)) h3.1 (hS _ _ h4) h4 (by rw [← hc]; exact h3.2.2)⟩

/-- till operation x has come up no block outside F is changed -/
abbrev Stage (x : Nat) (F : Nat → Prop) (w : World) : Array Bool → World → Prop := fun l W => l.getD x false = true ∨ Kp F w W
def Rg (P : Program) (ops : Array Oper) (Q : Exit → Act → World → Prop) (x : Nat) (F : Nat → Prop) (n : Nat) (l : Array Bool) (a : Act) (w : World) : Prop := wpSt P ops Q (Stage x F w) n l a w
theorem stage_set {x i : Nat} (hxi : x ≠ i) {F : Nat → Prop} {w : World} (l : Array Bool) (W : World) (h : Stage x F w (l.setIfInBounds i true) W) : Stage x F w l W := by
  rcases h with h | h
  · exact .inl (by rwa [getD_set_ne false (Ne.symm hxi)] at h)
  · exact .inr h
theorem rg_begin (x : Nat) (F : Nat → Prop) {id : Nat} {a : Act} {w : World} (hm : P.follows .mixedOrders = true) (h : ∀ w', KpN w w' → Rg P ops Q x F ops.size (Array.replicate ops.size false) a w') : (Code.region id ops true).wp P Q a w :=
  wp_region_any hm (wpAny_of_st _ _ _ _ (h w.drew (Kp.refl _ w).drew))
/-- the next stage -/
theorem rg_stage {x : Nat} {F : Nat → Prop} {n : Nat} {l : Array Bool} {a : Act} {w : World} (y : Nat) (G : Nat → Prop) (hx : l.getD x false = true) (h : Rg P ops Q y G n l a w) : Rg P ops Q x F n l a w :=
  wpSt_mono (fun l => l.getD x false = true) (fun _ _ hl => getD_set_true hl) (fun _ _ hl _ => .inl hl) n l a w hx h
/-- what yields in whatever world -/
theorem rg_take {x : Nat} {F : Nat → Prop} {n : Nat} {l : Array Bool} {a : Act} {w : World} (i : Nat) {oi : Oper} {d : Option Tmp} {v : Value} (hxi : x ≠ i) (hi : ops[i]? = some oi) (hd : oi.dst = d) (hs : Region.noSelect ops = true) (hf : Region.free .any ops l i = true)
    (hr : (Region.ready .any ops l).contains i = true) (hQ : ∀ c a w, Q (.panic c) (a.put d v) w → Q (.panic c) a w) (hw : Region.wanted oi (yielded ops a.tmps) = true)
    (hy : ∀ W, (execOp a.eval oi).run P W = .ok (.value v) W) (h : Rg P ops Q x F n (l.setIfInBounds i true) (a.put d v) w) : Rg P ops Q x F (n + 1) l a w := by
  subst hd
  exact wpSt_take hi hs hQ (fun _ => True) (fun _ _ _ _ _ _ => trivial) (T := fun _ => True) (fun _ _ _ _ => trivial) (stage_set hxi) n l a w trivial (Region.free_spec hi hf) (by simpa using hr) (.inl ⟨hw, fun W _ => hy W⟩) (.inr (Kp.refl F w)) (.inr (Kp.refl F w)) h
/-- what isn't asked -/
theorem rg_skip {x : Nat} {F : Nat → Prop} {n : Nat} {l : Array Bool} {a : Act} {w : World} (i : Nat) {oi : Oper} {d : Option Tmp} (hxi : x ≠ i) (hi : ops[i]? = some oi) (hd : oi.dst = d) (hs : Region.noSelect ops = true) (hf : Region.free .any ops l i = true)
    (hr : (Region.ready .any ops l).contains i = true) (hQ : ∀ c a w, Q (.panic c) (a.put d undef) w → Q (.panic c) a w) (hw : Region.wanted oi (yielded ops a.tmps) = false)
    (h : Rg P ops Q x F n (l.setIfInBounds i true) (a.put d undef) w) : Rg P ops Q x F (n + 1) l a w := by
  subst hd
  exact wpSt_take hi hs hQ (fun _ => True) (fun _ _ _ _ _ _ => trivial) (T := fun _ => True) (fun _ _ _ _ => trivial) (stage_set hxi) n l a w trivial (Region.free_spec hi hf) (by simpa using hr) (.inr ⟨hw, rfl⟩) (.inr (Kp.refl F w)) (.inr (Kp.refl F w)) h
/-- does x wait for i (or is there no x)? -/
def stageWaits (ops : Array Oper) (x i : Nat) : Bool := decide (ops.size ≤ x) || match ops[x]? with
  | some o => o.after.any fun e => Region.binds .any e && e.on == i
  | none => false
theorem stage_inv {x i : Nat} (hx : stageWaits ops x i = true) (l : Array Bool) (j : Nat) (hl : l.getD x false = false) (hun : l.getD i true = false) (_ : j ≠ i) (hj : j ∈ Region.ready .any ops l) : (l.setIfInBounds j true).getD x false = false := by
  obtain ⟨_, oj, hoj, hall⟩ := mem_ready.1 hj
  have hjx : j ≠ x := by
    rintro rfl
    simp only [stageWaits, hoj, Bool.or_eq_true, decide_eq_true_eq, Array.any_eq_true'] at hx
    rcases hx with hx | ⟨e, he, hb⟩
    · have := (Array.getElem?_eq_some_iff.1 hoj).1
      omega
    · simp only [Bool.and_eq_true, beq_iff_eq] at hb
      have h2 := hall e he hb.1
      rw [hb.2] at h2
      rcases Nat.lt_or_ge i l.size with h' | h'
      · simp [h'] at hun h2
        rw [hun] at h2
        cases h2
      · simp [Array.getElem?_eq_none h'] at h2
  rw [getD_set_ne false hjx]
  exact hl
/-- what reads memory, ahead of x -/
theorem rg_read {x : Nat} {F : Nat → Prop} {n : Nat} {l : Array Bool} {a : Act} {w : World} (i : Nat) {oi : Oper} {d : Option Tmp} {v : Value} (hxi : x ≠ i) (hwt : stageWaits ops x i = true) (hlx : l.getD x false = false) (hi : ops[i]? = some oi) (hd : oi.dst = d) (hs : Region.noSelect ops = true) (hf : Region.free .any ops l i = true)
    (hr : (Region.ready .any ops l).contains i = true) (hQ : ∀ c a w, Q (.panic c) (a.put d v) w → Q (.panic c) a w) (hw : Region.wanted oi (yielded ops a.tmps) = true)
    (hy : ∀ W, Kp F w W → (execOp a.eval oi).run P W = .ok (.value v) W) (h : Rg P ops Q x F n (l.setIfInBounds i true) (a.put d v) w) : Rg P ops Q x F (n + 1) l a w := by
  subst hd
  refine wpSt_take hi hs hQ (fun l => l.getD x false = false) (stage_inv hwt) (T := Kp F w) ?_ (stage_set hxi) n l a w hlx (Region.free_spec hi hf) (by simpa using hr) (.inl ⟨hw, hy⟩) (.inr (Kp.refl F w)) (.inr (Kp.refl F w)) h
  intro l' W hl hs
  rcases hs with hs | hs
  · rw [hl] at hs
    cases hs
  · exact hs
/-- the one operation that may come up -/
theorem rg_only {x : Nat} {F : Nat → Prop} {n : Nat} {l : Array Bool} {a : Act} {w : World} (i : Nat) {oi : Oper} {d : Option Tmp} {v : Value} (hi : ops[i]? = some oi) (hd : oi.dst = d) (hr : Region.ready .any ops l = [i]) (hw : Region.wanted oi (yielded ops a.tmps) = true)
    (hy : (execOp a.eval oi).run P w = .ok (.value v) w) (h : Rg P ops Q x F n (l.setIfInBounds i true) (a.put d v) w) : Rg P ops Q x F (n + 1) l a w := by
  subst hd
  refine ⟨fun h0 => (by rw [hr] at h0; cases h0), fun j hj => ?_⟩
  rw [hr] at hj
  obtain rfl : j = i := by simpa using hj
  unfold wpOp
  rw [hi]
  simp only [hw, if_true]
  refine .inl ?_
  unfold Oper.wp
  rw [hy]
  exact ⟨.inr (Kp.refl F w), h⟩
/-- .. which changes memory -/
theorem rg_onlyW {x : Nat} {F : Nat → Prop} {n : Nat} {l : Array Bool} {a : Act} {w w' : World} (i : Nat) {oi : Oper} {d : Option Tmp} {v : Value} (hi : ops[i]? = some oi) (hd : oi.dst = d) (hr : Region.ready .any ops l = [i]) (hw : Region.wanted oi (yielded ops a.tmps) = true)
    (hy : (execOp a.eval oi).run P w = .ok (.value v) w') (hk : Kp F w w') (h : Rg P ops Q x F n (l.setIfInBounds i true) (a.put d v) w') : Rg P ops Q x F (n + 1) l a w := by
  subst hd
  refine ⟨fun h0 => (by rw [hr] at h0; cases h0), fun j hj => ?_⟩
  rw [hr] at hj
  obtain rfl : j = i := by simpa using hj
  unfold wpOp
  rw [hi]
  simp only [hw, if_true]
  refine .inl ?_
  unfold Oper.wp
  rw [hy]
  refine ⟨.inr hk, wpSt_mono (fun _ => True) (fun _ _ _ => trivial) (fun l' W _ hW => ?_) _ _ _ _ trivial h⟩
  rcases hW with hW | hW
  · exact .inl hW
  · exact .inr (hk.trans hW (fun _ _ x => x) (fun _ _ x => x))
/-- the one operation that may come up changes memory, and yields nothing -/
theorem rg_onlyS {x : Nat} {F : Nat → Prop} {n : Nat} {l : Array Bool} {a : Act} {w w' : World} (i : Nat) {oi : Oper} {d : Option Tmp} (hi : ops[i]? = some oi) (hd : oi.dst = d) (hr : Region.ready .any ops l = [i]) (hw : Region.wanted oi (yielded ops a.tmps) = true)
    (hy : (execOp a.eval oi).run P w = .ok .skip w') (hk : Kp F w w') (h : Rg P ops Q x F n (l.setIfInBounds i true) (a.put d undef) w') : Rg P ops Q x F (n + 1) l a w := by
  subst hd
  refine ⟨fun h0 => (by rw [hr] at h0; cases h0), fun j hj => ?_⟩
  rw [hr] at hj
  obtain rfl : j = i := by simpa using hj
  unfold wpOp
  rw [hi]
  simp only [hw, if_true]
  refine .inl ?_
  unfold Oper.wp
  rw [hy]
  refine ⟨.inr hk, wpSt_mono (fun _ => True) (fun _ _ _ => trivial) (fun l' W _ hW => ?_) _ _ _ _ trivial h⟩
  rcases hW with hW | hW
  · exact .inl hW
  · exact .inr (hk.trans hW (fun _ _ x => x) (fun _ _ x => x))
/-- the operation to which the stage goes changes memory, and yields nothing -/
theorem rg_lastS {x : Nat} {F G : Nat → Prop} {n : Nat} {l : Array Bool} {a : Act} {w : World} (w' : World) {oi : Oper} {d : Option Tmp} (hi : ops[x]? = some oi) (hd : oi.dst = d) (hr : Region.ready .any ops l = [x]) (hw : Region.wanted oi (yielded ops a.tmps) = true)
    (hy : (execOp a.eval oi).run P w = .ok .skip w') (hx : (l.setIfInBounds x true).getD x false = true) (h : Rg P ops Q x G n (l.setIfInBounds x true) (a.put d undef) w') : Rg P ops Q x F (n + 1) l a w := by
  subst hd
  refine ⟨fun h0 => (by rw [hr] at h0; cases h0), fun j hj => ?_⟩
  rw [hr] at hj
  obtain rfl : j = x := by simpa using hj
  unfold wpOp
  rw [hi]
  simp only [hw, if_true]
  refine .inl ?_
  unfold Oper.wp
  rw [hy]
  exact ⟨.inl hx, wpSt_mono (fun l => l.getD j false = true) (fun _ _ hl => getD_set_true hl) (fun _ _ hl _ => .inl hl) _ _ _ _ hx h⟩
/-- a function with a body -/
def callOk (P : Program) (f : FuncId) : Bool := match P.funcs[f]? with
  | some fn => !(fn.name == "runtime.NumGoroutine") && !fn.body.isNone
  | none => false
theorem run_callOk {f : FuncId} (h : callOk P f = true) (args : Array Value) (w : World) : (callFunc f args).run P w = .ok (.enter f args) w := by
  unfold callOk at h
  split at h
  · rename_i fn hf
    simp only [Bool.and_eq_true, Bool.not_eq_true'] at h
    have h1 : fn.name ≠ "runtime.NumGoroutine" := by simpa using h.1
    have h2 : fn.body ≠ none := fun e => by simp [e] at h
    simp [callFunc, hf, h1, h2]
  · cases h
/-- a call, the one operation that may come up -/
theorem rg_call {x : Nat} {F : Nat → Prop} {n : Nat} {l : Array Bool} {a : Act} {w : World} (i : Nat) {f : FuncId} {args : Array Value} {R : Ending → World → Prop} {dst d : Option Tmp} {xs : Array Operand} {ts : Array TypeId} {ty : TypeId} {pos : String} {af : Array Edge} {gd : Option (Nat × Bool)}
    (hok : callOk P f = true) (hc : Calls P f args w R) (hi : ops[i]? = some { dst := dst, op := .call { callee := .value (.func f), args := xs, argTypes := ts }, type := ty, pos := pos, after := af, guard := gd }) (hd : dst = d)
    (hr : Region.ready .any ops l = [i]) (hw : Region.wanted { dst := dst, op := .call { callee := .value (.func f), args := xs, argTypes := ts }, type := ty, pos := pos, after := af, guard := gd } (yielded ops a.tmps) = true)
    (hargs : xs.toList.map a.eval = args.toList)
    (h : ∀ e w', R e w' → ∃ u, e = .returned u ∧ Kp F w w' ∧ Rg P ops Q x F n (l.setIfInBounds i true) (a.put d u) w') : Rg P ops Q x F (n + 1) l a w := by
  subst hd
  refine ⟨fun h0 => (by rw [hr] at h0; cases h0), fun j hj => ?_⟩
  rw [hr] at hj
  obtain rfl : j = i := by simpa using hj
  unfold wpOp
  rw [hi]
  simp only [hw, if_true]
  refine .inl ?_
  unfold Oper.wp
  have hargs' : xs.map a.eval = args := Array.ext' (by rw [Array.toList_map]; exact hargs)
  rw [execOp_call_go, hargs', Array.empty_append, Array.append_empty, run_callOk hok]
  refine hc.mono fun e w' hR => ?_
  obtain ⟨u, rfl, hk, hrg⟩ := h e w' hR
  refine ⟨.inr hk, wpSt_mono (fun _ => True) (fun _ _ _ => trivial) (fun l' W _ hW => ?_) _ _ _ _ trivial hrg⟩
  rcases hW with hW | hW
  · exact .inl hW
  · exact .inr (hk.trans hW (fun _ _ x => x) (fun _ _ x => x))
theorem run_conv_op {a : Act} {dst : Option Tmp} {t u ty e : TypeId} {x : Operand} {pos : String} {af : Array Edge} {gd : Option (Nat × Bool)} {v : Value} {ys : List UInt8} {W : World}
    (hrd : RdB W v ys) (ht : P.underlying t = some (.slice e)) (he : P.underlying e = some (.int .u8)) (hu : P.underlying u = some .string) (hx : a.eval x = v) :
    (execOp a.eval { dst := dst, op := .convert t u x, type := ty, pos := pos, after := af, guard := gd }).run P W = .ok (.value (.string (bs ys))) W := by
  unfold execOp
  simp only [hx, Sem.run_bind, run_toStr W ht he hu hrd, Result.andThen_ok, Sem.run_pure]
/-- bytes turned into a string -/
theorem rg_conv {x : Nat} {F : Nat → Prop} {n : Nat} {l : Array Bool} {a : Act} {w : World} (i : Nat) {dst d : Option Tmp} {t u ty e : TypeId} {y : Operand} {pos : String} {af : Array Edge} {gd : Option (Nat × Bool)} {v : Value} {ys : List UInt8}
    (hrd : RdB w v ys) (hF : ∀ k, v.ownBlock = some k → ¬ F k) (ht : P.underlying t = some (.slice e)) (he : P.underlying e = some (.int .u8)) (hu : P.underlying u = some .string)
    (hxi : x ≠ i) (hwt : stageWaits ops x i = true) (hlx : l.getD x false = false)
    (hi : ops[i]? = some { dst := dst, op := .convert t u y, type := ty, pos := pos, after := af, guard := gd }) (hd : dst = d) (hs : Region.noSelect ops = true) (hf : Region.free .any ops l i = true)
    (hr : (Region.ready .any ops l).contains i = true) (hQ : ∀ c a w, Q (.panic c) (a.put d (.string (bs ys))) w → Q (.panic c) a w)
    (hw : Region.wanted { dst := dst, op := .convert t u y, type := ty, pos := pos, after := af, guard := gd } (yielded ops a.tmps) = true) (hx : a.eval y = v)
    (h : Rg P ops Q x F n (l.setIfInBounds i true) (a.put d (.string (bs ys))) w) : Rg P ops Q x F (n + 1) l a w :=
  rg_read i hxi hwt hlx hi hd hs hf hr hQ hw (fun _ hW => run_conv_op (hrd.keep hW hF) ht he hu hx) h
/-- .. the one operation that may come up -/
theorem rg_conv1 {x : Nat} {F : Nat → Prop} {n : Nat} {l : Array Bool} {a : Act} {w : World} (i : Nat) {dst d : Option Tmp} {t u ty e : TypeId} {y : Operand} {pos : String} {af : Array Edge} {gd : Option (Nat × Bool)} {v : Value} {ys : List UInt8}
    (hrd : RdB w v ys) (ht : P.underlying t = some (.slice e)) (he : P.underlying e = some (.int .u8)) (hu : P.underlying u = some .string)
    (hi : ops[i]? = some { dst := dst, op := .convert t u y, type := ty, pos := pos, after := af, guard := gd }) (hd : dst = d) (hr : Region.ready .any ops l = [i])
    (hw : Region.wanted { dst := dst, op := .convert t u y, type := ty, pos := pos, after := af, guard := gd } (yielded ops a.tmps) = true) (hx : a.eval y = v)
    (h : Rg P ops Q x F n (l.setIfInBounds i true) (a.put d (.string (bs ys))) w) : Rg P ops Q x F (n + 1) l a w :=
  rg_only i hi hd hr hw (run_conv_op hrd ht he hu hx) h
/-- each of D waits for i, or for another of D -/
def chainD (ops : Array Oper) (i : Nat) (D : List Nat) : Bool := D.all fun d => match ops[d]? with
  | some o => o.after.any fun e => Region.binds .any e && (e.on == i || D.contains e.on)
  | none => false
theorem chain_inv {i : Nat} {D : List Nat} (hx : chainD ops i D = true) (l : Array Bool) (j : Nat) (hl : ∀ d ∈ D, l.getD d false = false) (hun : l.getD i true = false) (_ : j ≠ i) (hj : j ∈ Region.ready .any ops l) : ∀ d ∈ D, (l.setIfInBounds j true).getD d false = false := by
  obtain ⟨_, oj, hoj, hall⟩ := mem_ready.1 hj
  have hjD : j ∉ D := by
    intro hm
    have h1 := List.all_eq_true.1 hx j hm
    simp only [hoj, Array.any_eq_true'] at h1
    obtain ⟨e, he, hb⟩ := h1
    simp only [Bool.and_eq_true, Bool.or_eq_true, beq_iff_eq] at hb
    have h2 := hall e he hb.1
    rcases hb.2 with hi | hd
    · rw [hi] at h2
      rcases Nat.lt_or_ge i l.size with h' | h'
      · simp [h'] at hun h2
        rw [hun] at h2
        cases h2
      · simp [Array.getElem?_eq_none h'] at h2
    · rw [hl _ (by simpa using hd)] at h2
      cases h2
  intro d hd
  rw [getD_set_ne false (fun e => hjD (by rw [e]; exact hd))]
  exact hl d hd
/-- what reads memory, ahead of x, which waits for it by way of others -/
theorem rg_readD {x : Nat} {F : Nat → Prop} {n : Nat} {l : Array Bool} {a : Act} {w : World} (i : Nat) (D : List Nat) {oi : Oper} {d : Option Tmp} {v : Value} (hxi : x ≠ i) (hD : chainD ops i D = true) (hxD : D.contains x = true) (hlD : (D.all fun d => l.getD d false == false) = true) (hi : ops[i]? = some oi) (hd : oi.dst = d) (hs : Region.noSelect ops = true) (hf : Region.free .any ops l i = true)
    (hr : (Region.ready .any ops l).contains i = true) (hQ : ∀ c a w, Q (.panic c) (a.put d v) w → Q (.panic c) a w) (hw : Region.wanted oi (yielded ops a.tmps) = true)
    (hy : ∀ W, Kp F w W → (execOp a.eval oi).run P W = .ok (.value v) W) (h : Rg P ops Q x F n (l.setIfInBounds i true) (a.put d v) w) : Rg P ops Q x F (n + 1) l a w := by
  subst hd
  refine wpSt_take hi hs hQ (fun l => ∀ d ∈ D, l.getD d false = false) (chain_inv hD) (T := Kp F w) ?_ (stage_set hxi) n l a w (fun d hd => by have := List.all_eq_true.1 hlD d hd; simpa using this) (Region.free_spec hi hf) (by simpa using hr) (.inl ⟨hw, hy⟩) (.inr (Kp.refl F w)) (.inr (Kp.refl F w)) h
  intro l' W hl hs
  rcases hs with hs | hs
  · rw [hl x (by simpa using hxD)] at hs
    cases hs
  · exact hs
theorem rg_convD {x : Nat} {F : Nat → Prop} {n : Nat} {l : Array Bool} {a : Act} {w : World} (i : Nat) (D : List Nat) {dst d : Option Tmp} {t u ty e : TypeId} {y : Operand} {pos : String} {af : Array Edge} {gd : Option (Nat × Bool)} {v : Value} {ys : List UInt8}
    (hrd : RdB w v ys) (hF : ∀ k, v.ownBlock = some k → ¬ F k) (ht : P.underlying t = some (.slice e)) (he : P.underlying e = some (.int .u8)) (hu : P.underlying u = some .string)
    (hxi : x ≠ i) (hD : chainD ops i D = true) (hxD : D.contains x = true) (hlD : (D.all fun d => l.getD d false == false) = true)
    (hi : ops[i]? = some { dst := dst, op := .convert t u y, type := ty, pos := pos, after := af, guard := gd }) (hd : dst = d) (hs : Region.noSelect ops = true) (hf : Region.free .any ops l i = true)
    (hr : (Region.ready .any ops l).contains i = true) (hQ : ∀ c a w, Q (.panic c) (a.put d (.string (bs ys))) w → Q (.panic c) a w)
    (hw : Region.wanted { dst := dst, op := .convert t u y, type := ty, pos := pos, after := af, guard := gd } (yielded ops a.tmps) = true) (hx : a.eval y = v)
    (h : Rg P ops Q x F n (l.setIfInBounds i true) (a.put d (.string (bs ys))) w) : Rg P ops Q x F (n + 1) l a w :=
  rg_readD i D hxi hD hxD hlD hi hd hs hf hr hQ hw (fun _ hW => run_conv_op (hrd.keep hW hF) ht he hu hx) h
/-- .. where what it reads is known in all worlds that may come -/
theorem rg_convF {x : Nat} {F : Nat → Prop} {n : Nat} {l : Array Bool} {a : Act} {w : World} (i : Nat) {dst d : Option Tmp} {t u ty e : TypeId} {y : Operand} {pos : String} {af : Array Edge} {gd : Option (Nat × Bool)} {v : Value} {ys : List UInt8}
    (hrd : ∀ W, Kp F w W → RdB W v ys) (ht : P.underlying t = some (.slice e)) (he : P.underlying e = some (.int .u8)) (hu : P.underlying u = some .string)
    (hxi : x ≠ i) (hwt : stageWaits ops x i = true) (hlx : l.getD x false = false)
    (hi : ops[i]? = some { dst := dst, op := .convert t u y, type := ty, pos := pos, after := af, guard := gd }) (hd : dst = d) (hs : Region.noSelect ops = true) (hf : Region.free .any ops l i = true)
    (hr : (Region.ready .any ops l).contains i = true) (hQ : ∀ c a w, Q (.panic c) (a.put d (.string (bs ys))) w → Q (.panic c) a w)
    (hw : Region.wanted { dst := dst, op := .convert t u y, type := ty, pos := pos, after := af, guard := gd } (yielded ops a.tmps) = true) (hx : a.eval y = v)
    (h : Rg P ops Q x F n (l.setIfInBounds i true) (a.put d (.string (bs ys))) w) : Rg P ops Q x F (n + 1) l a w :=
  rg_read i hxi hwt hlx hi hd hs hf hr hQ hw (fun W hW => run_conv_op (hrd W hW) ht he hu hx) h
theorem rg_convDF {x : Nat} {F : Nat → Prop} {n : Nat} {l : Array Bool} {a : Act} {w : World} (i : Nat) (D : List Nat) {dst d : Option Tmp} {t u ty e : TypeId} {y : Operand} {pos : String} {af : Array Edge} {gd : Option (Nat × Bool)} {v : Value} {ys : List UInt8}
    (hrd : ∀ W, Kp F w W → RdB W v ys) (ht : P.underlying t = some (.slice e)) (he : P.underlying e = some (.int .u8)) (hu : P.underlying u = some .string)
    (hxi : x ≠ i) (hD : chainD ops i D = true) (hxD : D.contains x = true) (hlD : (D.all fun d => l.getD d false == false) = true)
    (hi : ops[i]? = some { dst := dst, op := .convert t u y, type := ty, pos := pos, after := af, guard := gd }) (hd : dst = d) (hs : Region.noSelect ops = true) (hf : Region.free .any ops l i = true)
    (hr : (Region.ready .any ops l).contains i = true) (hQ : ∀ c a w, Q (.panic c) (a.put d (.string (bs ys))) w → Q (.panic c) a w)
    (hw : Region.wanted { dst := dst, op := .convert t u y, type := ty, pos := pos, after := af, guard := gd } (yielded ops a.tmps) = true) (hx : a.eval y = v)
    (h : Rg P ops Q x F n (l.setIfInBounds i true) (a.put d (.string (bs ys))) w) : Rg P ops Q x F (n + 1) l a w :=
  rg_readD i D hxi hD hxD hlD hi hd hs hf hr hQ hw (fun W hW => run_conv_op (hrd W hW) ht he hu hx) h
theorem rg_done {x : Nat} {F : Nat → Prop} {n : Nat} {l : Array Bool} {a : Act} {w : World} (hr : Region.ready .any ops l = []) (h : Q .normal a w) : Rg P ops Q x F n l a w := by
  cases n with
  | zero => exact ⟨hr, h⟩
  | succ n => exact ⟨fun _ => h, by rw [hr]; simp⟩
end
section
variable {P : Program}
/-- an operation whose run is known, at its place in a walk -/
theorem wp_val {o : Oper} {a : Act} {w w' : World} {v : Value} {K : Act → World → Prop} {Q : Exit → Act → World → Prop} (h : (execOp a.eval o).run P w = .ok (.value v) w') (hk : K (a.put o.dst v) w') : Oper.wp P o a w K Q := by
  unfold Oper.wp
  rw [h]
  exact hk
theorem wp_skip {o : Oper} {a : Act} {w w' : World} {K : Act → World → Prop} {Q : Exit → Act → World → Prop} (h : (execOp a.eval o).run P w = .ok .skip w') (hk : K (a.put o.dst undef) w') : Oper.wp P o a w K Q := by
  unfold Oper.wp
  rw [h]
  exact hk
theorem wpl_val {o : Oper} {ops : Array Oper} {rest : List Oper} {a : Act} {w w' : World} {v : Value} {Q : Exit → Act → World → Prop} (hg : o.guard = none) (h : (execOp a.eval o).run P w = .ok (.value v) w') (hk : wpList P ops Q rest (a.put o.dst v) w') : wpList P ops Q (o :: rest) a w :=
  wpList_plain hg fun _ hK => wp_val h (hK _ _ hk)
theorem wpl_skip {o : Oper} {ops : Array Oper} {rest : List Oper} {a : Act} {w w' : World} {Q : Exit → Act → World → Prop} (hg : o.guard = none) (h : (execOp a.eval o).run P w = .ok .skip w') (hk : wpList P ops Q rest (a.put o.dst undef) w') : wpList P ops Q (o :: rest) a w :=
  wpList_plain hg fun _ hK => wp_skip h (hK _ _ hk)
theorem run_store_op {a : Act} {dst : Option Tmp} {t ty : TypeId} {x y : Operand} {pos : String} {af : Array Edge} {gd : Option (Nat × Bool)} {W w' : World} {p : Addr} {u : Value} (h : (Instr.storeAt t (.pointer (some p)) u).run P W = .ok () w') (hx : a.eval x = .pointer (some p)) (hy : a.eval y = u) :
    (execOp a.eval { dst := dst, op := .store t x y, type := ty, pos := pos, after := af, guard := gd }).run P W = .ok .skip w' := by
  unfold execOp
  simp only [hx, hy, Sem.run_bind, h, Result.andThen_ok, Sem.run_pure]
theorem run_upd_op {a : Act} {dst : Option Tmp} {t ty : TypeId} {m x y : Operand} {pos : String} {af : Array Edge} {gd : Option (Nat × Bool)} {W w' : World} {vm vk vv : Value} (h : (Instr.mapUpdate t vm vk vv).run P W = .ok () w') (hm : a.eval m = vm) (hx : a.eval x = vk) (hy : a.eval y = vv) :
    (execOp a.eval { dst := dst, op := .mapUpdate t m x y, type := ty, pos := pos, after := af, guard := gd }).run P W = .ok .skip w' := by
  unfold execOp
  simp only [hm, hx, hy, Sem.run_bind, h, Result.andThen_ok, Sem.run_pure]
theorem run_look_op {a : Act} {dst : Option Tmp} {t ty : TypeId} {m x : Operand} {ok : Bool} {pos : String} {af : Array Edge} {gd : Option (Nat × Bool)} {W w' : World} {vm vk v : Value} (h : (Instr.lookup t vm vk ok).run P W = .ok v w') (hm : a.eval m = vm) (hx : a.eval x = vk) :
    (execOp a.eval { dst := dst, op := .lookup t m x ok, type := ty, pos := pos, after := af, guard := gd }).run P W = .ok (.value v) w' := by
  unfold execOp
  simp only [hm, hx, Sem.run_bind, h, Result.andThen_ok, Sem.run_pure]
theorem run_append_op {a : Act} {dst : Option Tmp} {t tn ty : TypeId} {s x : Operand} {pos : String} {af : Array Edge} {gd : Option (Nat × Bool)} {W w' : World} {vs vx v : Value} (h : (Builtin.append_ #[t, tn] ty #[vs, vx]).run P W = .ok v w') (hs : a.eval s = vs) (hx : a.eval x = vx) :
    (execOp a.eval { dst := dst, op := .call { callee := .builtin .append, args := #[s, x], argTypes := #[t, tn] }, type := ty, pos := pos, after := af, guard := gd }).run P W = .ok (.value v) w' := by
  unfold execOp
  simp only [resolve, invoke, builtin, Sem.run_bind, Sem.run_pure, Result.andThen_ok, List.map_toArray, List.map_cons, List.map_nil, hs, hx, h]
theorem run_load_opv {a : Act} {dst : Option Tmp} {t ty : TypeId} {x : Operand} {pos : String} {af : Array Edge} {gd : Option (Nat × Bool)} {W w' : World} {p : Addr} {u : Value} (h : (Instr.loadAt t (.pointer (some p))).run P W = .ok u w') (hx : a.eval x = .pointer (some p)) :
    (execOp a.eval { dst := dst, op := .load t x, type := ty, pos := pos, after := af, guard := gd }).run P W = .ok (.value u) w' := by
  unfold execOp
  simp only [hx, Sem.run_bind, h, Result.andThen_ok, Sem.run_pure]
end
theorem add_add (a : Addr) (j k : Nat) : (a.add k).add j = a.add (k + j) := by
  unfold Addr.add
  by_cases hk : k = 0
  · subst hk; simp
  · by_cases hj : j = 0
    · subst hj; simp [hk]
    · simp [hk, hj, Nat.add_assoc]
theorem RdB.drop {w : World} {ad : Addr} {n c : Nat} {xs : List UInt8} (h : RdB w (.slice (some ad) n c) xs) (k : Nat) (hk : k ≤ n) : RdB w (.slice (some (ad.add k)) (n - k) (c - k)) (xs.drop k) := by
  have hn := h.len
  obtain ⟨hl, A', c', hv, hc, hr⟩ := h
  injection hv with h1 h2 h3
  subst h1 h3
  have hlen : (xs.drop k).length = n - k := by simp; omega
  refine ⟨by simp [bvs], some (ad.add k), c - k, by rw [hlen], by omega, fun j u hu => ?_⟩
  refine ⟨_, rfl, ?_⟩
  rw [add_add]
  have hb : bvs (xs.drop k) = (bvs xs).drop k := by simp [bvs]
  rw [hb, List.getElem?_drop] at hu
  obtain ⟨ad', he, hcell⟩ := hr (k + j) u hu
  injection he with he
  subst he
  exact hcell
/-! ### rows of cells: structs and arrays -/
/-- from address a on lie the cells cs -/
def RowAt (w : World) (a : Addr) (cs : List Value) : Prop := ∀ j v, cs[j]? = some v → w.cell? (a.add j) = some v
theorem RowAt.keep {w w' : World} {a : Addr} {cs : List Value} (h : RowAt w a cs) {S : Nat → Prop} (k : Kp S w w') (hs : ¬ S a.block) : RowAt w' a cs := fun j v hj => by
  have hc := h j v hj
  rw [k.cell (World.block_lt_of_cell? w _ hc) (by rw [add_block]; exact hs)]
  exact hc
theorem RowAt.c0 {w : World} {a : Addr} {c : Value} {cs : List Value} (h : RowAt w a (c :: cs)) : w.cell? a = some c := h 0 c rfl
/-- a field further on -/
theorem RowAt.fld {w : World} {a : Addr} {cs : List Value} (h : RowAt w a cs) (j : Nat) {v : Value} (hj : cs[j + 1]? = some v) : w.cell? ⟨a.block, a.off + (j + 1), none⟩ = some v := h (j + 1) v hj
theorem RowAt.keepN {w w' : World} {a : Addr} {cs : List Value} (h : RowAt w a cs) (k : KpN w w') : RowAt w' a cs := h.keep k (fun x => x)
section
variable {P : Program}
theorem run_loadVar_rowat {w : World} {a : Addr} {ty : TypeId} {cs : List Value} {d : TypeDesc} (hc : RowAt w a cs) (hu : P.underlying ty = some d) (hd : d.isRow = true) (hi : (P.info? ty).map (·.size) = some cs.length) :
    (loadVar ty a).run P w = .ok (.agg cs.toArray) w := by
  have hl : (loadCells a cs.length).run P w = .ok cs.toArray w := run_loadCells_list (P := P) w a cs hc
  cases hq : P.info? ty with
  | none => simp [hq] at hi
  | some i =>
    have hs : i.size = cs.length := by simpa [hq] using hi
    have hagg : (isAgg ty).run P w = .ok true w := by
      unfold isAgg
      rw [Sem.run_bind, run_underlying hu w]
      cases d <;> simp_all
    simp [loadVar, Sem.run_bind, hagg, sizeOf, typeInfo, hq, hs, hl]
theorem run_loadAt_rowat {w : World} {a : Addr} {ty : TypeId} {cs : List Value} {d : TypeDesc} (hc : RowAt w a cs) (hu : P.underlying ty = some d) (hd : d.isRow = true) (hi : (P.info? ty).map (·.size) = some cs.length) :
    (Instr.loadAt ty (.pointer (some a))).run P w = .ok (.agg cs.toArray) w := by
  simp only [Instr.loadAt, Instr.sureAddr, Sem.run_bind, Sem.run_pure, Result.andThen_ok, run_loadVar_rowat hc hu hd hi]
theorem run_load_op {a : Act} {dst : Option Tmp} {t ty : TypeId} {x : Operand} {pos : String} {af : Array Edge} {gd : Option (Nat × Bool)} {W : World} {p : Addr} {cs : List Value} {d : TypeDesc} (hc : RowAt W p cs) (hx : a.eval x = .pointer (some p))
    (hu : P.underlying t = some d) (hd : d.isRow = true) (hi : (P.info? t).map (·.size) = some cs.length) :
    (execOp a.eval { dst := dst, op := .load t x, type := ty, pos := pos, after := af, guard := gd }).run P W = .ok (.value (.agg cs.toArray)) W := by
  unfold execOp
  simp only [hx, Sem.run_bind, run_loadAt_rowat hc hu hd hi, Result.andThen_ok, Sem.run_pure]
end
end Go.Proofs.Yteokkpmndfekoaa
