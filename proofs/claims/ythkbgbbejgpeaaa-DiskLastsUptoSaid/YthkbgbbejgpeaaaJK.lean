/- A list of steps of the call's own. -/
import Derived.Test.YthkbgbbejgpeaaaJI
namespace Go.Proofs.Ythkbgbbejgpeaaa
open Go Go.RowKit
set_option maxRecDepth 100000

theorem stepInfo : (Try.prog.info? 57).map (fun i => (i.zero, i.size, i.bytes)) = some (some (.agg #[.int .i64 0, .int .i64 0, .slice none 0 0]), 3, 40) := by kernel_rfl
theorem StepAt.len {w : World} {cs : List Value} {s : Stp} (h : StepAt w cs s) : cs.length = 3 := by
  obtain ⟨⟨cv, rfl, _⟩, _⟩ := h
  rfl
/-- steps laid in a row of the call's own; what they read stands in w0 -/
structure OwSteps (w0 w : World) (G : Nat → Prop) (v : Value) (l : List (List Value × Stp)) : Prop where
  row : OwC w 57 3 G v l.length (l.map Prod.fst).flatten
  each : ∀ p ∈ l, StepAt w0 p.1 p.2
theorem OwSteps.lens {w0 w : World} {G : Nat → Prop} {v : Value} {l : List (List Value × Stp)} (h : OwSteps w0 w G v l) : ∀ a ∈ l.map Prod.fst, a.length = 3 := by
  intro a ha
  obtain ⟨p, hp, rfl⟩ := List.mem_map.1 ha
  exact (h.each p hp).len
theorem OwSteps.reads {w0 w : World} {G : Nat → Prop} {v : Value} {l : List (List Value × Stp)} (h : OwSteps w0 w G v l) (k : KpN w0 w) : RdSteps w v (l.map Prod.snd) := by
  obtain ⟨hl, A, c, hv, hc, hr⟩ := h.row.reads
  refine ⟨A, c, by simpa using hv, by simpa using hc, fun j hj => ?_⟩
  have hj' : j < l.length := by simpa using hj
  have hjm : j < (l.map Prod.fst).length := by simpa using hj'
  have hrow := flatten_row 3 (l.map Prod.fst) j hjm h.lens
  have hst := (h.each l[j] (List.getElem_mem hj')).keep k
  have hcs : ∀ t u, l[j].1[t]? = some u → (l.map Prod.fst).flatten[j * 3 + t]? = some u := fun t u hu => by
    have ht : t < 3 := by have := (List.getElem?_eq_some_iff.1 hu).1; have := hst.len; omega
    have e : (l.map Prod.fst)[j] = l[j].1 := by simp
    rw [e] at hrow
    rw [← hrow, List.getElem?_take, if_pos ht, List.getElem?_drop] at hu
    exact hu
  obtain ⟨u0, hu0⟩ : ∃ u0, l[j].1[0]? = some u0 := by
    have h3 := hst.len
    exact ⟨l[j].1[0]'(by omega), List.getElem?_eq_getElem _⟩
  obtain ⟨ad, hA, _⟩ := hr _ u0 (hcs 0 u0 hu0)
  refine ⟨ad, l[j].1, hA, hst.len, fun t u hu => ?_, by simpa using hst⟩
  obtain ⟨ad', hA', hc'⟩ := hr _ u (hcs t u hu)
  rw [hA] at hA'
  injection hA' with hA'
  subst hA'
  rw [add_add]
  exact hc'
theorem step_ones {w : World} {cs : List Value} {s : Stp} (h : StepAt w cs s) : ∀ u ∈ cs, u.oneCell' = true := by
  obtain ⟨⟨cv, rfl, hcv⟩, _⟩ := h
  obtain ⟨A, c, rfl, _⟩ := RdC.form hcv
  intro u hu
  simp at hu
  rcases hu with rfl | rfl | rfl <;> rfl
/-- one more -/
theorem run_appSt {w0 w : World} {G : Nat → Prop} {v : Value} {l : List (List Value × Stp)} {cs : List Value} {s : Stp} (h : OwSteps w0 w G v l) (hs : StepAt w0 cs s) (hl : l.length ≤ 1000000000) :
    ∃ v' w', (Builtin.append_ #[47, 47] 47 #[v, .slice (some ⟨w.heap.size, 0, none⟩) 1 1]).run Try.prog (w.alloc (.cells cs.toArray 57)) = .ok v' w' ∧ OwSteps w0 w' (fun b => G b ∨ Iv w.heap.size w'.heap.size b) v' (l ++ [(cs, s)]) ∧ Kp G w w' := by
  have kl : KpN w (w.alloc (.cells cs.toArray 57)) := (Kp.refl _ _).alloc _
  have hlen := hs.len
  have olit := (OwC.lit w 57 3 1 cs.toArray (by simp [maxLen]) (by simpa using hlen)).reads
  have olit' : RdC (w.alloc (.cells cs.toArray 57)) 3 (.slice (some ⟨w.heap.size, 0, none⟩) 1 1) 1 cs := by simpa using olit
  obtain ⟨v', w', hr, ho, hk, hat⟩ := run_app (P := Try.prog) (t := 47) (ty := 47) (w.alloc (.cells cs.toArray 57)) Try.underlying47 stepInfo rfl (by omega) (h.row.keepN kl) olit' (step_ones hs) (by omega) (by omega)
  have hz := kl.size
  refine ⟨v', w', hr, ⟨?_, fun p hp => ?_⟩, Kp.after kl (hk.mono (fun b _ e => h.row.fit b e))⟩
  · have := ho.wide (G := fun b => G b ∨ Iv w.heap.size w'.heap.size b) (fun b _ hb => by
      rcases hb with hb | hb
      · exact .inl hb
      · exact .inr ⟨by have := hb.1; omega, hb.2⟩)
    simpa using this
  · rcases List.mem_append.1 hp with hp | hp
    · exact h.each p hp
    · simp at hp
      rw [hp]
      exact hs
theorem OwSteps.nil (w0 w : World) (G : Nat → Prop) : OwSteps w0 w G (.slice none 0 0) [] := ⟨OwC.nil _ _ _ _, fun p hp => by cases hp⟩
/-- the Writes and Flushes of a script -/
def opB (s : Stp) : Bool := decide (0 ≤ s.1) && decide (s.1 ≤ 2)
theorem opB_S {s : Stp} (h : opB s = true) : OpS s := by
  simp [opB] at h
  unfold OpS
  omega
theorem stepsSize_filter (l : List Stp) (p : Stp → Bool) : stepsSize (l.filter p) ≤ stepsSize l := by
  unfold stepsSize
  induction l with
  | nil => simp
  | cons a r ih =>
    simp only [List.filter_cons]
    split
    · simp only [List.map_cons, List.sum_cons]; omega
    · simp only [List.map_cons, List.sum_cons]; omega
/-- what DiskCuts sees: n operations, with a fuse and without -/
theorem cuts_law (size n ops : Nat) (l : List Stp) (hs : 1 ≤ size) (ho : ops = l.length) (hl : ∀ s ∈ l, OpS s) :
    ∃ b : Dk, b.off = false ∧ b.fuse = -1 ∧ b.n = size ∧ runD (newD size) l n = (min n ops, b) ∧ runD (withF (newD size) false n) l ops = (min n ops, if ops ≤ n then withF b false (n - ops : Nat) else withF b true (-1)) := by
  subst ho
  obtain ⟨b, h1, h2, h3, h4, h5⟩ := run_fuse (l.length : Int) l 0 0 n (newD size) hl hs rfl rfl (by omega)
  refine ⟨b, h1, h2, h3, ?_, ?_⟩
  · have : (((0 : Nat) : Int) + (n : Int)) = (n : Int) := by omega
    rw [this] at h4
    simpa [runD] using h4
  · simpa [runD] using h5
end Go.Proofs.Ythkbgbbejgpeaaa
