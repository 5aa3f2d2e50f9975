/- What the arguments of the statements on disks read as. -/
import Derived.Test.YthkbgbbejgpeaaaDH
import Derived.Test.YthkbgbbejgpeaaaRD
namespace Go.Proofs.Ythkbgbbejgpeaaa
open Go Go.RowKit Go.ChangeShapes Go.WideShapes Go.ChangeAt
set_option maxRecDepth 100000

/-- fits an int -/
def I64 (z : Int) : Prop := -9223372036854775808 ≤ z ∧ z ≤ 9223372036854775807
theorem i64_I {z : Int} (h : (Lit.int .i64 z).wf = true) : I64 z := by
  have := i64_wf h
  exact ⟨this.1, by omega⟩
theorem SlAt.map {α β : Type} {W : World} {n : Nat} {rd : World → List Value → α → Prop} {rd' : World → List Value → β → Prop} {v : Value} {ys : List α} (f : α → β) (h : SlAt W n rd v ys) (hf : ∀ cs y, rd W cs y → rd' W cs (f y)) : SlAt W n rd' v (ys.map f) := by
  obtain ⟨A, c, h1, h2, h3⟩ := h
  refine ⟨A, c, by simpa using h1, by simpa using h2, fun j hj => ?_⟩
  obtain ⟨ad, cs, ha, hn, hr, hd⟩ := h3 j (by simpa using hj)
  exact ⟨ad, cs, ha, hn, hr, by simpa using hf _ _ hd⟩
theorem SlAt.all {α : Type} {W : World} {n : Nat} {rd : World → List Value → α → Prop} {v : Value} {ys : List α} (h : SlAt W n rd v ys) {p : α → Prop} (hp : ∀ cs y, rd W cs y → p y) : ∀ y ∈ ys, p y := by
  intro y hy
  obtain ⟨j, hj, rfl⟩ := List.mem_iff_getElem.1 hy
  obtain ⟨A, c, h1, h2, h3⟩ := h
  obtain ⟨ad, cs, ha, hn, hr, hd⟩ := h3 j hj
  exact hp _ _ hd
theorem SlAt.rdI {W : World} {v : Value} {zs : List Int} (h : SlAt W 1 (fun _ cs z => cs = [Value.int .i64 z]) v zs) : RdI W v zs := by
  obtain ⟨A, c, rfl, h2, h3⟩ := h
  refine ⟨by simp, A, c, rfl, h2, fun j u hu => ?_⟩
  have hj : j < zs.length := by simpa using (List.getElem?_eq_some_iff.1 hu).1
  obtain ⟨ad, cs, ha, hn, hr, rfl⟩ := h3 j hj
  refine ⟨ad, ha, ?_⟩
  have := hr 0 _ rfl
  rw [Nat.mul_one] at this
  have hu' : u = .int .i64 zs[j] := by
    rw [List.getElem?_map, List.getElem?_eq_getElem hj] at hu
    exact (Option.some.inj hu).symm
  rw [hu']
  exact this
def i64Rd : Rd 3 Int := intRd .i64 3 Try.underlying3 (by kernel_rfl)
def intsRd : Rd 29 (List Int) := sliceRd i64Rd _ Try.underlying29 (by kernel_rfl)
theorem ints_of {W : World} {v : Value} {zs : List Int} (h : SlAt W i64Rd.n i64Rd.rd v zs) : RdI W v zs ∧ ∀ z ∈ zs, I64 z := by
  refine ⟨?_, h.all (fun cs y hy => by have := i64_wf hy.2; exact ⟨this.1, by omega⟩)⟩
  have := h.map id (rd' := fun _ cs z => cs = [Value.int .i64 z]) (fun cs y hy => hy.1)
  rw [List.map_id] at this
  exact this.rdI
theorem intsRd_size (zs : List Int) : intsRd.size zs = zs.length + 1 := by
  show (zs.map fun _ => 1).sum + 1 = _
  congr 1
  induction zs with
  | nil => rfl
  | cons a r ih => simp only [List.map_cons, List.sum_cons, List.length_cons, ih]; omega
section
variable {H : Type} {enc : TypeId × Value → H} {W : World} {base : Nat} {sp : Nat → Bool} {held : Bool} {a : Option Addr} {len cap : Nat} {d : DataW H} {p : List MemPlace}
theorem open_ints (h0 : DataW.Trod enc Try.prog W base sp held 29 (.slice a len cap) d p) : ∃ zs : List Int, RdI W (.slice a len cap) zs ∧ (∀ z ∈ zs, I64 z) ∧ zs.length ≤ Rows.uptoBulk d := by
  obtain ⟨zs, ⟨v, hv, hs⟩, hb⟩ := intsRd.open_ h0
  obtain rfl : Value.slice a len cap = v := by simpa [Value.cells] using hv
  rw [intsRd_size] at hb
  exact ⟨zs, (ints_of hs).1, (ints_of hs).2, by omega⟩
/-- a step: what to do, where, choices -/
abbrev Stp := Int × Int × List Int
def StepAt (W : World) (cs : List Value) (s : Stp) : Prop := (∃ cv, cs = [.int .i64 s.1, .int .i64 s.2.1, cv] ∧ RdI W cv s.2.2) ∧ I64 s.1 ∧ I64 s.2.1 ∧ ∀ z ∈ s.2.2, I64 z
theorem StepAt.keep {w w' : World} {cs : List Value} {s : Stp} (h : StepAt w cs s) (k : KpN w w') : StepAt w' cs s := by
  obtain ⟨⟨cv, rfl, h1⟩, h2⟩ := h
  exact ⟨⟨cv, rfl, RdC.keepN h1 k⟩, h2⟩
def RdSteps (w : World) (v : Value) (l : List Stp) : Prop := SlAt w 3 StepAt v l
theorem RdSteps.keepN {w w' : World} {v : Value} {l : List Stp} (h : RdSteps w v l) (k : KpN w w') : RdSteps w' v l := SlAt.keep h k (fun h k => h.keep k)
def stepRd : Rd 57 (Int × Int × List Int × Unit) :=
  structRd _ Try.underlying57 (consFds i64Rd rfl (consFds i64Rd rfl (consFds intsRd rfl (nilFds _)))) (by kernel_rfl)
def stepsRd : Rd 47 (List (Int × Int × List Int × Unit)) := sliceRd stepRd _ Try.underlying47 (by kernel_rfl)
/-- how much a script holds -/
def stepsSize (l : List Stp) : Nat := (l.map fun s => s.2.2.length + 3).sum
theorem open_steps (h0 : DataW.Trod enc Try.prog W base sp held 47 (.slice a len cap) d p) : ∃ l : List Stp, RdSteps W (.slice a len cap) l ∧ stepsSize l ≤ Rows.uptoBulk d := by
  obtain ⟨raw, ⟨v, hv, hs⟩, hb⟩ := stepsRd.open_ h0
  obtain rfl : Value.slice a len cap = v := by simpa [Value.cells] using hv
  refine ⟨raw.map fun x => (x.1, x.2.1, x.2.2.1), hs.map _ (fun cs y hy => ?_), ?_⟩
  · obtain ⟨c1, c2, rfl, ⟨rfl, w1⟩, c3, c4, rfl, ⟨rfl, w2⟩, c5, c6, rfl, ⟨cv, rfl, hcv⟩, h6⟩ := hy
    obtain rfl : c6 = [] := h6
    have := ints_of hcv
    exact ⟨⟨cv, rfl, this.1⟩, i64_I w1, i64_I w2, this.2⟩
  · have hsz : ∀ x : Int × Int × List Int × Unit, stepRd.size x = x.2.2.1.length + 3 := fun x => by
      show 1 + (1 + (intsRd.size x.2.2.1 + 0)) = _
      rw [intsRd_size]
      omega
    have hbk : stepsRd.size raw = (raw.map stepRd.size).sum + 1 := rfl
    rw [hbk] at hb
    have : stepsSize (raw.map fun x => (x.1, x.2.1, x.2.2.1)) = (raw.map stepRd.size).sum := by
      unfold stepsSize
      rw [List.map_map]
      congr 1
      apply List.map_congr_left
      intro x _
      rw [hsz]
      rfl
    exact Nat.le_trans (Nat.le_of_eq this) (Nat.le_trans (Nat.le_succ _) hb)
end
theorem stepsSize_len (l : List Stp) : l.length * 3 ≤ stepsSize l := by
  unfold stepsSize
  induction l with
  | nil => simp
  | cons a r ih => simp only [List.map_cons, List.sum_cons, List.length_cons]; omega
theorem stepsSize_mem (l : List Stp) (s : Stp) (h : s ∈ l) : s.2.2.length + 3 ≤ stepsSize l := by
  unfold stepsSize
  induction l with
  | nil => cases h
  | cons a r ih =>
    simp only [List.map_cons, List.sum_cons]
    rcases List.mem_cons.1 h with rfl | h
    · omega
    · have := ih h
      omega
end Go.Proofs.Ythkbgbbejgpeaaa
