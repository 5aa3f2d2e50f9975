/- disk.Flush. -/
import Derived.Test.YthkbgbbejgpeaaaDT
import Derived.Maps.RangeWalk
namespace Go.Proofs.Ythkbgbbejgpeaaa
open Go Go.RowKit
set_option maxRecDepth 100000

theorem run_clear {P : Program} {w : World} {m clock : Nat} {es : Array MapEntry} {t k e : TypeId} (ht : P.underlying t = some (.map k e)) (hb : w.heap[m]? = some (.map es clock)) :
    (Builtin.clear_ #[t] 0 #[.map (some m)]).run P w = .ok (.tuple #[]) { w with heap := w.heap.setIfInBounds m (.map #[] clock) } := by
  unfold Builtin.clear_
  simp only [List.getElem?_toArray, List.getElem?_cons_zero, Sem.run_bind, run_underlying ht, Result.andThen_ok, MapKept.run_getObj_map hb, MapKept.run_setObj_map _ hb, Sem.run_pure]
theorem kp_block {w : World} {m : Nat} (o : Obj) : Kp (fun b => b = m) w { w with heap := w.heap.setIfInBounds m o } :=
  ⟨rfl, rfl, rfl, by simp, fun k _ hk => by
    show (w.heap.setIfInBounds m o)[k]? = _
    rw [Array.getElem?_setIfInBounds_ne (fun e => hk e.symm)]⟩
/-- nothing waits any more -/
def bareD (d : Dk) : Dk := ⟨d.n, d.du, d.to, fun _ => [], d.off, d.fuse⟩
theorem DiskM.cleared {w : World} {F : Nat → Prop} {g bd bt m k : Nat} {D : DataW Unit} {sl : Nat → Value} {d : Dk} (h : DiskM w F g bd bt m k D sl d) {es : Array MapEntry} {clock : Nat} (_hb : w.heap[m]? = some (.map es clock)) :
    DiskM { w with heap := w.heap.setIfInBounds m (.map #[] clock) } F g bd bt m k (.map []) (fun _ => .slice none 0 0) (bareD d) := by
  obtain ⟨l1, l2, l3, l4⟩ := h.lt
  obtain ⟨e1, e2, e3, e4, e5, e6⟩ := h.ne
  have kk := kp_block (w := w) (m := m) (.map #[] clock)
  have hz := kk.size
  refine ⟨h.n1, h.n2, h.fit, h.ne, ⟨by omega, by omega, by omega, by omega⟩, ?_, ?_, ?_, ?_, ?_, ?_, h.fb, ?_, h.len, ?_, ?_, ?_, ?_, ?_, ?_, ?_, ?_, ?_, ?_, ?_, ?_, ?_⟩
  · rw [kk.cell l1 e3]; exact h.c0
  · rw [kk.cell l1 e3]; exact h.c1
  · rw [kk.cell l1 e3]; exact h.c2
  · rw [kk.cell l1 e3]; exact h.c3
  · rw [kk.cell l1 e3]; exact h.c4
  · intro j; rw [kk.frozen l1 e3]; exact h.fz j
  · intro i hi; exact (h.sec i hi).keep kk e5
  · intro j; rw [kk.frozen l2 e5]; exact h.sfz j
  · intro i hi; rw [kk.cell l3 e6]; exact h.tor i hi
  · intro j; rw [kk.frozen l3 e6]; exact h.tfz j
  · refine ⟨#[], clock, ?_, ⟨by simp, MapKept.stamped_empty clock, by simp⟩, Nat.zero_le _, rfl⟩
    show (w.heap.setIfInBounds m _)[m]? = _
    rw [Array.getElem?_setIfInBounds_self_of_lt l4]
  · exact ⟨[], rfl⟩
  · intro i hi; rfl
  · intro i hi; exact OwC.nil _ _ _ _
  · intro i hi _; rfl
  · intro i hi s hs; cases hs
  · intro kl
    exact ⟨fun hh => by simp [Maps.has] at hh, fun ⟨i, _, _, hc⟩ => absurd rfl hc⟩
  · intro i j _ _ _ b hb; cases hb
  · intro i _ b hb; cases hb
  · intro i _; exact Nat.zero_le _
/-- behind the round in which 'left' is still to come -/
def flushI (d : Dk) (left : Lit → Bool) : Dk := ⟨d.n, fun i => if i < d.n ∧ d.ca i ≠ [] ∧ left (key i) = false then (d.ca i).getLast?.getD [] else d.du i, fun i => if i < d.n ∧ d.ca i ≠ [] ∧ left (key i) = false then false else d.to i, d.ca, d.off, d.fuse⟩
/-- what a Flush tells, and the disk behind it -/
def flushD (d : Dk) : Nat × Dk := if (goesD d).1 = false then (5, (goesD d).2) else (0, bareD (flushI (goesD d).2 (fun _ => false)))
theorem flushI_start (d : Dk) (left : Lit → Bool) (h : ∀ i, i < d.n → d.ca i ≠ [] → left (key i) = true) : flushI d left = d := by
  obtain ⟨n, du, tn, ca, off, fuse⟩ := d
  unfold flushI
  congr 1
  · funext i
    rw [if_neg]
    rintro ⟨h1, h2, h3⟩
    rw [h i h1 h2] at h3
    cases h3
  · funext i
    rw [if_neg]
    rintro ⟨h1, h2, h3⟩
    rw [h i h1 h2] at h3
    cases h3
theorem sameKey_key (i j : Nat) : (key i).sameKey (key j) = decide (i = j) := by
  simp only [Lit.sameKey]
  by_cases h : i = j
  · subst h; simp
  · simp [h]
    omega
theorem flushI_step (d : Dk) (left : Lit → Bool) (j : Nat) (hj : j < d.n) (hc : d.ca j ≠ []) (x : List UInt8) (hx : (d.ca j).getLast? = some x) :
    settleD (flushI d left) j x false = flushI d (fun z => left z && !z.sameKey (key j)) := by
  unfold settleD flushI
  congr 1
  · funext i
    by_cases hij : i = j
    · subst hij
      simp [upd_same, hj, hc, hx, sameKey_key]
    · rw [upd_ne _ _ hij]
      simp [sameKey_key, hij]
  · funext i
    by_cases hij : i = j
    · subst hij
      simp [upd_same, hj, hc, sameKey_key]
    · rw [upd_ne _ _ hij]
      simp [sameKey_key, hij]
end Go.Proofs.Ythkbgbbejgpeaaa
