/- DiskApart: four disks in memory, what the call does. -/
import Derived.Test.YthkbgbbejgpeaaaJM
namespace Go.Proofs.Ythkbgbbejgpeaaa
open Go Go.RowKit
set_option maxRecDepth 100000

theorem SlAt.sub {α : Type} {W : World} {n : Nat} {rd : World → List Value → α → Prop} {ad : Addr} {N c : Nat} {ys : List α} (h : SlAt W n rd (.slice (some ad) N c) ys) (i : Nat) (hi : i < ys.length) (m : Nat) (hm : 1 ≤ m) : SlAt W n rd (.slice (some (ad.add (i * n))) 1 m) [ys[i]] := by
  refine ⟨some (ad.add (i * n)), m, rfl, hm, fun j hj => ?_⟩
  have hj0 : j = 0 := by simpa using hj
  subst hj0
  obtain ⟨ad', cs, ha, hn, hr, hd⟩ := h.row i hi
  injection ha with ha
  subst ha
  exact ⟨_, cs, rfl, hn, by rw [Nat.zero_mul]; exact hr, hd⟩
/-- steps, each with a text of number 1 -/
def appD (d : Dk) (l : List Stp) : Dk := l.foldl (fun d s => (stepD d s 0).2) d
theorem appD_snoc (d : Dk) (l : List Stp) (s : Stp) : appD d (l ++ [s]) = (stepD (appD d l) s 0).2 := by simp [appD]
theorem run_one (d : Dk) (s : Stp) : (runD d [s] 1).2 = (stepD d s 0).2 := by simp [runD, runL]
theorem appD_n : ∀ (l : List Stp) (d : Dk), (appD d l).n = d.n
  | [], _ => rfl
  | s :: r, d => by
    show (appD (stepD d s 0).2 r).n = _
    rw [appD_n r, step_n]
abbrev ptrD (g : Nat) : Value := .pointer (some ⟨g, 0, none⟩)
/-- disks that share no memory -/
structure Disks (w0 w : World) (m : Nat) (G : Nat → Nat) (F : Nat → Nat → Prop) (K : Nat → Nat) (D : Nat → Dk) : Prop where
  at_ : ∀ j, j < m → DiskX w (F j) (G j) (K j) (D j)
  dis : ∀ i j, i < m → j < m → i ≠ j → ∀ x, F i x → ¬ F j x
  ge : ∀ j, j < m → ∀ x, F j x → w0.heap.size ≤ x ∧ x < w.heap.size
  kp : KpN w0 w
theorem Disks.keep {w0 w w' : World} {m : Nat} {G : Nat → Nat} {F : Nat → Nat → Prop} {K : Nat → Nat} {D : Nat → Dk} (h : Disks w0 w m G F K D) (k : KpN w w') : Disks w0 w' m G F K D :=
  ⟨fun j hj => (h.at_ j hj).keepN k, h.dis, fun j hj x hx => ⟨(h.ge j hj x hx).1, by have := (h.ge j hj x hx).2; have := k.size; omega⟩, h.kp.thenN k⟩
/-- one of them is changed -/
theorem Disks.step {w0 w w' : World} {m : Nat} {G : Nat → Nat} {F : Nat → Nat → Prop} {K : Nat → Nat} {D : Nat → Dk} (h : Disks w0 w m G F K D) (j : Nat) (hj : j < m) {F' : Nat → Prop} {k' : Nat} {d' : Dk} (hx : DiskX w' F' (G j) k' d') (hg : Gr w w' (F j) F') (kp : Kp (F j) w w') :
    Disks w0 w' m G (upd F j F') (upd K j k') (upd D j d') := by
  have hz := kp.size
  have hlt : ∀ i, i < m → i ≠ j → ∀ x, F' x → ¬ F i x := fun i hi hij x hx' hfi => by
    rcases hg x hx' with hh | hh
    · exact h.dis j i hj hi (Ne.symm hij) x hh hfi
    · have := hh.1; have := (h.ge i hi x hfi).2; omega
  refine ⟨fun i hi => ?_, fun a b ha hb hab x hxa hxb => ?_, fun i hi x hxi => ?_, h.kp.fresh kp (fun x hx => (h.ge j hj x hx).1)⟩
  · by_cases hij : i = j
    · subst hij
      simp only [upd_same]
      exact hx
    · simp only [upd_ne _ _ hij]
      exact (h.at_ i hi).keep kp (fun x h1 h2 => h.dis i j hi hj hij x h1 h2)
  · by_cases haj : a = j
    · subst haj
      rw [upd_same] at hxa
      rw [upd_ne _ _ (Ne.symm hab)] at hxb
      exact hlt b hb (Ne.symm hab) x hxa hxb
    · rw [upd_ne _ _ haj] at hxa
      by_cases hbj : b = j
      · subst hbj
        rw [upd_same] at hxb
        exact hlt a ha haj x hxb hxa
      · rw [upd_ne _ _ hbj] at hxb
        exact h.dis a b ha hb hab x hxa hxb
  · by_cases hij : i = j
    · subst hij
      rw [upd_same] at hxi
      rcases hg x hxi with hh | hh
      · exact ⟨(h.ge i hj x hh).1, by have := (h.ge i hj x hh).2; omega⟩
      · exact ⟨by have := hh.1; have := h.kp.size; omega, hh.2⟩
    · rw [upd_ne _ _ hij] at hxi
      exact ⟨(h.ge i hi x hxi).1, by have := (h.ge i hi x hxi).2; omega⟩
/-- one more, new -/
theorem Disks.snoc {w0 w w' : World} {m g k : Nat} {G : Nat → Nat} {F : Nat → Nat → Prop} {K : Nat → Nat} {D : Nat → Dk} {d : Dk} (h : Disks w0 w m G F K D) (kp : KpN w w') (hx : DiskX w' (Iv w.heap.size w'.heap.size) g k d) :
    Disks w0 w' (m + 1) (upd G m g) (upd F m (Iv w.heap.size w'.heap.size)) (upd K m k) (upd D m d) := by
  refine ⟨fun i hi => ?_, fun a b ha hb hab x hxa hxb => ?_, fun i hi x hxi => ?_, h.kp.thenN kp⟩
  · by_cases hij : i = m
    · subst hij
      simp only [upd_same]
      exact hx
    · simp only [upd_ne _ _ hij]
      exact (h.at_ i (by omega)).keepN kp
  · by_cases haj : a = m
    · subst haj
      rw [upd_same] at hxa
      rw [upd_ne _ _ (Ne.symm hab)] at hxb
      have := hxa.1; have := (h.ge b (by omega) x hxb).2; omega
    · rw [upd_ne _ _ haj] at hxa
      by_cases hbj : b = m
      · subst hbj
        rw [upd_same] at hxb
        have := hxb.1; have := (h.ge a (by omega) x hxa).2; omega
      · rw [upd_ne _ _ hbj] at hxb
        exact h.dis a b (by omega) (by omega) hab x hxa hxb
  · by_cases hij : i = m
    · subst hij
      rw [upd_same] at hxi
      exact ⟨by have := hxi.1; have := h.kp.size; omega, hxi.2⟩
    · rw [upd_ne _ _ hij] at hxi
      have := h.ge i (by omega) x hxi
      exact ⟨this.1, by have := kp.size; omega⟩
end Go.Proofs.Ythkbgbbejgpeaaa
