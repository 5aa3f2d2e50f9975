/- Rows of rows of ints of the call's own: no two share memory. -/
import Derived.Test.YthkbgbbejgpeaaaJM
namespace Go.Proofs.Ythkbgbbejgpeaaa
open Go Go.RowKit
set_option maxRecDepth 100000

section
variable {w w' : World} {F : Nat → Prop} {v : Value} {xs : List Int}
theorem OwI.c (h : OwI w F v xs) : OwC w 3 1 F v xs.length (xs.map (Value.int .i64)) := h
theorem OwI.fit (h : OwI w F v xs) : ∀ k, v.ownBlock = some k → F k := h.c.fit
theorem OwI.lt (h : OwI w F v xs) : ∀ k, v.ownBlock = some k → k < w.heap.size := h.c.lt
theorem OwI.keep (h : OwI w F v xs) {S : Nat → Prop} (k : Kp S w w') (hs : ∀ i, F i → ¬ S i) : OwI w' F v xs := h.c.keep k hs
theorem OwI.keepN (h : OwI w F v xs) (k : KpN w w') : OwI w' F v xs := h.c.keepN k
theorem OwI.keepB (h : OwI w F v xs) {S : Nat → Prop} (k : Kp S w w') (hs : ∀ i, v.ownBlock = some i → ¬ S i) : OwI w' F v xs := h.c.keepB k hs
theorem OwI.wide {G : Nat → Prop} (h : OwI w F v xs) (hg : ∀ k, k < w.heap.size → F k → G k) : OwI w G v xs := h.c.wide hg
theorem OwI.nil (w : World) (F : Nat → Prop) : OwI w F (.slice none 0 0) [] := OwC.nil w 3 1 F
theorem OwI.form (h : OwI w F v xs) (hn : 0 < xs.length) : ∃ g cap, v = .slice (some ⟨g, 0, none⟩) xs.length cap ∧ F g ∧ xs.length ≤ cap := h.c.form hn
theorem OwI.oneCell (h : OwI w F v xs) : v.oneCell' = true := by
  obtain ⟨A, c, rfl, _⟩ := RdC.form h.rd
  rfl
end
/-- v is a row of its own of slices (of the type T) that are rows of ints of their own -/
structure OwnL (w : World) (T : Nat) (F : Nat → Prop) (v : Value) (ls : List (Value × List Int)) : Prop where
  row : OwC w T 1 F v ls.length (ls.map Prod.fst)
  each : ∀ i (h : i < ls.length), OwI w F ls[i].1 ls[i].2
  apart : ∀ i j (hi : i < ls.length) (hj : j < ls.length), i ≠ j → ∀ k, ls[i].1.ownBlock = some k → ls[j].1.ownBlock ≠ some k
  out : ∀ i (hi : i < ls.length) k, v.ownBlock = some k → ls[i].1.ownBlock ≠ some k
section
variable {w w' : World} {T : Nat} {F G : Nat → Prop} {v : Value} {ls : List (Value × List Int)}
theorem OwnL.nil (w : World) (T : Nat) (F : Nat → Prop) : OwnL w T F (.slice none 0 0) [] := ⟨OwC.nil w T 1 F, fun i h => by simp at h, fun i j h => by simp at h, fun i h => by simp at h⟩
theorem OwnL.keep (h : OwnL w T F v ls) {S : Nat → Prop} (k : Kp S w w') (hs : ∀ i, F i → ¬ S i) : OwnL w' T F v ls :=
  ⟨h.row.keep k hs, fun i hi => (h.each i hi).keep k hs, h.apart, h.out⟩
theorem OwnL.keepB (h : OwnL w T F v ls) {S : Nat → Prop} (k : Kp S w w') (hs : ∀ i, v.ownBlock = some i → ¬ S i) (hl : ∀ j (hj : j < ls.length) i, ls[j].1.ownBlock = some i → ¬ S i) : OwnL w' T F v ls :=
  ⟨h.row.keepB k hs, fun i hi => (h.each i hi).keepB k (hl i hi), h.apart, h.out⟩
theorem OwnL.keepN (h : OwnL w T F v ls) (k : KpN w w') : OwnL w' T F v ls := h.keep k (fun _ _ x => x)
theorem OwnL.wide (h : OwnL w T F v ls) (hg : ∀ k, k < w.heap.size → F k → G k) : OwnL w T G v ls :=
  ⟨h.row.wide hg, fun i hi => (h.each i hi).wide hg, h.apart, h.out⟩
theorem OwnL.form (h : OwnL w T F v ls) (hn : 0 < ls.length) : ∃ g cap, v = .slice (some ⟨g, 0, none⟩) ls.length cap ∧ F g ∧ ls.length ≤ cap := h.row.form hn
theorem OwnL.cellAt {g n cap : Nat} (h : OwnL w T F (.slice (some ⟨g, 0, none⟩) n cap) ls) (i : Nat) (hi : i < ls.length) : w.cell? ⟨g, i, none⟩ = some ls[i].1 := by
  have hn : n = ls.length := by
    obtain ⟨_, A, c, hv, _⟩ := h.row.reads
    injection hv
  subst hn
  rw [OwC.cellAt h.row i hi]
  simp [List.getElem?_eq_getElem hi]
theorem OwnL.ones (h : OwnL w T F v ls) : ∀ u ∈ ls.map Prod.fst, u.oneCell' = true := by
  intro u hu
  obtain ⟨x, hx, rfl⟩ := List.mem_map.1 hu
  obtain ⟨i, hi, rfl⟩ := List.mem_iff_getElem.1 hx
  exact (h.each i hi).oneCell
/-- lists onto lists -/
theorem run_appL {P : Program} {t ty : TypeId} {z : Value} {bytes : Nat} (w : World) (ht : P.underlying t = some (.slice T)) (hinfo : (P.info? T).map (fun i => (i.zero, i.size, i.bytes)) = some (some z, 1, bytes)) (hzs : z.cells.size = 1)
    {F2 : Nat → Prop} {x : Value} {ms : List (Value × List Int)} (ho : OwnL w T F v ls) (hr : OwnL w T F2 x ms) (hd : ∀ k, F k → ¬ F2 k) (hb : (ls.length + ms.length) * bytes ≤ 140737488355328) (hm : ls.length + ms.length ≤ 140737488355328) :
    ∃ v' w', (Builtin.append_ #[t, t] ty #[v, x]).run P w = .ok v' w' ∧ OwnL w' T (fun k => F k ∨ F2 k ∨ Iv w.heap.size w'.heap.size k) v' (ls ++ ms) ∧ Kp (fun k => v.ownBlock = some k) w w' ∧ (v'.ownBlock = v.ownBlock ∨ v'.ownBlock = some w.heap.size) := by
  obtain ⟨v', w', hrun, h1, h2, h3⟩ := run_app w (ty := ty) ht hinfo hzs (by omega) ho.row hr.row.reads hr.ones hb hm
  have hlt1 : ∀ i (hi : i < ls.length) k, ls[i].1.ownBlock = some k → k < w.heap.size := fun i hi k hk => (ho.each i hi).lt k hk
  have hlt2 : ∀ i (hi : i < ms.length) k, ms[i].1.ownBlock = some k → k < w.heap.size := fun i hi k hk => (hr.each i hi).lt k hk
  have hf1 : ∀ i (hi : i < ls.length) k, ls[i].1.ownBlock = some k → F k := fun i hi k hk => (ho.each i hi).fit k hk
  have hf2 : ∀ i (hi : i < ms.length) k, ms[i].1.ownBlock = some k → F2 k := fun i hi k hk => (hr.each i hi).fit k hk
  refine ⟨v', w', hrun, ⟨?_, fun i hi => ?_, fun i j hi hj hij k hik hjk => ?_, fun i hi k hk hik => ?_⟩, h2, h3⟩
  · have := h1.wide (G := fun k => F k ∨ F2 k ∨ Iv w.heap.size w'.heap.size k) (fun k _ h => by
      rcases h with h | h
      · exact .inl h
      · exact .inr (.inr h))
    simpa using this
  · rw [List.length_append] at hi
    by_cases h : i < ls.length
    · rw [List.getElem_append_left h]
      exact ((ho.each i h).keepB h2 (fun k hk hk2 => ho.out i h k hk2 hk)).wide (fun k _ h => .inl h)
    · rw [List.getElem_append_right (by omega)]
      exact ((hr.each (i - ls.length) (by omega)).keepB h2 (fun k hk hk2 => hd k (ho.row.fit k hk2) (hf2 _ (by omega) k hk))).wide (fun k _ h => .inr (.inl h))
  · rw [List.length_append] at hi hj
    by_cases h : i < ls.length <;> by_cases h' : j < ls.length
    · rw [List.getElem_append_left h] at hik
      rw [List.getElem_append_left h'] at hjk
      exact ho.apart i j h h' hij k hik hjk
    · rw [List.getElem_append_left h] at hik
      rw [List.getElem_append_right (by omega)] at hjk
      exact hd k (hf1 i h k hik) (hf2 _ (by omega) k hjk)
    · rw [List.getElem_append_right (by omega)] at hik
      rw [List.getElem_append_left h'] at hjk
      exact hd k (hf1 j h' k hjk) (hf2 _ (by omega) k hik)
    · rw [List.getElem_append_right (by omega)] at hik hjk
      exact hr.apart _ _ (by omega) (by omega) (by omega) k hik hjk
  · rw [List.length_append] at hi
    by_cases h : i < ls.length
    · rw [List.getElem_append_left h] at hik
      rcases h3 with h3 | h3
      · exact ho.out i h k (by rw [← h3]; exact hk) hik
      · rw [h3] at hk
        injection hk with hk
        have := hlt1 i h k hik
        omega
    · rw [List.getElem_append_right (by omega)] at hik
      rcases h3 with h3 | h3
      · exact hd k (ho.row.fit k (by rw [← h3]; exact hk)) (hf2 _ (by omega) k hik)
      · rw [h3] at hk
        injection hk with hk
        have := hlt2 _ (by omega) k hik
        omega
/-- one list is changed where it lies -/
theorem OwnL.upd (h : OwnL w T F v ls) (i : Nat) (hi : i < ls.length) {ys : List Int} (k : Kp (fun k => ls[i].1.ownBlock = some k) w w') (o : OwI w' F ls[i].1 ys) : OwnL w' T F v (ls.set i (ls[i].1, ys)) := by
  have hfst : (ls.set i (ls[i].1, ys)).map Prod.fst = ls.map Prod.fst := by
    rw [List.map_set]
    apply List.ext_getElem?
    intro j
    rw [List.getElem?_set]
    split
    · rename_i e
      subst e
      simp [hi]
    · rfl
  refine ⟨?_, fun j hj => ?_, fun a b ha hb hab m hm1 hm2 => ?_, fun a ha m hm1 hm2 => ?_⟩
  · rw [hfst, List.length_set]
    exact h.row.keepB k (fun m hm hm2 => h.out i hi m hm hm2)
  · rw [List.length_set] at hj
    rw [List.getElem_set]
    split
    · exact o
    · rename_i hne
      exact (h.each j hj).keepB k (fun m hm hm2 => h.apart i j hi hj hne m hm2 hm)
  · rw [List.length_set] at ha hb
    have e1 : ∀ j (hj : j < ls.length), ((ls.set i (ls[i].1, ys))[j]'(by simpa using hj)).1 = ls[j].1 := fun j hj => by
      rw [List.getElem_set]
      split
      · rename_i e; subst e; rfl
      · rfl
    rw [e1 a ha] at hm1
    rw [e1 b hb] at hm2
    exact h.apart a b ha hb hab m hm1 hm2
  · rw [List.length_set] at ha
    have e1 : ((ls.set i (ls[i].1, ys))[a]'(by simpa using ha)).1 = ls[a].1 := by
      rw [List.getElem_set]
      split
      · rename_i e; subst e; rfl
      · rfl
    rw [e1] at hm2
    exact h.out a ha m hm1 hm2
/-- another list is put in the place of one -/
theorem OwnL.put {g n cap : Nat} (h : OwnL w T F (.slice (some ⟨g, 0, none⟩) n cap) ls) (i : Nat) (hi : i < ls.length) {u : Value} {ys : List Int} (k : Kp (fun k => ls[i].1.ownBlock = some k) w w') (o : OwI w' G u ys)
    (hu : u.ownBlock = ls[i].1.ownBlock ∨ ∀ k, u.ownBlock = some k → w.heap.size ≤ k) (hG : ∀ k, F k → G k) : OwnL (w'.setCell ⟨g, i, none⟩ u) T G (.slice (some ⟨g, 0, none⟩) n cap) (ls.set i (u, ys)) := by
  have hn : n = ls.length := by
    obtain ⟨_, A, c, hv, _⟩ := h.row.reads
    injection hv
  have hgv : (Value.slice (some ⟨g, 0, none⟩) n cap).ownBlock = some g := rfl
  have hglt : g < w.heap.size := h.row.lt g rfl
  have hug : u.ownBlock ≠ some g := by
    intro e
    rcases hu with hu | hu
    · exact h.out i hi g rfl (by rw [← hu]; exact e)
    · have := hu g e
      omega
  have hua : ∀ j (hj : j < ls.length), i ≠ j → ∀ m, u.ownBlock = some m → ls[j].1.ownBlock ≠ some m := by
    intro j hj hij m hm hm2
    rcases hu with hu | hu
    · exact h.apart i j hi hj hij m (by rw [← hu]; exact hm) hm2
    · have := hu m hm
      have := (h.each j hj).lt m hm2
      omega
  have ks : Kp (fun k => k = g) w' (w'.setCell ⟨g, i, none⟩ u) := (Kp.refl (fun k => k = g) w').setCell (p := ⟨g, i, none⟩) (.inl rfl) u
  refine ⟨?_, fun j hj => ?_, fun a b ha hb hab m hm1 hm2 => ?_, fun a ha m hm1 hm2 => ?_⟩
  · subst hn
    have h1 := (h.row.keepB k (fun m hm hm2 => h.out i hi m hm hm2)).stored i u
    rw [List.length_set, List.map_set]
    exact h1.wide (fun m _ hm => hG m hm)
  · rw [List.length_set] at hj
    rw [List.getElem_set]
    split
    · exact o.keepB ks (fun m hm e => hug (by rw [← e]; exact hm))
    · rename_i hne
      exact (((h.each j hj).keepB k (fun m hm hm2 => h.apart i j hi hj hne m hm2 hm)).keepB ks (fun m hm e => h.out j hj g rfl (by rw [← e]; exact hm))).wide (fun m _ hm => hG m hm)
  · rw [List.length_set] at ha hb
    rw [List.getElem_set] at hm1 hm2
    split at hm1 <;> split at hm2
    · omega
    · exact hua b hb (by assumption) m hm1 hm2
    · exact hua a ha (by assumption) m hm2 hm1
    · exact h.apart a b ha hb hab m hm1 hm2
  · rw [List.length_set] at ha
    rw [List.getElem_set] at hm2
    split at hm2
    · rw [hgv] at hm1
      injection hm1 with hm1
      subst hm1
      exact hug hm2
    · exact h.out a ha m hm1 hm2
end
end Go.Proofs.Ythkbgbbejgpeaaa
