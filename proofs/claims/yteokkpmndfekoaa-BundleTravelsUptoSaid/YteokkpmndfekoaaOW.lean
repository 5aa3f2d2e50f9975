/- Lists of lists of bytes of the call's own: no two share memory. -/
import Derived.Test.YteokkpmndfekoaaB0
namespace Go.Proofs.Yteokkpmndfekoaa
open Go Go.RowKit
set_option maxRecDepth 100000

theorem OwC.keepB {w w' : World} {e size n : Nat} {F : Nat → Prop} {v : Value} {cs : List Value} (h : OwC w e size F v n cs) {S : Nat → Prop} (k : Kp S w w') (hs : ∀ i, v.ownBlock = some i → ¬ S i) : OwC w' e size F v n cs := by
  refine ⟨⟨h.own.1, ?_⟩, h.fit⟩
  rcases h.own.2 with hn | ⟨g, cap, cur, rfl, hb, hgg, rest⟩
  · exact .inl hn
  · refine .inr ⟨g, cap, cur, rfl, hb, ?_, rest⟩
    rw [k.block g (Array.getElem?_eq_some_iff.1 hgg).1 (hs g rfl)]
    exact hgg
theorem OwB.keepB {w w' : World} {e : Nat} {F : Nat → Prop} {v : Value} {xs : List UInt8} (h : OwB w e F v xs) {S : Nat → Prop} (k : Kp S w w') (hs : ∀ i, v.ownBlock = some i → ¬ S i) : OwB w' e F v xs := OwC.keepB h k hs
theorem OwB.oneCell {w : World} {e : Nat} {F : Nat → Prop} {v : Value} {xs : List UInt8} (h : OwB w e F v xs) : v.oneCell' = true := by
  obtain ⟨A, c, rfl, _⟩ := h.readsB.form
  rfl
/-- rows of elements of different types share no block -/
theorem OwC.neT {w : World} {e1 e2 s1 s2 n1 n2 : Nat} {F1 F2 : Nat → Prop} {v1 v2 : Value} {cs1 cs2 : List Value} (h1 : OwC w e1 s1 F1 v1 n1 cs1) (h2 : OwC w e2 s2 F2 v2 n2 cs2) (he : e1 ≠ e2) : ∀ k, v1.ownBlock = some k → v2.ownBlock ≠ some k := by
  intro k hk hk2
  rcases h1.own.2 with ⟨rfl, _⟩ | ⟨g1, cap1, cur1, rfl, _, hg1, _⟩
  · simp [Value.ownBlock] at hk
  · rcases h2.own.2 with ⟨rfl, _⟩ | ⟨g2, cap2, cur2, rfl, _, hg2, _⟩
    · simp [Value.ownBlock] at hk2
    · simp only [Value.ownBlock, Option.some.injEq] at hk hk2
      subst hk
      subst hk2
      rw [hg1] at hg2
      injection hg2 with hg2
      injection hg2 with _ hg3
      exact he hg3
/-- v is a row of its own of slices (of the type T) that are rows of bytes of their own -/
structure Own2 (w : World) (T U : Nat) (F : Nat → Prop) (v : Value) (ls : List (Value × List UInt8)) : Prop where
  row : OwC w T 1 F v ls.length (ls.map Prod.fst)
  each : ∀ i (h : i < ls.length), OwB w U F ls[i].1 ls[i].2
  apart : ∀ i j (hi : i < ls.length) (hj : j < ls.length), i ≠ j → ∀ k, ls[i].1.ownBlock = some k → ls[j].1.ownBlock ≠ some k
  out : ∀ i (hi : i < ls.length) k, v.ownBlock = some k → ls[i].1.ownBlock ≠ some k
section
variable {w w' : World} {T U : Nat} {F G : Nat → Prop} {v : Value} {ls : List (Value × List UInt8)}
theorem Own2.nil (w : World) (T U : Nat) (F : Nat → Prop) : Own2 w T U F (.slice none 0 0) [] := ⟨OwC.nil w T 1 F, fun i h => by simp at h, fun i j h => by simp at h, fun i h => by simp at h⟩
theorem Own2.keep (h : Own2 w T U F v ls) {S : Nat → Prop} (k : Kp S w w') (hs : ∀ i, F i → ¬ S i) : Own2 w' T U F v ls :=
  ⟨h.row.keep k hs, fun i hi => (h.each i hi).keep k hs, h.apart, h.out⟩
theorem Own2.keepB (h : Own2 w T U F v ls) {S : Nat → Prop} (k : Kp S w w') (hs : ∀ i, v.ownBlock = some i → ¬ S i) (hl : ∀ j (hj : j < ls.length) i, ls[j].1.ownBlock = some i → ¬ S i) : Own2 w' T U F v ls :=
  ⟨h.row.keepB k hs, fun i hi => (h.each i hi).keepB k (hl i hi), h.apart, h.out⟩
theorem Own2.keepN (h : Own2 w T U F v ls) (k : KpN w w') : Own2 w' T U F v ls := h.keep k (fun _ _ x => x)
theorem Own2.wide (h : Own2 w T U F v ls) (hg : ∀ k, k < w.heap.size → F k → G k) : Own2 w T U G v ls :=
  ⟨h.row.wide hg, fun i hi => (h.each i hi).wide hg, h.apart, h.out⟩
theorem Own2.form (h : Own2 w T U F v ls) (hn : 0 < ls.length) : ∃ g cap, v = .slice (some ⟨g, 0, none⟩) ls.length cap ∧ F g ∧ ls.length ≤ cap := h.row.form hn
theorem Own2.cellAt {g n cap : Nat} (h : Own2 w T U F (.slice (some ⟨g, 0, none⟩) n cap) ls) (i : Nat) (hi : i < ls.length) : w.cell? ⟨g, i, none⟩ = some ls[i].1 := by
  have hn : n = ls.length := by
    obtain ⟨_, A, c, hv, _⟩ := h.row.reads
    injection hv
  subst hn
  rw [OwC.cellAt h.row i hi]
  simp [List.getElem?_eq_getElem hi]
theorem Own2.ones (h : Own2 w T U F v ls) : ∀ u ∈ ls.map Prod.fst, u.oneCell' = true := by
  intro u hu
  obtain ⟨x, hx, rfl⟩ := List.mem_map.1 hu
  obtain ⟨i, hi, rfl⟩ := List.mem_iff_getElem.1 hx
  exact (h.each i hi).oneCell
/-- lists onto lists -/
theorem run_app2 {P : Program} {t ty : TypeId} {z : Value} {bytes : Nat} (w : World) (ht : P.underlying t = some (.slice T)) (hinfo : (P.info? T).map (fun i => (i.zero, i.size, i.bytes)) = some (some z, 1, bytes)) (hzs : z.cells.size = 1)
    {F2 : Nat → Prop} {x : Value} {ms : List (Value × List UInt8)} (ho : Own2 w T U F v ls) (hr : Own2 w T U F2 x ms) (hd : ∀ k, F k → ¬ F2 k) (hb : (ls.length + ms.length) * bytes ≤ 140737488355328) (hm : ls.length + ms.length ≤ 140737488355328) :
    ∃ v' w', (Builtin.append_ #[t, t] ty #[v, x]).run P w = .ok v' w' ∧ Own2 w' T U (fun k => F k ∨ F2 k ∨ Iv w.heap.size w'.heap.size k) v' (ls ++ ms) ∧ Kp (fun k => v.ownBlock = some k) w w' := by
  obtain ⟨v', w', hrun, h1, h2, h3⟩ := run_app w (ty := ty) ht hinfo hzs (by omega) ho.row hr.row.reads hr.ones hb hm
  have hlt1 : ∀ i (hi : i < ls.length) k, ls[i].1.ownBlock = some k → k < w.heap.size := fun i hi k hk => (ho.each i hi).lt k hk
  have hlt2 : ∀ i (hi : i < ms.length) k, ms[i].1.ownBlock = some k → k < w.heap.size := fun i hi k hk => (hr.each i hi).lt k hk
  have hf1 : ∀ i (hi : i < ls.length) k, ls[i].1.ownBlock = some k → F k := fun i hi k hk => (ho.each i hi).fit k hk
  have hf2 : ∀ i (hi : i < ms.length) k, ms[i].1.ownBlock = some k → F2 k := fun i hi k hk => (hr.each i hi).fit k hk
  refine ⟨v', w', hrun, ⟨?_, fun i hi => ?_, fun i j hi hj hij k hik hjk => ?_, fun i hi k hk hik => ?_⟩, h2⟩
  · have := h1.wide (G := fun k => F k ∨ F2 k ∨ Iv w.heap.size w'.heap.size k) (fun k _ h => by
      rcases h with h | h
      · exact .inl h
      · exact .inr (.inr h))
    simpa using this
  · rw [List.length_append] at hi
    by_cases h : i < ls.length
    · rw [List.getElem_append_left h]
      exact ((ho.each i h).keepB h2 (fun k hk hk2 => ho.out i h k hk2 hk)).wide (fun k _ h => .inl h)
    · rw [List.getElem_append_right (by omega)]
      exact ((hr.each (i - ls.length) (by omega)).keepB h2 (fun k hk hk2 => hd k (ho.row.fit k hk2) (hf2 _ (by omega) k hk))).wide (fun k _ h => .inr (.inl h))
  · rw [List.length_append] at hi hj
    by_cases h : i < ls.length <;> by_cases h' : j < ls.length
    · rw [List.getElem_append_left h] at hik
      rw [List.getElem_append_left h'] at hjk
      exact ho.apart i j h h' hij k hik hjk
    · rw [List.getElem_append_left h] at hik
      rw [List.getElem_append_right (by omega)] at hjk
      exact hd k (hf1 i h k hik) (hf2 _ (by omega) k hjk)
    · rw [List.getElem_append_right (by omega)] at hik
      rw [List.getElem_append_left h'] at hjk
      exact hd k (hf1 j h' k hjk) (hf2 _ (by omega) k hik)
    · rw [List.getElem_append_right (by omega)] at hik hjk
      exact hr.apart _ _ (by omega) (by omega) (by omega) k hik hjk
  · rw [List.length_append] at hi
    by_cases h : i < ls.length
    · rw [List.getElem_append_left h] at hik
      rcases h3 with h3 | h3
      · exact ho.out i h k (by rw [← h3]; exact hk) hik
      · rw [h3] at hk
        injection hk with hk
        have := hlt1 i h k hik
        omega
    · rw [List.getElem_append_right (by omega)] at hik
      rcases h3 with h3 | h3
      · exact hd k (ho.row.fit k (by rw [← h3]; exact hk)) (hf2 _ (by omega) k hik)
      · rw [h3] at hk
        injection hk with hk
        have := hlt2 _ (by omega) k hik
        omega
/-- one list is changed where it lies -/
theorem Own2.upd (h : Own2 w T U F v ls) (i : Nat) (hi : i < ls.length) {ys : List UInt8} (k : Kp (fun k => ls[i].1.ownBlock = some k) w w') (o : OwB w' U F ls[i].1 ys) : Own2 w' T U F v (ls.set i (ls[i].1, ys)) := by
  have hfst : (ls.set i (ls[i].1, ys)).map Prod.fst = ls.map Prod.fst := by
    rw [List.map_set]
    apply List.ext_getElem?
    intro j
    rw [List.getElem?_set]
    split
    · rename_i e
      subst e
      simp [hi]
    · rfl
  refine ⟨?_, fun j hj => ?_, fun a b ha hb hab m hm1 hm2 => ?_, fun a ha m hm1 hm2 => ?_⟩
  · rw [hfst, List.length_set]
    exact h.row.keepB k (fun m hm hm2 => h.out i hi m hm hm2)
  · rw [List.length_set] at hj
    rw [List.getElem_set]
    split
    · exact o
    · rename_i hne
      exact (h.each j hj).keepB k (fun m hm hm2 => h.apart i j hi hj hne m hm2 hm)
  · rw [List.length_set] at ha hb
    have e1 : ∀ j (hj : j < ls.length), ((ls.set i (ls[i].1, ys))[j]'(by simpa using hj)).1 = ls[j].1 := fun j hj => by
      rw [List.getElem_set]
      split
      · rename_i e; subst e; rfl
      · rfl
    rw [e1 a ha] at hm1
    rw [e1 b hb] at hm2
    exact h.apart a b ha hb hab m hm1 hm2
  · rw [List.length_set] at ha
    have e1 : ((ls.set i (ls[i].1, ys))[a]'(by simpa using ha)).1 = ls[a].1 := by
      rw [List.getElem_set]
      split
      · rename_i e; subst e; rfl
      · rfl
    rw [e1] at hm2
    exact h.out a ha m hm1 hm2
/-- another list is put in the place of one -/
theorem Own2.put {g n cap : Nat} (h : Own2 w T U F (.slice (some ⟨g, 0, none⟩) n cap) ls) (i : Nat) (hi : i < ls.length) {u : Value} {ys : List UInt8} (k : Kp (fun k => ls[i].1.ownBlock = some k) w w') (o : OwB w' U G u ys)
    (hu : u.ownBlock = ls[i].1.ownBlock ∨ ∀ k, u.ownBlock = some k → w.heap.size ≤ k) (hG : ∀ k, F k → G k) : Own2 (w'.setCell ⟨g, i, none⟩ u) T U G (.slice (some ⟨g, 0, none⟩) n cap) (ls.set i (u, ys)) := by
  have hn : n = ls.length := by
    obtain ⟨_, A, c, hv, _⟩ := h.row.reads
    injection hv
  have hgv : (Value.slice (some ⟨g, 0, none⟩) n cap).ownBlock = some g := rfl
  have hglt : g < w.heap.size := h.row.lt g rfl
  have hug : u.ownBlock ≠ some g := by
    intro e
    rcases hu with hu | hu
    · exact h.out i hi g rfl (by rw [← hu]; exact e)
    · have := hu g e
      omega
  have hua : ∀ j (hj : j < ls.length), i ≠ j → ∀ m, u.ownBlock = some m → ls[j].1.ownBlock ≠ some m := by
    intro j hj hij m hm hm2
    rcases hu with hu | hu
    · exact h.apart i j hi hj hij m (by rw [← hu]; exact hm) hm2
    · have := hu m hm
      have := (h.each j hj).lt m hm2
      omega
  have ks : Kp (fun k => k = g) w' (w'.setCell ⟨g, i, none⟩ u) := (Kp.refl (fun k => k = g) w').setCell (p := ⟨g, i, none⟩) (.inl rfl) u
  refine ⟨?_, fun j hj => ?_, fun a b ha hb hab m hm1 hm2 => ?_, fun a ha m hm1 hm2 => ?_⟩
  · subst hn
    have h1 := (h.row.keepB k (fun m hm hm2 => h.out i hi m hm hm2)).stored i u
    rw [List.length_set, List.map_set]
    exact h1.wide (fun m _ hm => hG m hm)
  · rw [List.length_set] at hj
    rw [List.getElem_set]
    split
    · exact o.keepB ks (fun m hm e => hug (by rw [← e]; exact hm))
    · rename_i hne
      exact (((h.each j hj).keepB k (fun m hm hm2 => h.apart i j hi hj hne m hm2 hm)).keepB ks (fun m hm e => h.out j hj g rfl (by rw [← e]; exact hm))).wide (fun m _ hm => hG m hm)
  · rw [List.length_set] at ha hb
    rw [List.getElem_set] at hm1 hm2
    split at hm1 <;> split at hm2
    · omega
    · exact hua b hb (by assumption) m hm1 hm2
    · exact hua a ha (by assumption) m hm2 hm1
    · exact h.apart a b ha hb hab m hm1 hm2
  · rw [List.length_set] at ha
    rw [List.getElem_set] at hm2
    split at hm2
    · rw [hgv] at hm1
      injection hm1 with hm1
      subst hm1
      exact hug hm2
    · exact h.out a ha m hm1 hm2
end
/-- .. not yet in a row -/
structure OwL (w : World) (U : Nat) (F : Nat → Prop) (ls : List (Value × List UInt8)) : Prop where
  each : ∀ i (h : i < ls.length), OwB w U F ls[i].1 ls[i].2
  apart : ∀ i j (hi : i < ls.length) (hj : j < ls.length), i ≠ j → ∀ k, ls[i].1.ownBlock = some k → ls[j].1.ownBlock ≠ some k
theorem OwL.nil (w : World) (U : Nat) : OwL w U (fun _ => False) [] := ⟨fun i h => by simp at h, fun i j h => by simp at h⟩
theorem OwL.snoc {w : World} {U : Nat} {F G : Nat → Prop} {ls : List (Value × List UInt8)} {u : Value} {ys : List UInt8} (h : OwL w U F ls) (o : OwB w U G u ys) (hd : ∀ i, F i → ¬ G i) : OwL w U (fun i => F i ∨ G i) (ls ++ [(u, ys)]) := by
  refine ⟨fun i hi => ?_, fun i j hi hj hij k hik hjk => ?_⟩
  · simp only [List.length_append, List.length_cons, List.length_nil] at hi
    by_cases h1 : i < ls.length
    · rw [List.getElem_append_left h1]
      exact (h.each i h1).wide (fun _ _ x => .inl x)
    · obtain rfl : i = ls.length := by omega
      rw [List.getElem_append_right (by omega)]
      simp only [Nat.sub_self, List.getElem_cons_zero]
      exact o.wide (fun _ _ x => .inr x)
  · simp only [List.length_append, List.length_cons, List.length_nil] at hi hj
    by_cases h1 : i < ls.length <;> by_cases h2 : j < ls.length
    · rw [List.getElem_append_left h1] at hik
      rw [List.getElem_append_left h2] at hjk
      exact h.apart i j h1 h2 hij k hik hjk
    · obtain rfl : j = ls.length := by omega
      rw [List.getElem_append_left h1] at hik
      rw [List.getElem_append_right (by omega)] at hjk
      simp only [Nat.sub_self, List.getElem_cons_zero] at hjk
      exact hd k ((h.each i h1).fit k hik) (o.fit k hjk)
    · obtain rfl : i = ls.length := by omega
      rw [List.getElem_append_right (by omega)] at hik
      rw [List.getElem_append_left h2] at hjk
      simp only [Nat.sub_self, List.getElem_cons_zero] at hik
      exact hd k ((h.each j h2).fit k hjk) (o.fit k hik)
    · omega
/-- laid in a row -/
theorem OwL.lit {w : World} {T U : Nat} {F : Nat → Prop} {ls : List (Value × List UInt8)} (h : OwL w U F ls) (hm : ls.length ≤ 1000000) (cs : Array Value) (hc : cs = (ls.map Prod.fst).toArray) (n : Nat) (hn : n = ls.length) :
    Own2 (w.alloc (.cells cs T)) T U (fun i => F i ∨ Iv w.heap.size (w.heap.size + 1) i) (.slice (some ⟨w.heap.size, 0, none⟩) n n) ls := by
  subst hc hn
  have k := (Kp.refl (fun _ => False) w).alloc (.cells (ls.map Prod.fst).toArray T)
  have h1 := OwC.lit w T 1 ls.length (ls.map Prod.fst).toArray (by simp only [maxLen]; omega) (by simp)
  refine ⟨?_, fun i hi => ((h.each i hi).keepN k).wide (fun _ _ x => .inl x), h.apart, fun i hi m hm hm2 => ?_⟩
  · have := h1.wide (G := fun i => F i ∨ Iv w.heap.size (w.heap.size + 1) i) (fun _ _ x => .inr x)
    simpa using this
  · injection hm with hm
    subst hm
    have := (h.each i hi).lt _ hm2
    exact absurd this (by simp)
end Go.Proofs.Yteokkpmndfekoaa
