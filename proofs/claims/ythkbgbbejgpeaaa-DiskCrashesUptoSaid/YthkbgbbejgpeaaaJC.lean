/- What a crash leaves, sector by sector: the plain law. -/
import Derived.Test.YthkbgbbejgpeaaaJX
namespace Go.Proofs.Ythkbgbbejgpeaaa
open Go Go.RowKit
set_option maxRecDepth 100000

/-- how many dirty sectors there are below j -/
def rankD (d : Dk) (j : Nat) : Nat := ((List.range j).filter fun i => !(d.ca i).isEmpty).length
theorem rank_succ (d : Dk) (j : Nat) : rankD d (j + 1) = rankD d j + (if d.ca j = [] then 0 else 1) := by
  unfold rankD
  rw [List.range_succ, List.filter_append, List.length_append]
  congr 1
  by_cases h : d.ca j = []
  · simp [h]
  · simp [h]
theorem rank_end (d : Dk) : rankD d d.n = (dirtyD d).length := rfl
theorem rank_at (d : Dk) (j : Nat) (hj : j < d.n) (hc : d.ca j ≠ []) : (dirtyD d).getD (rankD d j) 0 = j := by
  have e : List.range d.n = List.range j ++ (j :: (List.range (d.n - (j + 1))).map (j + 1 + ·)) := by
    have h1 : d.n = j + (1 + (d.n - (j + 1))) := by omega
    conv => lhs; rw [h1, List.range_add]
    congr 1
    rw [List.range_add, List.map_append]
    simp [List.map_map, Function.comp_def, Nat.add_assoc]
  unfold dirtyD
  rw [e, List.filter_append, List.filter_cons]
  rw [if_pos (by simpa using hc)]
  rw [List.getD_eq_getElem?_getD, List.getElem?_append_right (by unfold rankD; omega)]
  simp [rankD]
/-- what becomes of a sector -/
def effD (d : Dk) (j : Nat) (c : Int) : List UInt8 × Bool := if d.ca j = [] ∨ c = 0 then (d.du j, d.to j) else if 0 < c ∧ c ≤ (d.ca j).length then ((d.ca j).getD (c.toNat - 1) [], false) else (zsec, true)
theorem crash1_ne (d : Dk) (i j : Nat) (c : Int) (h : j ≠ i) : (crash1 d i c).du j = d.du j ∧ (crash1 d i c).to j = d.to j := by
  unfold crash1
  split
  · exact ⟨rfl, rfl⟩
  · split <;> simp [settleD, upd_ne _ _ h]
theorem crash1_eq (d : Dk) (i : Nat) (c : Int) (h : d.ca i ≠ []) : ((crash1 d i c).du i, (crash1 d i c).to i) = effD d i c := by
  unfold crash1 effD
  by_cases h0 : c = 0
  · simp [h0]
  · have hne : ¬ (d.ca i = [] ∨ c = 0) := by rintro (e | e); exact h e; exact h0 e
    by_cases hp : 0 < c ∧ c ≤ (d.ca i).length
    · simp only [if_neg h0, if_neg hne, if_pos hp, settleD, upd_same]
    · simp only [if_neg h0, if_neg hne, if_neg hp, settleD, upd_same]
theorem effD_cong (d d' : Dk) (i : Nat) (c : Int) (h1 : d'.ca = d.ca) (h2 : d'.du i = d.du i) (h3 : d'.to i = d.to i) : effD d' i c = effD d i c := by
  unfold effD
  rw [h1, h2, h3]
theorem crashI_at (d : Dk) (ch : List Int) : ∀ m, m ≤ d.n → ∀ j, j < d.n → ((crashI d ch (rankD d m)).du j, (crashI d ch (rankD d m)).to j) = if j < m then effD d j (ch.getD (rankD d j) 0) else (d.du j, d.to j)
  | 0, _, j, _ => by
    have : rankD d 0 = 0 := rfl
    rw [this]
    simp [crashI]
  | m + 1, hm, j, hj => by
    have ih := crashI_at d ch m (by omega)
    rw [rank_succ]
    by_cases hc : d.ca m = []
    · rw [if_pos hc, Nat.add_zero, ih j hj]
      by_cases hjm : j < m
      · rw [if_pos hjm, if_pos (by omega)]
      · rw [if_neg hjm]
        by_cases hje : j = m
        · subst hje
          rw [if_pos (by omega), effD, if_pos (.inl hc)]
        · rw [if_neg (by omega)]
    · rw [if_neg hc, crashI, rank_at d m (by omega) hc]
      by_cases hje : j = m
      · subst hje
        have hk := ih j hj
        rw [if_neg (by omega)] at hk
        injection hk with hk1 hk2
        rw [crash1_eq _ _ _ (by rw [crashI_ca]; exact hc), effD_cong d _ j _ (crashI_ca d ch _) hk1 hk2, if_pos (by omega)]
      · have hk := ih j hj
        obtain ⟨e1, e2⟩ := crash1_ne (crashI d ch (rankD d m)) m j (ch.getD (rankD d m) 0) hje
        rw [e1, e2, hk]
        by_cases hjm : j < m
        · rw [if_pos hjm, if_pos (by omega)]
        · rw [if_neg hjm, if_neg (by omega)]
/-- what a crash leaves -/
theorem crash_at (d : Dk) (ch : List Int) (j : Nat) (hj : j < d.n) : ((crashD d ch).du j, (crashD d ch).to j) = effD d j (ch.getD (rankD d j) 0) := by
  have := crashI_at d ch d.n (Nat.le_refl _) j hj
  rw [if_pos hj, rank_end] at this
  exact this
theorem crashD_n (d : Dk) (ch : List Int) : (crashD d ch).n = d.n := crashI_n d ch _
theorem crashD_ca (d : Dk) (ch : List Int) : (crashD d ch).ca = fun _ => [] := rfl
theorem crashD_off (d : Dk) (ch : List Int) : (crashD d ch).off = false ∧ (crashD d ch).fuse = -1 := ⟨rfl, rfl⟩
/-- what is unreadable is zeros, and each text has its length -/
def OkD (d : Dk) : Prop := ∀ i, i < d.n → d.to i = true → d.du i = zsec
theorem newD_ok (n : Nat) : OkD (newD n) := fun i _ h => by cases h
theorem crash_ok (d : Dk) (ch : List Int) (h : OkD d) : OkD (crashD d ch) := by
  intro i hi ht
  rw [crashD_n] at hi
  have := crash_at d ch i hi
  unfold effD at this
  split at this
  · injection this with h1 h2
    rw [h1]
    exact h i hi (by rw [← h2]; exact ht)
  · split at this
    · injection this with h1 h2
      rw [ht] at h2
      cases h2
    · injection this with h1 h2
theorem goes_ok {d : Dk} (h : OkD d) : OkD (goesD d).2 ∧ (goesD d).2.n = d.n ∧ (goesD d).2.du = d.du ∧ (goesD d).2.to = d.to ∧ (goesD d).2.ca = d.ca := by
  unfold goesD
  split
  · exact ⟨h, rfl, rfl, rfl, rfl⟩
  · split
    · exact ⟨h, rfl, rfl, rfl, rfl⟩
    · split
      · exact ⟨h, rfl, rfl, rfl, rfl⟩
      · exact ⟨h, rfl, rfl, rfl, rfl⟩
theorem goes_n (d : Dk) : (goesD d).2.n = d.n := by unfold goesD; split; rfl; split; rfl; split <;> rfl
theorem goes_du (d : Dk) : (goesD d).2.du = d.du := by unfold goesD; split; rfl; split; rfl; split <;> rfl
theorem goes_to (d : Dk) : (goesD d).2.to = d.to := by unfold goesD; split; rfl; split; rfl; split <;> rfl
theorem goes_ca (d : Dk) : (goesD d).2.ca = d.ca := by unfold goesD; split; rfl; split; rfl; split <;> rfl
theorem write_n (d : Dk) (i : Int) (xs : List UInt8) : (writeD d i xs).2.n = d.n := by unfold writeD; split; rfl; split <;> exact goes_n d
theorem write_du (d : Dk) (i : Int) (xs : List UInt8) : (writeD d i xs).2.du = d.du ∧ (writeD d i xs).2.to = d.to := by unfold writeD; split; exact ⟨rfl, rfl⟩; split <;> exact ⟨goes_du d, goes_to d⟩
theorem write_ok {d : Dk} (i : Int) (xs : List UInt8) (h : OkD d) : OkD (writeD d i xs).2 := by
  intro j hj ht
  rw [write_n] at hj
  rw [(write_du d i xs).2] at ht
  rw [(write_du d i xs).1]
  exact h j hj ht
theorem flush_n (d : Dk) : (flushD d).2.n = d.n := by unfold flushD; split <;> exact goes_n d
theorem flush_ok {d : Dk} (h : OkD d) : OkD (flushD d).2 := by
  unfold flushD
  split
  · exact (goes_ok h).1
  · intro j hj ht
    obtain ⟨h0, hn, hd, htt, hc⟩ := goes_ok h
    simp only [bareD, flushI] at hj ht ⊢
    split at ht
    · cases ht
    · rename_i hcond
      rw [if_neg hcond]
      exact h0 j hj ht
theorem cut_ok {d : Dk} (n : Int) (h : OkD d) : OkD (cutD d n) := by
  unfold cutD
  split <;> exact h
theorem cut_n (d : Dk) (n : Int) : (cutD d n).n = d.n := by unfold cutD; split <;> rfl
theorem flush_at (d : Dk) (j : Nat) (hg : (goesD d).1 = true) (hj : j < d.n) : (flushD d).2.du j = (d.ca j).getLast?.getD (d.du j) ∧ (flushD d).2.to j = (if d.ca j = [] then d.to j else false) := by
  unfold flushD
  rw [if_neg (by simp [hg])]
  simp only [bareD, flushI, goes_n, goes_ca, goes_du, goes_to]
  by_cases hc : d.ca j = []
  · simp [hc]
  · rw [if_pos ⟨hj, hc, trivial⟩, if_pos ⟨hj, hc, trivial⟩, if_neg hc]
    refine ⟨?_, rfl⟩
    rcases hl : (d.ca j).getLast? with _ | x
    · exact absurd (List.getLast?_eq_none_iff.1 hl) hc
    · rfl
end Go.Proofs.Ythkbgbbejgpeaaa
