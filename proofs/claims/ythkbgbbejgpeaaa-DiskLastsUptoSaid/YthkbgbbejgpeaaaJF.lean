/- DiskFresh: the plain law, and what the call does. -/
import Derived.Test.YthkbgbbejgpeaaaJE
namespace Go.Proofs.Ythkbgbbejgpeaaa
open Go Go.RowKit
set_option maxRecDepth 100000

theorem Gr.avoid {w w' : World} {F F' : Nat → Prop} {b : Nat} (h : Gr w w' F F') (hb : b < w.heap.size) (hn : ¬ F b) : ¬ F' b := fun x => by
  rcases h b x with h | h
  · exact hn h
  · have := h.1; omega
theorem Gr.ge {w w' : World} {F F' : Nat → Prop} {lo : Nat} (h : Gr w w' F F') (hl : ∀ x, F x → lo ≤ x) (hw : lo ≤ w.heap.size) : ∀ x, F' x → lo ≤ x := fun x hx => by
  rcases h x hx with h | h
  · exact hl x h
  · have := h.1; omega
theorem Gr.lt {w w' : World} {F F' : Nat → Prop} (h : Gr w w' F F') (hl : ∀ x, F x → x < w.heap.size) (hw : w.heap.size ≤ w'.heap.size) : ∀ x, F' x → x < w'.heap.size := fun x hx => by
  rcases h x hx with h | h
  · have := hl x h; omega
  · exact h.2
/-- a row written over from its head -/
def overB (c : UInt8) (q : Nat) (xs : List UInt8) : List UInt8 := List.replicate q c ++ xs.drop q
theorem over_len (c : UInt8) (q : Nat) (xs : List UInt8) (h : q ≤ xs.length) : (overB c q xs).length = xs.length := by simp [overB]; omega
theorem over_set (c : UInt8) (q : Nat) (xs : List UInt8) (h : q < xs.length) : (overB c q xs).set q c = overB c (q + 1) xs := by
  unfold overB
  rw [List.set_append, if_neg (by simp), List.drop_eq_getElem_cons h]
  simp only [List.length_replicate, Nat.sub_self, List.set_cons_zero]
  rw [List.replicate_succ', List.append_assoc]
  rfl
theorem over_end (c : UInt8) (xs : List UInt8) : overB c xs.length xs = List.replicate xs.length c := by simp [overB]
theorem over_zero (c : UInt8) (xs : List UInt8) : overB c 0 xs = xs := by simp [overB]
/-- behind the crash -/
theorem fresh_law (n i : Nat) (hn : i + 2 ≤ n) (X C : List UInt8) (hX : X.length = 128) (hC : C.length = 128) (z : Nat) (hz : z ≤ 1) :
    ∃ d1 d2 d3, writeD (newD n) (i : Int) X = (0, d1) ∧ writeD d1 ((i : Int) + 1) C = (0, d2) ∧ crashD d2 [1, (z : Int)] = d3 ∧ d3.n = n ∧ readD d3 (i : Int) = (X, 0) ∧ readD d3 ((i : Int) + 1) = (if z = 1 then C else zsec, 0) := by
  have w1 := write_yes (newD n) i X (by show i < n; omega) hX rfl rfl
  have w2 := write_yes ({ newD n with ca := upd (newD n).ca i ((newD n).ca i ++ [X]) }) (i + 1) C (by show i + 1 < n; omega) hC rfl rfl
  refine ⟨_, _, _, w1, w2, rfl, crashD_n _ _, ?_, ?_⟩
  · have h := crash_at ({ newD n with ca := upd (upd (newD n).ca i ((newD n).ca i ++ [X])) (i + 1) (upd (newD n).ca i ((newD n).ca i ++ [X]) (i + 1) ++ [C]) }) [1, (z : Int)] i (by show i < n; omega)
    have hr : rankD ({ newD n with ca := upd (upd (newD n).ca i ((newD n).ca i ++ [X])) (i + 1) (upd (newD n).ca i ((newD n).ca i ++ [X]) (i + 1) ++ [C]) }) i = 0 := by
      unfold rankD
      rw [List.length_eq_zero_iff, List.filter_eq_nil_iff]
      intro j hj
      have hj : j < i := by simpa using hj
      simp [upd_ne _ _ (by omega : j ≠ i + 1), upd_ne _ _ (by omega : j ≠ i), newD]
    rw [hr] at h
    have hca : upd (upd (newD n).ca i ((newD n).ca i ++ [X])) (i + 1) (upd (newD n).ca i ((newD n).ca i ++ [X]) (i + 1) ++ [C]) i = [X] := by
      rw [upd_ne _ _ (by omega), upd_same]; rfl
    simp only [effD, hca] at h
    rw [if_neg (by simp), if_pos (by simp)] at h
    injection h with h1 h2
    rw [read_plain _ i (by rw [crashD_n]; show i < n; omega) rfl rfl, h1, h2]
    simp
  · have h := crash_at ({ newD n with ca := upd (upd (newD n).ca i ((newD n).ca i ++ [X])) (i + 1) (upd (newD n).ca i ((newD n).ca i ++ [X]) (i + 1) ++ [C]) }) [1, (z : Int)] (i + 1) (by show i + 1 < n; omega)
    have hr : rankD ({ newD n with ca := upd (upd (newD n).ca i ((newD n).ca i ++ [X])) (i + 1) (upd (newD n).ca i ((newD n).ca i ++ [X]) (i + 1) ++ [C]) }) (i + 1) = 1 := by
      rw [rank_succ]
      have : rankD ({ newD n with ca := upd (upd (newD n).ca i ((newD n).ca i ++ [X])) (i + 1) (upd (newD n).ca i ((newD n).ca i ++ [X]) (i + 1) ++ [C]) }) i = 0 := by
        unfold rankD
        rw [List.length_eq_zero_iff, List.filter_eq_nil_iff]
        intro j hj
        have hj : j < i := by simpa using hj
        simp [upd_ne _ _ (by omega : j ≠ i + 1), upd_ne _ _ (by omega : j ≠ i), newD]
      rw [this, if_neg]
      show ¬ (upd (upd (newD n).ca i ((newD n).ca i ++ [X])) (i + 1) _ i = [])
      rw [upd_ne _ _ (by omega), upd_same]
      simp
    rw [hr] at h
    have hca : upd (upd (newD n).ca i ((newD n).ca i ++ [X])) (i + 1) (upd (newD n).ca i ((newD n).ca i ++ [X]) (i + 1) ++ [C]) (i + 1) = [C] := by
      rw [upd_same, upd_ne _ _ (by omega)]; rfl
    simp only [effD, hca] at h
    rw [show ((i : Int) + 1) = ((i + 1 : Nat) : Int) by omega, read_plain _ (i + 1) (by rw [crashD_n]; show i + 1 < n; omega) rfl rfl]
    by_cases hz1 : z = 1
    · subst hz1
      rw [if_neg (by simp), if_pos (by simp)] at h
      injection h with h1 h2
      rw [h1, h2]
      simp
    · obtain rfl : z = 0 := by omega
      rw [if_pos (by simp)] at h
      injection h with h1 h2
      rw [h1, h2]
      simp [newD]
/-- the first row written over with zeros -/
theorem zero_first (n : Nat) (h1 : 1 ≤ n) (R : Nat → List UInt8) (h : ∀ i, i < n → (R i).length = 129) : overB 0 129 ((List.range n).flatMap R) = (List.range n).flatMap fun j => if j = 0 then List.replicate 129 0 else R j := by
  obtain ⟨m, rfl⟩ : ∃ m, n = m + 1 := ⟨n - 1, by omega⟩
  unfold overB
  rw [List.range_succ_eq_map, List.flatMap_cons, List.flatMap_cons, if_pos rfl]
  congr 1
  have := h 0 (by omega)
  rw [List.drop_append, List.drop_eq_nil_of_le (by omega), this]
  simp [List.flatMap_map]
theorem fresh_image (d : Dk) (h1 : 1 ≤ d.n) (h2 : d.n ≤ 65536) (hl : ∀ i, i < d.n → (d.du i).length = 128) : ∃ dk, loadD (overB 0 129 (imageD d)) = some dk := by
  obtain ⟨dk, h, -⟩ := load_rows d.n h1 h2 (fun j => if j = 0 then false else d.to j) (fun j => if j = 0 ∨ d.to j = true then zsec else d.du j) (fun i hi => by
    split
    · exact zsec_len
    · exact hl i hi) (fun i hi ht => by
    by_cases hi0 : i = 0
    · simp [hi0]
    · simp [hi0] at ht
      simp [ht])
  refine ⟨dk, ?_⟩
  unfold imageD
  rw [zero_first d.n h1 _ (fun i hi => rowI_len d i (hl i hi)), ← h]
  congr 1
  refine rows_cong d.n (fun j _ => ?_)
  by_cases hj : j = 0
  · simp [hj, zsec, List.replicate]
  · by_cases ht : d.to j = true
    · simp [hj, ht, rowI, zsec]
    · simp [hj, ht, rowI]
end Go.Proofs.Ythkbgbbejgpeaaa
