/- Images and what Load makes of them: the plain law. -/
import Derived.Test.YthkbgbbejgpeaaaDQ
namespace Go.Proofs.Ythkbgbbejgpeaaa
open Go Go.RowKit
set_option maxRecDepth 100000

theorem flatten_row {α : Type} (K : Nat) : ∀ (l : List (List α)) (i : Nat) (hi : i < l.length), (∀ a ∈ l, a.length = K) → (l.flatten.drop (i * K)).take K = l[i]
  | [], i, hi, _ => by simp at hi
  | a :: r, 0, _, h => by
    have := h a (by simp)
    simp [this]
  | a :: r, i + 1, hi, h => by
    have ha := h a (by simp)
    have ih := flatten_row K r i (by simpa using hi) (fun b hb => h b (by simp [hb]))
    rw [List.flatten_cons, List.drop_append, List.drop_eq_nil_of_le (by rw [ha, Nat.add_mul]; omega), List.nil_append, ha]
    rw [show (i + 1) * K - K = i * K by rw [Nat.add_mul]; omega]
    simpa using ih
theorem flatten_length {α : Type} (K : Nat) : ∀ (l : List (List α)), (∀ a ∈ l, a.length = K) → l.flatten.length = l.length * K
  | [], _ => by simp
  | a :: r, h => by
    rw [List.flatten_cons, List.length_append, flatten_length K r (fun b hb => h b (by simp [hb])), h a (by simp), List.length_cons, Nat.add_mul]
    omega
/-- rows of 129 bytes, one behind another -/
theorem rows_length (n : Nat) (R : Nat → List UInt8) (h : ∀ i, i < n → (R i).length = 129) : ((List.range n).flatMap R).length = n * 129 := by
  rw [List.flatMap_def, flatten_length 129 _ (by intro a ha; obtain ⟨i, hi, rfl⟩ := List.mem_map.1 ha; exact h i (by simpa using hi))]
  simp
theorem rows_row (n : Nat) (R : Nat → List UInt8) (h : ∀ i, i < n → (R i).length = 129) (i : Nat) (hi : i < n) : (((List.range n).flatMap R).drop (i * 129)).take 129 = R i := by
  rw [List.flatMap_def, flatten_row 129 _ i (by simpa using hi) (by intro a ha; obtain ⟨i, hi, rfl⟩ := List.mem_map.1 ha; exact h i (by simpa using hi))]
  simp
theorem img_row (img : List UInt8) (i n : Nat) (hi : i < n) (hl : img.length = n * 129) : (img.drop (i * 129)).take 129 = imgHead img i :: imgText img i := by
  have h1 : i * 129 < img.length := by omega
  rw [List.drop_eq_getElem_cons h1, List.take_succ_cons]
  congr 1
  simp [imgHead, h1]
theorem img_rows (img : List UInt8) (n : Nat) (hl : img.length = n * 129) : ∀ j, j ≤ n → (List.range j).flatMap (fun i => imgHead img i :: imgText img i) = img.take (j * 129)
  | 0, _ => by simp
  | j + 1, hj => by
    rw [List.range_succ, List.flatMap_append, img_rows img n hl j (by omega)]
    simp only [List.flatMap_cons, List.flatMap_nil, List.append_nil]
    rw [← img_row img j n (by omega) hl, show (j + 1) * 129 = j * 129 + 129 by omega, List.take_add]
theorem rows_cong (n : Nat) {R S : Nat → List UInt8} (h : ∀ i, i < n → R i = S i) : (List.range n).flatMap R = (List.range n).flatMap S := by
  rw [List.flatMap_def, List.flatMap_def]
  congr 1
  apply List.map_congr_left
  intro i hi
  exact h i (by simpa using hi)
theorem rowI_good (img : List UInt8) (n i : Nat) (hi : i < n) (hg : goodRow img i = true) : rowI (loadI img n n) i = imgHead img i :: imgText img i := by
  simp only [goodRow, Bool.or_eq_true, Bool.and_eq_true, decide_eq_true_eq] at hg
  unfold rowI loadI
  simp only [hi, if_true, decide_true, Bool.true_and, decide_eq_true_eq]
  rcases hg with h | ⟨h, ht⟩
  · rw [h]; simp
  · rw [h, ht]; simp [zsec]
theorem loadD_some {img : List UInt8} {dk : Dk} (h : loadD img = some dk) : dk = loadI img (img.length / 129) (img.length / 129) ∧ img.length = img.length / 129 * 129 ∧ 1 ≤ img.length / 129 ∧ img.length / 129 ≤ 65536 ∧ ∀ i, i < img.length / 129 → goodRow img i = true := by
  unfold loadD at h
  split at h
  · rename_i hc
    exact ⟨(Option.some.inj h).symm, by omega, hc.2.1, hc.2.2.1, hc.2.2.2⟩
  · cases h
/-- Image tells what Load took -/
theorem image_load {img : List UInt8} {dk : Dk} (h : loadD img = some dk) : imageD dk = img ∧ dk.n * 129 = img.length := by
  obtain ⟨rfl, hl, h1, h2, hg⟩ := loadD_some h
  generalize img.length / 129 = n at *
  refine ⟨?_, hl.symm⟩
  show (List.range n).flatMap (rowI (loadI img n n)) = img
  rw [rows_cong n (fun i hi => rowI_good img n i hi (hg i hi)), img_rows img n hl n (Nat.le_refl _), ← hl, List.take_length]
/-- what Load makes of rows that are good -/
theorem load_rows (n : Nat) (h1 : 1 ≤ n) (h2 : n ≤ 65536) (tn : Nat → Bool) (du : Nat → List UInt8) (hd : ∀ i, i < n → (du i).length = 128) (hz : ∀ i, i < n → tn i = true → du i = zsec) :
    ∃ dk, loadD ((List.range n).flatMap fun i => (if tn i then 1 else 0) :: du i) = some dk ∧ dk.n = n ∧ dk.ca = (fun _ => []) ∧ dk.off = false ∧ dk.fuse = -1 ∧ ∀ i, i < n → dk.to i = tn i ∧ dk.du i = du i := by
  have hR : ∀ i, i < n → ((if tn i then (1 : UInt8) else 0) :: du i).length = 129 := fun i hi => by simp [hd i hi]
  obtain ⟨img, hi⟩ : ∃ img, ((List.range n).flatMap fun i => (if tn i then (1 : UInt8) else 0) :: du i) = img := ⟨_, rfl⟩
  have hl := rows_length n _ hR
  have hr := rows_row n _ hR
  rw [hi] at hl hr
  have hq : img.length / 129 = n := by omega
  have hrow : ∀ i, i < n → imgHead img i = (if tn i then 1 else 0) ∧ imgText img i = du i := fun i hi => by
    have := (img_row img i n hi hl).symm.trans (hr i hi)
    injection this with a b
    exact ⟨a, b⟩
  rw [hi]
  refine ⟨loadI img n n, ?_, rfl, rfl, rfl, rfl, fun i hi => ?_⟩
  · unfold loadD
    rw [hq]
    refine if_pos ⟨by omega, h1, h2, fun i hi => ?_⟩
    simp only [goodRow, (hrow i hi).1, (hrow i hi).2]
    by_cases ht : tn i = true
    · simp [ht, hz i hi ht]
    · simp [ht]
  · simp only [loadI, hi, if_true, decide_true, Bool.true_and, (hrow i hi).1, (hrow i hi).2]
    refine ⟨?_, trivial⟩
    by_cases ht : tn i = true
    · simp [ht]
    · simp [ht]
/-- zeros with marks -/
def markB (n : Nat) (s : Nat → Bool) : List UInt8 := (List.range n).flatMap fun i => (if s i then 1 else 0) :: zsec
theorem markB_len (n : Nat) (s : Nat → Bool) : (markB n s).length = n * 129 := rows_length n _ (fun i _ => by simp [zsec_len])
theorem markB_zero (n : Nat) : markB n (fun _ => false) = List.replicate (n * 129) 0 := by
  induction n with
  | zero => rfl
  | succ n ih =>
    unfold markB at ih ⊢
    rw [List.range_succ, List.flatMap_append, ih, show (n + 1) * 129 = n * 129 + 129 by omega, ← List.replicate_append_replicate]
    rfl
theorem markB_head (n : Nat) (s : Nat → Bool) (i : Nat) (hi : i < n) : (markB n s)[i * 129]? = some (if s i then 1 else 0) := by
  have h1 := rows_row n (fun i => (if s i then (1 : UInt8) else 0) :: zsec) (fun i _ => by simp [zsec_len]) i hi
  have hlen := markB_len n s
  have h2 := congrArg (fun l => l[0]?) h1
  simpa [markB] using h2
theorem mark_set (n : Nat) (s : Nat → Bool) (i : Nat) (hi : i < n) : (markB n s).set (i * 129) 1 = markB n (upd s i true) := by
  have hl := markB_len n s
  have key : ∀ (m : Nat), m ≤ n → i < m → (markB m s).set (i * 129) 1 = markB m (upd s i true) := by
    intro m
    induction m with
    | zero => intro _ h; omega
    | succ m ih =>
      intro hm him
      have e : ∀ t : Nat → Bool, markB (m + 1) t = markB m t ++ ((if t m then 1 else 0) :: zsec) := fun t => by
        unfold markB
        rw [List.range_succ, List.flatMap_append]
        simp
      rw [e, e]
      by_cases h : i < m
      · rw [List.set_append, if_pos (by rw [markB_len]; omega), ih (by omega) h, upd_ne _ _ (by omega : m ≠ i)]
      · obtain rfl : i = m := by omega
        rw [List.set_append, if_neg (by rw [markB_len]; omega), markB_len, Nat.sub_self, upd_same]
        have : markB i s = markB i (upd s i true) := by
          unfold markB
          exact rows_cong i (fun j hj => by rw [upd_ne _ _ (by omega : j ≠ i)])
        rw [this]
        rfl
  exact key n (Nat.le_refl _) hi
end Go.Proofs.Ythkbgbbejgpeaaa
