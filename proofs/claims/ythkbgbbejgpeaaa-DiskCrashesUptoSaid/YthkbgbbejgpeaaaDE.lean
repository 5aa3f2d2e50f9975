/- disk.Dirty: the plain law of its order. -/
import Derived.Test.YthkbgbbejgpeaaaDY
namespace Go.Proofs.Ythkbgbbejgpeaaa
open Go Go.RowKit
set_option maxRecDepth 100000

/-- the sectors with versions, in order -/
def dirtyD (d : Dk) : List Nat := (List.range d.n).filter fun i => !(d.ca i).isEmpty
theorem dirty_mem (d : Dk) (i : Nat) : i ∈ dirtyD d ↔ i < d.n ∧ d.ca i ≠ [] := by simp [dirtyD]
theorem dirty_sorted (d : Dk) : ((dirtyD d).map Int.ofNat).Pairwise fun x y => decide (x ≤ y) = true := by
  rw [List.pairwise_map]
  refine List.Pairwise.imp ?_ ((List.pairwise_lt_range (n := d.n)).filter _)
  intro a b hab
  simp only [decide_eq_true_eq]
  exact Int.ofNat_le.2 (Nat.le_of_lt hab)
theorem dirty_nodup (d : Dk) : ((dirtyD d).map Int.ofNat).Nodup := by
  rw [List.Nodup, List.pairwise_map]
  refine List.Pairwise.imp ?_ ((List.pairwise_lt_range (n := d.n)).filter _)
  intro a b hab e
  have : a = b := Int.ofNat_inj.1 e
  omega
/-- the sort of what the range gives, in whatever order -/
theorem dirty_sort (d : Dk) (ks : List Int) (hn : ks.Nodup) (hm : ∀ x, x ∈ ks ↔ x ∈ (dirtyD d).map Int.ofNat) : (ks.mergeSort fun x y => decide (x ≤ y)) = (dirtyD d).map Int.ofNat := by
  have hp : (ks.mergeSort fun x y => decide (x ≤ y)).Perm ((dirtyD d).map Int.ofNat) := (List.mergeSort_perm ks _).trans ((List.perm_ext_iff_of_nodup hn (dirty_nodup d)).2 hm)
  refine List.Perm.eq_of_pairwise (le := fun x y => decide (x ≤ y) = true) ?_ ?_ (dirty_sorted d) hp
  · intro a b _ _ h1 h2
    simp only [decide_eq_true_eq] at h1 h2
    omega
  · exact List.pairwise_mergeSort (by intro a b c h1 h2; simp only [decide_eq_true_eq] at *; omega) (by intro a b; simp only [Bool.or_eq_true, decide_eq_true_eq]; omega) ks
end Go.Proofs.Ythkbgbbejgpeaaa
