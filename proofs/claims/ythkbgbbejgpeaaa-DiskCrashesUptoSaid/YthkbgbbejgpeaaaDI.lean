/- disk.Image: what it lays. -/
import Derived.Test.YthkbgbbejgpeaaaDG
namespace Go.Proofs.Ythkbgbbejgpeaaa
open Go Go.RowKit
set_option maxRecDepth 100000

/-- ys laid over xs from place i on -/
def patch {α : Type} : List α → Nat → List α → List α
  | xs, _, [] => xs
  | xs, i, y :: r => patch (xs.set i y) (i + 1) r
theorem patch_length {α : Type} : ∀ (ys xs : List α) (i : Nat), (patch xs i ys).length = xs.length
  | [], xs, i => rfl
  | y :: r, xs, i => by rw [patch, patch_length r]; simp
theorem patch_mid {α : Type} : ∀ (ys a b c : List α), b.length = ys.length → patch (a ++ b ++ c) a.length ys = a ++ ys ++ c
  | [], a, b, c, hb => by
    obtain rfl : b = [] := List.eq_nil_of_length_eq_zero hb
    rfl
  | y :: r, a, [], c, hb => by simp at hb
  | y :: r, a, x :: b, c, hb => by
    rw [patch]
    have h1 : (a ++ x :: b ++ c).set a.length y = (a ++ [y]) ++ b ++ c := by
      simp
    rw [h1]
    have := patch_mid r (a ++ [y]) b c (by simpa using hb)
    rw [List.length_append, List.length_singleton] at this
    rw [this]
    simp
theorem bvs_put (xs : List UInt8) (i : Nat) (y : UInt8) : bvs (xs.set i y) = (bvs xs).set i (bv y) := by simp [bvs]
theorem OwB.laidOver {e g n cap : Nat} {F : Nat → Prop} : ∀ (ys : List UInt8) (i : Nat) (w : World) (xs : List UInt8), OwC w e 1 F (.slice (some ⟨g, 0, none⟩) n cap) n (bvs xs) → OwC (w.setCells g i (bvs ys)) e 1 F (.slice (some ⟨g, 0, none⟩) n cap) n (bvs (patch xs i ys))
  | [], _, _, _, h => h
  | y :: r, i, w, xs, h => by
    have h1 := h.stored i (bv y)
    rw [← bvs_put] at h1
    exact OwB.laidOver r (i + 1) _ _ h1
/-- a sector in an image -/
def rowI (d : Dk) (i : Nat) : List UInt8 := if d.to i then 1 :: List.replicate 128 0 else 0 :: d.du i
theorem rowI_len (d : Dk) (i : Nat) (h : (d.du i).length = 128) : (rowI d i).length = 129 := by
  unfold rowI
  split <;> simp [h]
/-- the image behind j rounds -/
def imgI (d : Dk) (j : Nat) : List UInt8 := (List.range j).flatMap (rowI d) ++ List.replicate ((d.n - j) * 129) 0
def imageD (d : Dk) : List UInt8 := (List.range d.n).flatMap (rowI d)
theorem imgI_end (d : Dk) : imgI d d.n = imageD d := by simp [imgI, imageD]
theorem head_len (d : Dk) (hl : ∀ i, i < d.n → (d.du i).length = 128) : ∀ j, j ≤ d.n → ((List.range j).flatMap (rowI d)).length = j * 129
  | 0, _ => rfl
  | j + 1, hj => by
    rw [List.range_succ, List.flatMap_append, List.length_append, head_len d hl j (by omega)]
    simp [rowI_len d j (hl j (by omega))]
    omega
theorem imgI_len (d : Dk) (hl : ∀ i, i < d.n → (d.du i).length = 128) (j : Nat) (hj : j ≤ d.n) : (imgI d j).length = d.n * 129 := by
  rw [imgI, List.length_append, head_len d hl j hj, List.length_replicate]
  omega
theorem imgI_split (d : Dk) (j : Nat) (hj : j < d.n) : imgI d j = (List.range j).flatMap (rowI d) ++ (0 :: List.replicate 128 0) ++ List.replicate ((d.n - (j + 1)) * 129) 0 := by
  rw [imgI, List.append_assoc]
  congr 1
  have : (d.n - j) * 129 = 129 + (d.n - (j + 1)) * 129 := by omega
  rw [this, ← List.replicate_append_replicate]
  rfl
theorem imgI_succ (d : Dk) (j : Nat) : imgI d (j + 1) = (List.range j).flatMap (rowI d) ++ rowI d j ++ List.replicate ((d.n - (j + 1)) * 129) 0 := by
  rw [imgI, List.range_succ, List.flatMap_append]
  simp
theorem imgI_torn (d : Dk) (hl : ∀ i, i < d.n → (d.du i).length = 128) (j : Nat) (hj : j < d.n) (ht : d.to j = true) : (imgI d j).set (j * 129) 1 = imgI d (j + 1) := by
  rw [imgI_split d j hj, imgI_succ, rowI, if_pos ht, List.append_assoc, List.append_assoc]
  have := head_len d hl j (by omega)
  rw [List.set_append, if_neg (by omega), this, Nat.sub_self]
  rfl
theorem imgI_good (d : Dk) (hl : ∀ i, i < d.n → (d.du i).length = 128) (j : Nat) (hj : j < d.n) (ht : d.to j = false) : patch (imgI d j) (j * 129 + 1) (d.du j) = imgI d (j + 1) := by
  rw [imgI_split d j hj, imgI_succ, rowI, if_neg (by simp [ht])]
  have h1 := head_len d hl j (by omega)
  have := patch_mid (d.du j) ((List.range j).flatMap (rowI d) ++ [0]) (List.replicate 128 0) (List.replicate ((d.n - (j + 1)) * 129) 0) (by simp [hl j hj])
  rw [List.length_append, h1, List.length_singleton] at this
  have e : (List.range j).flatMap (rowI d) ++ (0 :: List.replicate 128 0) = (List.range j).flatMap (rowI d) ++ [0] ++ List.replicate 128 0 := by simp
  rw [e, this]
  simp
end Go.Proofs.Ythkbgbbejgpeaaa
