/- Which turns lie within a datagram: by the lowest and the highest bit of the mask. No program stands in it. -/
import Derived.Test.YteokkpmndfekoaaDoorP5
import Derived.Lib.TrailingZeros
import Derived.Lib.ItoaNum
namespace Go.Proofs.YteokkpmndfekoaaDoor
open Go

/-- bit j of the mask, if it is there, is one of n bytes' -/
def bitIn (n : Nat) (at_ : Int) (mask j : Nat) : Bool := !(mask / 2 ^ j % 2 == 1) || (decide (-(j : Int) ≤ at_) && decide (at_ < 8 * (n : Int) - j))
/-- all are -/
def insideB (n : Nat) (at_ : Int) (mask : Nat) : Bool := (List.range 32).all (bitIn n at_ mask)
theorem inside_iff (n : Nat) (at_ : Int) (mask : Nat) : insideB n at_ mask = true ↔ ∀ j : Nat, j < 32 → mask / 2 ^ j % 2 = 1 → -(j : Int) ≤ at_ ∧ at_ < 8 * (n : Int) - j := by
  simp only [insideB, List.all_eq_true, List.mem_range, bitIn, Bool.or_eq_true, Bool.not_eq_true', beq_eq_false_iff_ne, Bool.and_eq_true, decide_eq_true_eq]
  constructor
  · intro h j hj hb
    exact (h j hj).resolve_left (fun h => h hb)
  · intro h j hj
    by_cases hb : mask / 2 ^ j % 2 = 1
    · exact .inr (h j hj hb)
    · exact .inl hb
theorem bit_low {x c m j : Nat} (hx : x = 2 ^ c * (2 * m + 1)) (h : x / 2 ^ j % 2 = 1) : c ≤ j := by
  apply Nat.le_of_not_lt
  intro hlt
  obtain ⟨d, rfl⟩ : ∃ d, c = j + (d + 1) := ⟨c - j - 1, by omega⟩
  have e : x = 2 ^ j * (2 * (2 ^ d * (2 * m + 1))) := by
    rw [hx, Nat.pow_add, Nat.pow_succ, Nat.mul_assoc, Nat.mul_assoc, Nat.mul_left_comm 2]
  rw [e, Nat.mul_div_cancel_left _ (Nat.two_pow_pos j)] at h
  omega
theorem bit_lowest {x c m : Nat} (hx : x = 2 ^ c * (2 * m + 1)) : x / 2 ^ c % 2 = 1 := by
  rw [hx, Nat.mul_div_cancel_left _ (Nat.two_pow_pos c)]
  omega
theorem bit_high {x b j : Nat} (hx : x < 2 ^ b) (h : x / 2 ^ j % 2 = 1) : j < b := by
  apply Nat.lt_of_not_le
  intro hle
  have : x < 2 ^ j := Nat.lt_of_lt_of_le hx (Nat.pow_le_pow_right (by omega) hle)
  rw [Nat.div_eq_of_lt this] at h
  omega
theorem bit_highest {x b : Nat} (h1 : 1 ≤ b) (h2 : 2 ^ (b - 1) ≤ x) (h3 : x < 2 ^ b) : x / 2 ^ (b - 1) % 2 = 1 := by
  obtain ⟨c, rfl⟩ : ∃ c, b = c + 1 := ⟨b - 1, by omega⟩
  simp only [Nat.add_sub_cancel] at h2 ⊢
  rw [Nat.pow_succ] at h3
  have : x / 2 ^ c = 1 := by
    apply Nat.div_eq_of_lt_le <;> omega
  omega
theorem bitLen_ends {x : Nat} (h0 : x ≠ 0) (hx : x < 4294967296) : 1 ≤ Lib.bitLen x ∧ Lib.bitLen x ≤ 32 ∧ 2 ^ (Lib.bitLen x - 1) ≤ x ∧ x < 2 ^ Lib.bitLen x := by
  obtain ⟨h1, h2, h3⟩ := Lib.bitLenAux_bounds 64 x (by omega) h0
  exact ⟨h1, Lib.bitLen_le x 32 (by omega) (by omega), h2, h3⟩
/-- the lowest bit and the highest one tell it -/
theorem inside_ends {n : Nat} {at_ : Int} {mask : Nat} (h0 : mask ≠ 0) (hx : mask < 4294967296) :
    insideB n at_ mask = true ↔ ¬ at_ < -(Lib.ctz 32 mask : Int) ∧ ¬ at_ > 8 * (n : Int) - 1 - ((Lib.bitLen mask : Int) - 1) := by
  obtain ⟨m, hm, hc⟩ := Lib.ctzFrom_spec 32 mask (by omega) (by omega)
  have e : Lib.ctz 32 mask = Lib.ctzFrom 32 mask := by simp [Lib.ctz, h0]
  obtain ⟨b1, b2, b3, b4⟩ := bitLen_ends h0 hx
  rw [inside_iff, e]
  constructor
  · intro h
    have l := h _ hc (bit_lowest hm)
    have u := h (Lib.bitLen mask - 1) (by omega) (bit_highest b1 b3 b4)
    omega
  · intro h j hj hb
    have l := bit_low hm hb
    have u := bit_high b4 hb
    omega
/-- so that it turns at least one bit -/
theorem inside_hits {n : Nat} {at_ : Int} {mask : Nat} (h0 : mask ≠ 0) (hx : mask < 4294967296) (h : insideB n at_ mask = true) : ∃ j, j < 32 ∧ hits n at_ mask j = true := by
  obtain ⟨m, hm, hc⟩ := Lib.ctzFrom_spec 32 mask (by omega) (by omega)
  have hb := bit_lowest hm
  have := (inside_iff n at_ mask).1 h _ hc hb
  refine ⟨_, hc, ?_⟩
  obtain ⟨c, hcc⟩ : ∃ c, Lib.ctzFrom 32 mask = c := ⟨_, rfl⟩
  rw [hcc] at this hb ⊢
  simp only [hits, hb, Bool.and_eq_true, decide_eq_true_eq, beq_iff_eq]
  exact ⟨⟨trivial, by omega⟩, by omega⟩
end Go.Proofs.YteokkpmndfekoaaDoor
