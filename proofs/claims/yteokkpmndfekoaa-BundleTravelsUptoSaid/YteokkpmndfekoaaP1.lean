/- Numbers as digits to the base 128: plain lists, no program. -/
namespace Go.Proofs.Yteokkpmndfekoaa

/-- the digits ahead of the last, each with 128 added -/
def sdH (n : Nat) : List UInt8 := if _h : n = 0 then [] else sdH (n / 128) ++ [UInt8.ofNat (n % 128 + 128)]
termination_by n
decreasing_by omega
/-- all digits -/
def sd (n : Nat) : List UInt8 := sdH (n / 128) ++ [UInt8.ofNat (n % 128)]
theorem sdH_zero : sdH 0 = [] := by unfold sdH; simp
theorem sdH_pos (n : Nat) (h : 0 < n) : sdH n = sdH (n / 128) ++ [UInt8.ofNat (n % 128 + 128)] := by
  rw [sdH]
  simp [show n ≠ 0 by omega]
theorem sdH_length : ∀ (k n : Nat), n < 128 ^ k → (sdH n).length ≤ k := by
  intro k
  induction k with
  | zero =>
    intro n h
    have : n = 0 := by omega
    subst this
    simp [sdH_zero]
  | succ k ih =>
    intro n h
    rcases Nat.eq_zero_or_pos n with h0 | h0
    · subst h0; simp [sdH_zero]
    · rw [sdH_pos n h0, List.length_append]
      have : n / 128 < 128 ^ k := by
        apply Nat.div_lt_of_lt_mul
        rw [Nat.pow_succ] at h
        omega
      have := ih _ this
      simp
      omega
theorem sd_length (n : Nat) (h : n < 18446744073709551616) : (sd n).length ≤ 10 := by
  have : n / 128 < 128 ^ 9 := by
    have : (128 : Nat) ^ 9 = 9223372036854775808 := by decide
    omega
  have := sdH_length 9 _ this
  simp [sd]
  omega
end Go.Proofs.Yteokkpmndfekoaa
