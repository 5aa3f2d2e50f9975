/- The CRC-32: by bits and by a table of sixteen. Plain numbers, no program. -/
namespace Go.Proofs.YteokkpmndfekoaaDoor

def tab : List Nat := [0, 498536548, 997073096, 651767980, 1994146192, 1802195444, 1303535960, 1342533948, 3988292384, 4027552580, 3604390888, 3412177804, 2607071920, 2262029012, 2685067896, 3183342108]
def tb (j : Nat) : Nat := tab.getD j 0
/-- one bit -/
def st (c : Nat) : Nat := (c / 2) ^^^ (if c % 2 = 1 then 3988292384 else 0)
/-- four bits -/
def s4 (c : Nat) : Nat := tb (c % 16) ^^^ (c / 16)
/-- a byte -/
def s8 (c x : Nat) : Nat := s4 (s4 (c ^^^ x))
def crcGo (c : Nat) (xs : List UInt8) : Nat := xs.foldl (fun c x => s8 c x.toNat) c
def crc (xs : List UInt8) : Nat := crcGo 4294967295 xs ^^^ 4294967295

theorem xor_div2 (a b : Nat) : (a ^^^ b) / 2 = (a / 2) ^^^ (b / 2) := by
  have := Nat.shiftRight_xor_distrib (a := a) (b := b) (i := 1)
  simpa [Nat.shiftRight_eq_div_pow] using this
theorem xor_mod2 (a b : Nat) : (a ^^^ b) % 2 = (a + b) % 2 := by
  have h := @Nat.xor_mod_two_eq_one a b
  have h1 : (a ^^^ b) % 2 = 0 ∨ (a ^^^ b) % 2 = 1 := by omega
  rcases h1 with h1 | h1
  · have : ¬ ¬ (a % 2 = 1 ↔ b % 2 = 1) := fun hn => by have := h.2 hn; omega
    omega
  · have := h.1 h1
    omega
theorem st_lin (a y : Nat) : st (a ^^^ (2 * y)) = st a ^^^ y := by
  unfold st
  rw [xor_div2, xor_mod2, show (2 * y) / 2 = y by omega, show (a + 2 * y) % 2 = a % 2 by omega]
  rw [Nat.xor_assoc, Nat.xor_comm y, ← Nat.xor_assoc]
theorem st_lt (c : Nat) (h : c < 4294967296) : st c < 4294967296 := by
  unfold st
  have h1 : c / 2 < 2 ^ 32 := by omega
  exact Nat.xor_lt_two_pow (n := 32) h1 (by split <;> decide)
/-- as four bits one by one -/
theorem s4_st (c : Nat) : s4 c = st (st (st (st c))) := by
  have e : c = (c % 16) ^^^ (2 * (2 * (2 * (2 * (c / 16))))) := by
    have h := Nat.div_add_mod c 16
    have h2 := Nat.two_pow_add_eq_or_of_lt (i := 4) (b := c % 16) (by omega) (c / 16)
    have h3 : (c % 16) ^^^ (2 ^ 4 * (c / 16)) = 2 ^ 4 * (c / 16) + c % 16 := by
      rw [h2]
      apply Nat.eq_of_testBit_eq
      intro i
      rw [Nat.testBit_xor, Nat.testBit_or, Nat.mul_comm, Nat.testBit_mul_two_pow]
      by_cases hi : 4 ≤ i
      · have : (c % 16).testBit i = false := Nat.testBit_lt_two_pow (Nat.lt_of_lt_of_le (show c % 16 < 2 ^ 4 by omega) (Nat.pow_le_pow_right (by omega) hi))
        simp [this]
      · simp [hi]
    rw [show 2 * (2 * (2 * (2 * (c / 16)))) = 2 ^ 4 * (c / 16) by omega, h3]
    omega
  have key : st (st (st (st c))) = st (st (st (st (c % 16)))) ^^^ (c / 16) := by
    conv => lhs; rw [e]
    rw [st_lin, st_lin, st_lin, st_lin]
  rw [key]
  unfold s4
  congr 1
  have : ∀ z, z < 16 → tb z = st (st (st (st z))) := by decide
  exact this _ (Nat.mod_lt _ (by omega))
theorem s4_lt (c : Nat) (h : c < 4294967296) : s4 c < 4294967296 := by
  rw [s4_st]
  exact st_lt _ (st_lt _ (st_lt _ (st_lt _ h)))
theorem s8_lt (c x : Nat) (h : c < 4294967296) (hx : x < 256) : s8 c x < 4294967296 :=
  s4_lt _ (s4_lt _ (Nat.xor_lt_two_pow (n := 32) h (by omega)))
theorem crcGo_lt (xs : List UInt8) : ∀ c, c < 4294967296 → crcGo c xs < 4294967296 := by
  induction xs with
  | nil => intro c h; exact h
  | cons x xs ih => intro c h; exact ih _ (s8_lt c _ h x.toNat_lt)
theorem crc_lt (xs : List UInt8) : crc xs < 4294967296 := Nat.xor_lt_two_pow (n := 32) (crcGo_lt xs _ (by decide)) (by decide)
theorem crcGo_snoc (c : Nat) (xs : List UInt8) (x : UInt8) : crcGo c (xs ++ [x]) = s8 (crcGo c xs) x.toNat := by simp [crcGo]
/-- the document's step: bit number k of a byte -/
def bitStep (c x k : Nat) : Nat := if c % 2 ≠ x / 2 ^ k % 2 then (c / 2) ^^^ 3988292384 else c / 2
def bitsGo (c x : Nat) : Nat → Nat
  | 0 => c
  | k + 1 => bitStep (bitsGo c x k) x k
theorem bitStep_st (c x k : Nat) : bitStep c x k = st (c ^^^ (x / 2 ^ k % 2)) := by
  unfold bitStep st
  have hx : x / 2 ^ k % 2 = 0 ∨ x / 2 ^ k % 2 = 1 := by omega
  rw [xor_div2, xor_mod2]
  rcases hx with h | h
  · rw [h]
    by_cases hc : c % 2 = 1
    · rw [if_pos (by omega), if_pos (by omega)]
      simp
    · rw [if_neg (by omega), if_neg (by omega)]
      simp
  · rw [h]
    by_cases hc : c % 2 = 1
    · rw [if_neg (by omega), if_neg (by omega)]
      simp
    · rw [if_pos (by omega), if_pos (by omega)]
      simp
theorem bitsGo_st (c x : Nat) : ∀ k, bitsGo c x k = (Nat.repeat st k (c ^^^ x)) ^^^ (x / 2 ^ k) := by
  intro k
  induction k with
  | zero => simp [bitsGo, Nat.repeat, Nat.xor_assoc]
  | succ k ih =>
    show bitStep (bitsGo c x k) x k = st (Nat.repeat st k (c ^^^ x)) ^^^ _
    rw [bitStep_st, ih, Nat.xor_assoc]
    have h1 : x / 2 ^ k ^^^ x / 2 ^ k % 2 = 2 * (x / 2 ^ (k + 1)) := by
      have h2 : x / 2 ^ (k + 1) = x / 2 ^ k / 2 := by rw [Nat.pow_succ, Nat.div_div_eq_div_mul]
      rw [h2]
      generalize x / 2 ^ k = z
      apply Nat.eq_of_testBit_eq
      intro i
      rcases i with _ | i
      · simp
      · have h3 : (z % 2).testBit (i + 1) = false := Nat.testBit_lt_two_pow (Nat.lt_of_lt_of_le (show z % 2 < 2 ^ 1 by omega) (Nat.pow_le_pow_right (by omega) (by omega)))
        rw [Nat.testBit_xor, h3]
        simp [Nat.testBit_succ]
    rw [h1, st_lin]
theorem bits8 (c x : Nat) (hx : x < 256) : bitsGo c x 8 = s8 c x := by
  rw [bitsGo_st]
  have : x / 2 ^ 8 = 0 := Nat.div_eq_of_lt (by omega)
  rw [this, Nat.xor_zero]
  unfold s8
  rw [s4_st, s4_st]
  rfl
end Go.Proofs.YteokkpmndfekoaaDoor
