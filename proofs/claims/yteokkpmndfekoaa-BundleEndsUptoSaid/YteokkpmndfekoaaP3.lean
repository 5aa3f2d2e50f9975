/- What Number tells. Plain lists, no program. -/
import Derived.Test.YteokkpmndfekoaaP1
namespace Go.Proofs.Yteokkpmndfekoaa

/-- behind i bytes, which make n, each above 127: the number, its bytes, the error -/
def numGo (first : UInt8) : Nat → Nat → List UInt8 → Nat × Nat × Nat
  | i, _, [] => if i < 10 then (0, 0, 10) else (0, 0, 12)
  | i, n, x :: r => if i = 10 ∨ 144115188075855872 ≤ n then (0, 0, 12) else if x < 128 then (if first = 128 then (0, 0, 12) else (n * 128 + x.toNat % 128, i + 1, 0)) else numGo first (i + 1) (n * 128 + x.toNat % 128) r
def numS (xs : List UInt8) : Nat × Nat × Nat := numGo (xs.headD 0) 0 0 xs
theorem numGo_nil (f : UInt8) (i n : Nat) : numGo f i n [] = if i < 10 then (0, 0, 10) else (0, 0, 12) := by unfold numGo; rfl
theorem numGo_drop (f : UInt8) (i n : Nat) (xs : List UInt8) (h : i < xs.length) :
    numGo f i n (xs.drop i) = if i = 10 ∨ 144115188075855872 ≤ n then (0, 0, 12) else if xs[i] < 128 then (if f = 128 then (0, 0, 12) else (n * 128 + xs[i].toNat % 128, i + 1, 0)) else numGo f (i + 1) (n * 128 + xs[i].toNat % 128) (xs.drop (i + 1)) := by
  rw [List.drop_eq_getElem_cons h, numGo]
theorem numGo_wrong (f : UInt8) (i n : Nat) (xs : List UInt8) (h : i < xs.length) (hb : i = 10 ∨ 144115188075855872 ≤ n) : numGo f i n (xs.drop i) = (0, 0, 12) := by
  rw [numGo_drop f i n xs h, if_pos hb]
theorem numGo_first (f : UInt8) (i n : Nat) (xs : List UInt8) (h : i < xs.length) (hx : xs[i] < 128) (hf : f = 128) : numGo f i n (xs.drop i) = (0, 0, 12) := by
  rw [numGo_drop f i n xs h, if_pos hx, if_pos hf]
  split <;> rfl
theorem numGo_ok (f : UInt8) (i n : Nat) (xs : List UInt8) (h : i < xs.length) (hb : ¬ (i = 10 ∨ 144115188075855872 ≤ n)) (hx : xs[i] < 128) (hf : ¬ f = 128) : numGo f i n (xs.drop i) = (n * 128 + xs[i].toNat % 128, i + 1, 0) := by
  rw [numGo_drop f i n xs h, if_neg hb, if_pos hx, if_neg hf]
theorem numGo_next (f : UInt8) (i n : Nat) (xs : List UInt8) (h : i < xs.length) (hb : ¬ (i = 10 ∨ 144115188075855872 ≤ n)) (hx : ¬ xs[i] < 128) : numGo f i n (xs.drop i) = numGo f (i + 1) (n * 128 + xs[i].toNat % 128) (xs.drop (i + 1)) := by
  rw [numGo_drop f i n xs h, if_neg hb, if_neg hx]
/-- what is told is a number that fits, a place in the list, one of three errors -/
theorem numGo_range (f : UInt8) : ∀ (xs : List UInt8) (i n : Nat), (numGo f i n xs).1 < 18446744073709551616 ∧ (numGo f i n xs).2.1 ≤ i + xs.length ∧ ((numGo f i n xs).2.2 = 0 ∨ (numGo f i n xs).2.2 = 10 ∨ (numGo f i n xs).2.2 = 12) := by
  intro xs
  induction xs with
  | nil =>
    intro i n
    rw [numGo]
    split <;> simp
  | cons x r ih =>
    intro i n
    rw [numGo]
    split
    · simp
    · split
      · split
        · simp
        · refine ⟨?_, ?_, .inl rfl⟩
          · show n * 128 + x.toNat % 128 < _
            omega
          · show i + 1 ≤ i + (x :: r).length
            simp
      · have := ih (i + 1) (n * 128 + x.toNat % 128)
        refine ⟨this.1, ?_, this.2.2⟩
        have h2 := this.2.1
        simp only [List.length_cons]
        omega
theorem numS_lt (xs : List UInt8) : (numS xs).1 < 18446744073709551616 := (numGo_range _ xs 0 0).1
theorem numS_le (xs : List UInt8) : (numS xs).2.1 ≤ xs.length := by have := (numGo_range (xs.headD 0) xs 0 0).2.1; simpa [numS] using this
theorem numS_err (xs : List UInt8) : (numS xs).2.2 = 0 ∨ (numS xs).2.2 = 10 ∨ (numS xs).2.2 = 12 := (numGo_range _ xs 0 0).2.2
/-- the number of the first k bytes -/
def vU (xs : List UInt8) : Nat → Nat
  | 0 => 0
  | k + 1 => vU xs k * 128 + (xs.getD k 0).toNat % 128
theorem vU_lt (xs : List UInt8) (k : Nat) : vU xs k < 128 ^ k := by
  induction k with
  | zero => simp [vU]
  | succ k ih =>
    have h4 : (xs.getD k 0).toNat % 128 < 128 := Nat.mod_lt _ (by omega)
    simp only [vU, Nat.pow_succ]
    generalize 128 ^ k = p at *
    omega
theorem vU_small (xs : List UInt8) (k : Nat) (h : k ≤ 8) : vU xs k < 144115188075855872 := by
  have h1 := vU_lt xs k
  have : (128 : Nat) ^ k ≤ 128 ^ 8 := Nat.pow_le_pow_right (by omega) h
  omega
/-- behind k bytes above 127 -/
theorem numS_at (xs : List UInt8) : ∀ k, k ≤ 10 → k ≤ xs.length → (∀ j (_ : j < k) (hl : j < xs.length), ¬ xs[j] < 128) → (∀ j, j < k → vU xs j < 144115188075855872) → numS xs = numGo (xs.headD 0) k (vU xs k) (xs.drop k) := by
  intro k
  induction k with
  | zero => intro _ _ _ _; rw [List.drop_zero]; rfl
  | succ k ih =>
    intro h10 hl hb hv
    have hlt : k < xs.length := by omega
    rw [ih (by omega) (by omega) (fun j hj hl => hb j (by omega) hl) (fun j hj => hv j (by omega))]
    have hk := hv k (by omega)
    rw [numGo_next _ k _ xs hlt (by omega) (hb k (by omega) hlt)]
    have : xs.getD k 0 = xs[k] := by simp [List.getD, hlt]
    simp only [vU, this]
theorem numS_big (xs : List UInt8) (k : Nat) (h10 : k ≤ 10) (hl : k ≤ xs.length) (hb : ∀ j (_ : j < k) (hl : j < xs.length), ¬ xs[j] < 128) : numS xs = (0, 0, 12) ∨ ((∀ j, j < k → vU xs j < 144115188075855872) ∧ numS xs = numGo (xs.headD 0) k (vU xs k) (xs.drop k)) := by
  induction k with
  | zero => exact .inr ⟨fun j hj => absurd hj (by omega), by rw [List.drop_zero]; rfl⟩
  | succ k ih =>
    rcases ih (by omega) (by omega) (fun j hj hl => hb j (by omega) hl) with h | ⟨h1, h2⟩
    · exact .inl h
    · rcases Nat.lt_or_ge (vU xs k) 144115188075855872 with h3 | h3
      · have h4 : ∀ j, j < k + 1 → vU xs j < 144115188075855872 := fun j hj => by
          by_cases hjk : j = k
          · subst hjk; exact h3
          · exact h1 j (by omega)
        exact .inr ⟨h4, numS_at xs (k + 1) h10 hl hb h4⟩
      · exact .inl (by rw [h2]; exact numGo_wrong _ _ _ _ (by omega) (.inr h3))
theorem numS_ten (xs : List UInt8) (hl : 10 ≤ xs.length) (hb : ∀ j (_ : j < 10) (hl : j < xs.length), ¬ xs[j] < 128) : numS xs = (0, 0, 12) := by
  rcases numS_big xs 10 (by omega) hl hb with h | ⟨_, h⟩
  · exact h
  · rw [h]
    rcases Nat.lt_or_ge 10 xs.length with h1 | h1
    · exact numGo_wrong _ _ _ _ h1 (.inl rfl)
    · rw [List.drop_of_length_le h1, numGo_nil, if_neg (by omega)]
theorem numS_short (xs : List UInt8) (hl : xs.length < 10) (hb : ∀ j (_ : j < xs.length) (hl : j < xs.length), ¬ xs[j] < 128) : numS xs = (0, 0, 10) := by
  rw [numS_at xs xs.length (by omega) (Nat.le_refl _) hb (fun j hj => vU_small xs j (by omega)), List.drop_length, numGo_nil, if_pos hl]
theorem numS_128 (xs : List UInt8) (k : Nat) (h10 : k < 10) (hl : k < xs.length) (hb : ∀ j (_ : j < k) (hl : j < xs.length), ¬ xs[j] < 128) (hx : xs[k] < 128) (hf : xs.headD 0 = 128) : numS xs = (0, 0, 12) := by
  rcases numS_big xs k (by omega) (by omega) hb with h | ⟨_, h⟩
  · exact h
  · rw [h]; exact numGo_first _ _ _ _ hl hx hf
end Go.Proofs.Yteokkpmndfekoaa
