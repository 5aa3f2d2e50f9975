/- What was written is found again, and what is found was written so. Plain lists, no program. -/
import Derived.Test.YteokkpmndfekoaaP3
namespace Go.Proofs.Yteokkpmndfekoaa

theorem u8_toNat (n : Nat) (h : n < 256) : (UInt8.ofNat n).toNat = n := by simp; omega
theorem u8_ge (b : UInt8) (h : ¬ b < 128) : 128 ≤ b.toNat := by rw [UInt8.lt_iff_toNat_lt] at h; simpa using h
theorem u8_small (b : UInt8) (h : b < 128) : b.toNat < 128 := by rw [UInt8.lt_iff_toNat_lt] at h; simpa using h
theorem sdH_head : ∀ (m : Nat), 0 < m → ∀ r, (sdH m ++ r).headD 0 ≠ 128 := by
  intro m
  induction m using Nat.strongRecOn with
  | ind m ih =>
    intro hm r
    rw [sdH_pos m hm, List.append_assoc]
    rcases Nat.eq_zero_or_pos (m / 128) with h0 | h0
    · rw [h0, sdH_zero]
      show UInt8.ofNat (m % 128 + 128) ≠ 128
      intro h
      have := congrArg UInt8.toNat h
      rw [u8_toNat _ (by omega)] at this
      rw [show (128 : UInt8).toNat = 128 from rfl] at this
      omega
    · exact ih (m / 128) (by omega) h0 _
theorem numS_sdH : ∀ (n : Nat), n < 9223372036854775808 → ∀ r, numS (sdH n ++ r) = numGo ((sdH n ++ r).headD 0) (sdH n).length n r := by
  intro n
  induction n using Nat.strongRecOn with
  | ind n ih =>
    intro hn r
    rcases Nat.eq_zero_or_pos n with h0 | h0
    · subst h0
      rw [sdH_zero]
      rfl
    · rw [sdH_pos n h0, List.append_assoc, ih (n / 128) (by omega) (by omega)]
      have hl := sdH_length 8 (n / 128) (by rw [show (128 : Nat) ^ 8 = 72057594037927936 by decide]; omega)
      have hd : ¬ UInt8.ofNat (n % 128 + 128) < 128 := by
        rw [UInt8.lt_iff_toNat_lt, u8_toNat _ (by omega), show (128 : UInt8).toNat = 128 from rfl]; omega
      rw [List.singleton_append, numGo, if_neg (by omega), if_neg hd, u8_toNat _ (by omega), List.length_append, List.length_singleton]
      congr 1
      omega
theorem numS_sd (n : Nat) (hn : n < 18446744073709551616) (r : List UInt8) : numS (sd n ++ r) = (n, (sd n).length, 0) := by
  unfold sd
  rw [List.append_assoc, numS_sdH (n / 128) (by omega)]
  have hl := sdH_length 9 (n / 128) (by rw [show (128 : Nat) ^ 9 = 9223372036854775808 by decide]; omega)
  have hd : UInt8.ofNat (n % 128) < 128 := by
    rw [UInt8.lt_iff_toNat_lt, u8_toNat _ (by omega), show (128 : UInt8).toNat = 128 from rfl]; omega
  have hf : (sdH (n / 128) ++ ([UInt8.ofNat (n % 128)] ++ r)).headD 0 ≠ 128 := by
    rcases Nat.eq_zero_or_pos (n / 128) with h0 | h0
    · rw [h0, sdH_zero]
      show UInt8.ofNat (n % 128) ≠ 128
      intro h
      rw [h] at hd
      exact absurd hd (by decide)
    · exact sdH_head _ h0 _
  generalize (sdH (n / 128) ++ ([UInt8.ofNat (n % 128)] ++ r)).headD 0 = f at *
  rw [List.singleton_append, numGo, if_neg (by omega), if_pos hd, if_neg hf, u8_toNat _ (by omega), List.length_append, List.length_singleton]
  congr 1
  omega
theorem numGo_f (f : UInt8) : ∀ (xs : List UInt8) (i n x k : Nat), numGo f i n xs = (x, k, 0) → f ≠ 128 := by
  intro xs
  induction xs with
  | nil => intro i n x k h; rw [numGo] at h; split at h <;> simp at h
  | cons b r ih =>
    intro i n x k h
    rw [numGo] at h
    split at h
    · simp at h
    · split at h
      · split at h
        · simp at h
        · assumption
      · exact ih _ _ _ _ h
theorem numGo_inv (f : UInt8) (hf : f ≠ 128) : ∀ (xs : List UInt8) (i n x k : Nat), i ≤ 10 → (i = 0 → n = 0 ∧ f = xs.headD 0) → (0 < i → 0 < n) → numGo f i n xs = (x, k, 0) →
    i < k ∧ k ≤ 10 ∧ k ≤ i + xs.length ∧ sdH n ++ xs.take (k - i) = sd x := by
  intro xs
  induction xs with
  | nil => intro i n x k _ _ _ h; rw [numGo] at h; split at h <;> simp at h
  | cons b r ih =>
    intro i n x k hi h0 h1 h
    rw [numGo] at h
    split at h
    · simp at h
    · split at h
      · next hb =>
        obtain ⟨rfl, rfl, -⟩ : n * 128 + b.toNat % 128 = x ∧ i + 1 = k ∧ True := by simpa using h
        have hbn := u8_small b hb
        refine ⟨by omega, by omega, by simp, ?_⟩
        rw [show i + 1 - i = 1 by omega]
        simp only [List.take_succ_cons, List.take_zero, sd]
        rw [show (n * 128 + b.toNat % 128) / 128 = n by omega, show (n * 128 + b.toNat % 128) % 128 = b.toNat by omega]
        congr 2
        exact (UInt8.toNat_inj.1 (by rw [u8_toNat _ (by omega)]))
      · next hb =>
        have hbn := u8_ge b hb
        have hb2 := b.toNat_lt
        have hpos : 0 < n * 128 + b.toNat % 128 := by
          rcases Nat.eq_zero_or_pos i with hz | hz
          · obtain ⟨rfl, hfe⟩ := h0 hz
            simp at hfe
            have : b.toNat ≠ 128 := fun hh => hf (by rw [hfe]; exact UInt8.toNat_inj.1 hh)
            omega
          · have := h1 hz
            omega
        obtain ⟨a1, a2, a3, a4⟩ := ih (i + 1) _ x k (by omega) (fun hh => absurd hh (by omega)) (fun _ => hpos) h
        refine ⟨by omega, a2, by simp; omega, ?_⟩
        rw [← a4, sdH_pos _ hpos, show (n * 128 + b.toNat % 128) / 128 = n by omega, show (n * 128 + b.toNat % 128) % 128 + 128 = b.toNat by omega, show k - i = (k - (i + 1)) + 1 by omega, List.take_succ_cons, List.append_assoc, List.singleton_append]
        congr 2
        exact (UInt8.toNat_inj.1 (by rw [u8_toNat _ (by omega)]))
theorem numS_inv {xs : List UInt8} {x k : Nat} (h : numS xs = (x, k, 0)) : 0 < k ∧ k ≤ 10 ∧ k ≤ xs.length ∧ xs.take k = sd x := by
  obtain ⟨a, b, c, d⟩ := numGo_inv _ (numGo_f _ _ _ _ _ _ h) xs 0 0 x k (by omega) (fun _ => ⟨rfl, rfl⟩) (fun hh => absurd hh (by omega)) h
  rw [sdH_zero] at d
  exact ⟨a, b, by omega, d⟩
theorem sd_pos (n : Nat) : 0 < (sd n).length := by simp [sd]
/-- none begins another -/
theorem sd_free {n m : Nat} (hn : n < 18446744073709551616) (hm : m < 18446744073709551616) (h : (sd m).take (sd n).length = sd n) : n = m := by
  have h1 := numS_sd n hn ((sd m).drop (sd n).length)
  have h2 := numS_sd m hm []
  rw [List.append_nil] at h2
  have h3 : sd n ++ (sd m).drop (sd n).length = sd m := by
    have := List.take_append_drop (sd n).length (sd m)
    rwa [h] at this
  rw [h3, h2] at h1
  exact ((Prod.mk.inj h1).1).symm
end Go.Proofs.Yteokkpmndfekoaa
