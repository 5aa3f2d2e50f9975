/- A burst of 32 bits is told by the CRC. Plain lists and numbers, no program. -/
import Derived.Test.YteokkpmndfekoaaDoorP2
import Derived.Test.YteokkpmndfekoaaDoorP6
import Derived.Test.YteokkpmndfekoaaDoorOC
namespace Go.Proofs.YteokkpmndfekoaaDoor

theorem xor_eqz {a b : Nat} (h : a ^^^ b = 0) : a = b := by
  have := congrArg (· ^^^ b) h
  simpa [Nat.xor_assoc] using this
/-- n bits, the lowest first -/
def proc : Nat → Nat → Nat → Nat
  | 0, c, _ => c
  | n + 1, c, E => proc n (st (c ^^^ (E % 2))) (E / 2)
theorem st_xor (a b : Nat) : st (a ^^^ b) = st a ^^^ st b := by
  unfold st
  rw [xor_div2, xor_mod2]
  by_cases ha : a % 2 = 1
  · by_cases hb : b % 2 = 1
    · rw [if_neg (by omega), if_pos ha, if_pos hb, Nat.xor_zero]
      generalize 3988292384 = p
      rw [Nat.xor_assoc (a / 2) p, Nat.xor_comm p, Nat.xor_assoc (b / 2), Nat.xor_self, Nat.xor_zero]
    · rw [if_pos (by omega), if_pos ha, if_neg hb, Nat.xor_zero]
      generalize 3988292384 = p
      rw [Nat.xor_assoc, Nat.xor_assoc, Nat.xor_comm p]
  · by_cases hb : b % 2 = 1
    · rw [if_pos (by omega), if_neg ha, if_pos hb, Nat.xor_zero, Nat.xor_assoc]
    · rw [if_neg (by omega), if_neg ha, if_neg hb, Nat.xor_zero, Nat.xor_zero, Nat.xor_zero]
theorem proc_xor : ∀ (n a b E F : Nat), proc n (a ^^^ b) (E ^^^ F) = proc n a E ^^^ proc n b F := by
  intro n
  induction n with
  | zero => intro a b E F; rfl
  | succ n ih =>
    intro a b E F
    rw [proc, proc, proc, ← ih, xor_div2, ← st_xor]
    congr 2
    have h : (E ^^^ F) % 2 = (E % 2) ^^^ (F % 2) := by
      have := @Nat.xor_mod_two_pow E F 1
      simpa using this
    rw [h, Nat.xor_assoc, Nat.xor_assoc, ← Nat.xor_assoc b, Nat.xor_comm b, Nat.xor_assoc]
theorem proc_split (b : Nat) : ∀ (a c E : Nat), proc (a + b) c E = proc b (proc a c E) (E / 2 ^ a) := by
  intro a
  induction a with
  | zero => intro c E; simp [proc]
  | succ a ih =>
    intro c E
    rw [show a + 1 + b = (a + b) + 1 by omega, proc, ih, proc, Nat.div_div_eq_div_mul, Nat.pow_succ, Nat.mul_comm 2]
theorem proc_mod : ∀ (n c E F : Nat), E % 2 ^ n = F % 2 ^ n → proc n c E = proc n c F := by
  intro n
  induction n with
  | zero => intro c E F _; rfl
  | succ n ih =>
    intro c E F h
    have h2 : E % 2 = F % 2 := by
      have := congrArg (· % 2) h
      simpa [Nat.pow_succ, Nat.mul_comm _ 2, Nat.mod_mul_right_mod] using this
    have h3 : E / 2 % 2 ^ n = F / 2 % 2 ^ n := by
      have := congrArg (· / 2) h
      simpa [Nat.pow_succ, Nat.mul_comm _ 2, Nat.mod_mul_right_div_self] using this
    rw [proc, proc, h2, ih _ _ _ h3]
theorem proc_bits (c x : Nat) : ∀ k, proc k c x = bitsGo c x k := by
  intro k
  induction k with
  | zero => rfl
  | succ k ih =>
    rw [proc_split 1 k, ih]
    show st (bitsGo c x k ^^^ (x / 2 ^ k % 2)) = bitStep (bitsGo c x k) x k
    rw [bitStep_st]
theorem proc_byte (c x R : Nat) (hx : x < 256) : proc 8 c (x + 256 * R) = s8 c x := by
  rw [proc_mod 8 c (x + 256 * R) x (by rw [show (2 : Nat) ^ 8 = 256 by decide, Nat.add_mul_mod_self_left]), proc_bits, bits8 c x hx]
/-- the list as one number, the first byte lowest -/
def toN : List UInt8 → Nat
  | [] => 0
  | x :: r => x.toNat + 256 * toN r
theorem proc_toN : ∀ (xs : List UInt8) (c : Nat), proc (8 * xs.length) c (toN xs) = crcGo c xs := by
  intro xs
  induction xs with
  | nil => intro c; rfl
  | cons x r ih =>
    intro c
    have hx := x.toNat_lt
    rw [List.length_cons, show 8 * (r.length + 1) = 8 + 8 * r.length by omega, proc_split, toN, proc_byte c x.toNat (toN r) hx]
    rw [show (x.toNat + 256 * toN r) / 2 ^ 8 = toN r by rw [show (2 : Nat) ^ 8 = 256 by decide]; omega, ih]
    rfl
theorem toN_lt : ∀ xs : List UInt8, toN xs < 2 ^ (8 * xs.length) := by
  intro xs
  induction xs with
  | nil => simp [toN]
  | cons x r ih =>
    have hx := x.toNat_lt
    rw [toN, List.length_cons, show 8 * (r.length + 1) = 8 * r.length + 8 by omega, Nat.pow_add, show (2 : Nat) ^ 8 = 256 by decide]
    generalize 2 ^ (8 * r.length) = p at *
    omega
theorem toN_inj : ∀ (xs ys : List UInt8), xs.length = ys.length → toN xs = toN ys → xs = ys := by
  intro xs
  induction xs with
  | nil => intro ys h _; exact (List.eq_nil_of_length_eq_zero h.symm).symm
  | cons x r ih =>
    intro ys h hN
    rcases ys with _ | ⟨y, s⟩
    · simp at h
    · have hx := x.toNat_lt
      have hy := y.toNat_lt
      rw [toN, toN] at hN
      have h1 : x = y := UInt8.toNat_inj.1 (by omega)
      rw [h1, ih s (by simpa using h) (by omega)]
theorem low_hi (i x R : Nat) (h : x < 2 ^ i) : x + 2 ^ i * R = x ^^^ (2 ^ i * R) := by
  have h2 := Nat.two_pow_add_eq_or_of_lt (i := i) (b := x) h R
  rw [Nat.add_comm, h2]
  apply Nat.eq_of_testBit_eq
  intro j
  rw [Nat.testBit_xor, Nat.testBit_or, Nat.mul_comm, Nat.testBit_mul_two_pow]
  by_cases hj : i ≤ j
  · have : x.testBit j = false := Nat.testBit_lt_two_pow (Nat.lt_of_lt_of_le h (Nat.pow_le_pow_right (by omega) hj))
    simp [this]
  · simp [hj]
theorem mul_xor (i a b : Nat) : 2 ^ i * (a ^^^ b) = (2 ^ i * a) ^^^ (2 ^ i * b) := by
  have := Nat.shiftLeft_xor_distrib (a := a) (b := b) (i := i)
  simp only [Nat.shiftLeft_eq] at this
  rw [Nat.mul_comm, this, Nat.mul_comm a, Nat.mul_comm b]
theorem bitB_toNat : ∀ r, r < 8 → ((1 : UInt8) <<< UInt8.ofNat r).toNat = 2 ^ r := by decide
theorem toN_flip : ∀ (xs : List UInt8) (k : Nat), k / 8 < xs.length → toN (flipB xs k) = toN xs ^^^ 2 ^ k := by
  intro xs
  induction xs with
  | nil => intro k h; simp at h
  | cons x r ih =>
    intro k h
    by_cases hk : k < 8
    · have h0 : k / 8 = 0 := by omega
      have hb := bitB_toNat k hk
      have hm : k % 8 = k := by omega
      have hxl : (x ^^^ (1 <<< UInt8.ofNat k)).toNat = x.toNat ^^^ 2 ^ k := by rw [UInt8.toNat_xor, hb]
      have h1 : flipB (x :: r) k = (x ^^^ (1 <<< UInt8.ofNat k)) :: r := by simp [flipB, h0, hm]
      rw [h1, toN, toN, hxl]
      have h256 : (256 : Nat) = 2 ^ 8 := by decide
      rw [h256, low_hi 8 x.toNat _ x.toNat_lt, low_hi 8 (x.toNat ^^^ 2 ^ k) _ (Nat.xor_lt_two_pow x.toNat_lt (Nat.pow_lt_pow_right (by omega) hk))]
      rw [Nat.xor_assoc, Nat.xor_comm (2 ^ k), ← Nat.xor_assoc]
    · obtain ⟨k', rfl⟩ : ∃ k', k = k' + 8 := ⟨k - 8, by omega⟩
      have h0 : (k' + 8) / 8 = k' / 8 + 1 := by omega
      have hm : (k' + 8) % 8 = k' % 8 := by omega
      have h1 : flipB (x :: r) (k' + 8) = x :: flipB r k' := by simp [flipB, h0, hm]
      rw [h1, toN, toN, ih k' (by rw [h0] at h; simpa using h)]
      have h256 : (256 : Nat) = 2 ^ 8 := by decide
      rw [h256, low_hi 8 x.toNat _ x.toNat_lt, low_hi 8 x.toNat _ x.toNat_lt, mul_xor, Nat.pow_add 2 k' 8, Nat.mul_comm (2 ^ 8) (2 ^ k'), Nat.xor_assoc]
/-- the bits that are turned, as one number: 2 ^ p times a mask -/
def errGo (n : Nat) (at_ : Int) (mask : Nat) : Nat → Nat
  | 0 => 0
  | j + 1 => if hits n at_ mask j then errGo n at_ mask j ^^^ 2 ^ (at_ + j).toNat else errGo n at_ mask j
theorem hits_in {n : Nat} {at_ : Int} {mask j : Nat} (h : hits n at_ mask j = true) : 0 ≤ at_ + j ∧ at_ + j < 8 * (n : Int) := by
  simp only [hits, Bool.and_eq_true, decide_eq_true_eq] at h
  exact ⟨h.1.2, h.2⟩
theorem toN_burst (xs : List UInt8) (at_ : Int) (mask : Nat) : ∀ j, toN (burstGo xs at_ mask j) = toN xs ^^^ errGo xs.length at_ mask j := by
  intro j
  induction j with
  | zero => simp [burstGo, errGo]
  | succ j ih =>
    rw [burstGo, errGo]
    split
    · next h =>
      have := hits_in h
      rw [toN_flip _ _ (by rw [burstGo_length]; omega), ih, Nat.xor_assoc]
    · exact ih
theorem errGo_form (n : Nat) (at_ : Int) (mask : Nat) : ∀ j, ∃ M, errGo n at_ mask j = 2 ^ at_.toNat * M ∧ M < 2 ^ j ∧ (0 < M ↔ ∃ i, i < j ∧ hits n at_ mask i = true) ∧ ((M : Nat) = 0 ∨ (at_.toNat : Int) + 0 < 8 * (n : Int)) ∧ (at_ < 0 → ∀ i : Nat, (i : Int) + at_ ≤ 0 → j ≤ i → M = 0) ∧ (at_ < 0 → 0 < (j : Int) + at_ → M < 2 ^ ((j : Int) + at_).toNat) := by
  intro j
  induction j with
  | zero => exact ⟨0, by simp [errGo], by omega, ⟨fun h => by omega, fun ⟨i, h, _⟩ => absurd h (by omega)⟩, .inl rfl, fun _ _ _ _ => rfl, fun _ h => by omega⟩
  | succ j ih =>
    obtain ⟨M, h1, h2, h3, h4, h5, h6⟩ := ih
    have hp : 2 ^ j ≤ 2 ^ (j + 1) := Nat.pow_le_pow_right (by omega) (by omega)
    rw [errGo]
    by_cases hh : hits n at_ mask j = true
    · rw [if_pos hh]
      have hin := hits_in hh
      by_cases ha : 0 ≤ at_
      · have e : (at_ + j).toNat = at_.toNat + j := by omega
        refine ⟨M ^^^ 2 ^ j, by rw [h1, e, Nat.pow_add, mul_xor], Nat.xor_lt_two_pow (by omega) (Nat.pow_lt_pow_right (by omega) (by omega)), ⟨fun _ => ⟨j, by omega, hh⟩, fun _ => ?_⟩, .inr (by omega), fun h => absurd ha (by omega), fun h => absurd ha (by omega)⟩
        rcases Nat.eq_zero_or_pos (M ^^^ 2 ^ j) with h0 | h0
        · have := xor_eqz h0
          omega
        · exact h0
      · have e0 : at_.toNat = 0 := by omega
        rw [e0] at h1 ⊢
        simp only [Nat.pow_zero, Nat.one_mul] at h1 ⊢
        have hM : M < 2 ^ ((j : Int) + at_).toNat := by
          by_cases hpos : 0 < (j : Int) + at_
          · exact h6 (by omega) hpos
          · rw [h5 (by omega) j (by omega) (Nat.le_refl _)]
            exact Nat.pow_pos (by omega)
        have ej : (at_ + j).toNat = ((j : Int) + at_).toNat := by omega
        have ej2 : (((j + 1 : Nat) : Int) + at_).toNat = ((j : Int) + at_).toNat + 1 := by omega
        have hlt : M ^^^ 2 ^ ((j : Int) + at_).toNat < 2 ^ (((j + 1 : Nat) : Int) + at_).toNat := by
          rw [ej2]
          exact Nat.xor_lt_two_pow (by rw [Nat.pow_succ]; omega) (Nat.pow_lt_pow_right (by omega) (by omega))
        refine ⟨M ^^^ 2 ^ ((j : Int) + at_).toNat, by rw [h1, ej], Nat.lt_of_lt_of_le hlt (Nat.pow_le_pow_right (by omega) (by omega)), ⟨fun _ => ⟨j, by omega, hh⟩, fun _ => ?_⟩, .inr (by omega), fun _ i hi hji => by omega, fun _ _ => hlt⟩
        rcases Nat.eq_zero_or_pos (M ^^^ 2 ^ ((j : Int) + at_).toNat) with h0 | h0
        · have := xor_eqz h0
          omega
        · exact h0
    · rw [if_neg hh]
      refine ⟨M, h1, by omega, ⟨fun h => ?_, fun ⟨i, hi, hhi⟩ => ?_⟩, h4, fun ha i hi hji => h5 ha i hi (by omega), fun ha hpos => ?_⟩
      · obtain ⟨i, hi, hhi⟩ := h3.1 h
        exact ⟨i, by omega, hhi⟩
      · refine h3.2 ⟨i, ?_, hhi⟩
        by_cases hij : i = j
        · subst hij; exact absurd hhi hh
        · omega
      · by_cases hp2 : 0 < (j : Int) + at_
        · exact Nat.lt_of_lt_of_le (h6 ha hp2) (Nat.pow_le_pow_right (by omega) (by omega))
        · rw [h5 ha j (by omega) (Nat.le_refl _)]
          exact Nat.pow_pos (by omega)
theorem proc_zero : ∀ n, proc n 0 0 = 0 := by
  intro n
  induction n with
  | zero => rfl
  | succ n ih => rw [proc, show st (0 ^^^ (0 % 2)) = 0 by decide, Nat.zero_div]; exact ih
theorem proc_pow (n M : Nat) : ∀ r, proc (r + n) 0 (2 ^ r * M) = proc n 0 M := by
  intro r
  induction r with
  | zero => simp
  | succ r ih =>
    rw [show r + 1 + n = (r + n) + 1 by omega, proc]
    have h1 : 2 ^ (r + 1) * M % 2 = 0 := by rw [Nat.pow_succ, Nat.mul_assoc, Nat.mul_left_comm]; simp
    have h2 : 2 ^ (r + 1) * M / 2 = 2 ^ r * M := by rw [Nat.pow_succ, Nat.mul_assoc, Nat.mul_left_comm]; simp
    rw [h1, h2, show st (0 ^^^ 0) = 0 by decide, ih]
/-- the step of a state that isn't what comes -/
theorem st_ne (c M : Nat) (hc : c < 4294967296) (hM : M < 4294967296) (h : c ≠ M) : st (c ^^^ (M % 2)) ≠ M / 2 := by
  intro he
  apply h
  have h1 : M % 2 = 0 ∨ M % 2 = 1 := by omega
  have hd : (c ^^^ (M % 2)) % 2 = (c + M) % 2 := by rw [xor_mod2]; omega
  have hq : (c ^^^ (M % 2)) / 2 = c / 2 := by
    rw [xor_div2, show M % 2 / 2 = 0 by omega, Nat.xor_zero]
  unfold st at he
  rw [hd, hq] at he
  by_cases ho : (c + M) % 2 = 1
  · rw [if_pos ho] at he
    have hb := congrArg (fun z => z.testBit 31) he
    simp only [Nat.testBit_xor] at hb
    rw [Nat.testBit_lt_two_pow (show c / 2 < 2 ^ 31 by omega), Nat.testBit_lt_two_pow (show M / 2 < 2 ^ 31 by omega)] at hb
    exact absurd hb (by decide)
  · rw [if_neg ho, Nat.xor_zero] at he
    omega
theorem proc_ne : ∀ (n c M : Nat), c < 4294967296 → M < 4294967296 → M < 2 ^ n → c ≠ M → proc n c M ≠ 0 := by
  intro n
  induction n with
  | zero => intro c M _ _ h hn; have : M = 0 := by omega
            subst this; exact hn
  | succ n ih =>
    intro c M hc hM h hn
    rw [proc]
    refine ih _ _ (st_lt _ (Nat.xor_lt_two_pow (n := 32) hc (by omega))) (by omega) (by rw [Nat.pow_succ] at h; omega) (st_ne c M hc hM hn)
theorem proc_eq : ∀ (n c : Nat), c < 2 ^ n → proc n c c = 0 := by
  intro n
  induction n with
  | zero => intro c h; have : c = 0 := by omega
            subst this; rfl
  | succ n ih =>
    intro c h
    have hd : (c ^^^ (c % 2)) % 2 = 0 := by rw [xor_mod2]; omega
    have hq : (c ^^^ (c % 2)) / 2 = c / 2 := by rw [xor_div2, show c % 2 / 2 = 0 by omega, Nat.xor_zero]
    have : st (c ^^^ (c % 2)) = c / 2 := by
      unfold st
      rw [hd, hq]
      simp
    rw [proc, this]
    exact ih _ (by rw [Nat.pow_succ] at h; omega)
theorem u8n (n : Nat) (h : n < 256) : (UInt8.ofNat n).toNat = n := by simp; omega
theorem toN_sl4 (c : Nat) (h : c < 4294967296) : toN (sl4 c) = c := by
  unfold sl4
  simp only [toN]
  rw [u8n _ (by omega), u8n _ (by omega), u8n _ (by omega), u8n _ (by omega)]
  omega
/-- what a sealed string leaves -/
def residue : Nat := proc 32 0 4294967295
theorem crcGo_sealed (xs : List UInt8) : crcGo 4294967295 (xs ++ sl xs) = residue := by
  have h1 : crcGo 4294967295 (xs ++ sl xs) = crcGo (crcGo 4294967295 xs) (sl xs) := by simp [crcGo]
  have hc := crcGo_lt xs 4294967295 (by decide)
  have h2 := proc_toN (sl xs) (crcGo 4294967295 xs)
  rw [show 8 * (sl xs).length = 32 from rfl, show toN (sl xs) = crc xs from toN_sl4 _ (crc_lt xs)] at h2
  rw [h1, ← h2, crc]
  have h3 := proc_xor 32 (crcGo 4294967295 xs) 0 (crcGo 4294967295 xs) 4294967295
  rw [Nat.xor_zero, proc_eq 32 _ (by omega), Nat.zero_xor] at h3
  exact h3
theorem burst_same (xs : List UInt8) (at_ : Int) (mask : Nat) (h : ∀ j, j < 32 → hits xs.length at_ mask j = false) : burst xs at_ mask = xs := burstGo_none _ _ _ _ h
/-- THE THEOREM: turned bits of 32 neighbouring ones are told -/
theorem burst_told (xs : List UInt8) (at_ : Int) (mask : Nat) (h : ∃ j, j < 32 ∧ hits (xs.length + 4) at_ mask j = true) :
    burst (xs ++ sl xs) at_ mask ≠ xs ++ sl xs ∧ ∀ ys, ys ++ sl ys ≠ burst (xs ++ sl xs) at_ mask := by
  obtain ⟨s, hs⟩ : ∃ s, xs ++ sl xs = s := ⟨_, rfl⟩
  have hl : s.length = xs.length + 4 := by rw [← hs, List.length_append, sl_length]
  obtain ⟨M, h1, h2, h3, h4, -, -⟩ := errGo_form s.length at_ mask 32
  rw [hl] at h3
  have hM : 0 < M := h3.2 h
  have hN := toN_burst s at_ mask 32
  have hbl := burstGo_length s at_ mask 32
  have hlt := toN_lt (burstGo s at_ mask 32)
  have hlt2 := toN_lt s
  rw [hbl] at hlt
  have hE : errGo s.length at_ mask 32 < 2 ^ (8 * s.length) := by
    have : errGo s.length at_ mask 32 = toN s ^^^ toN (burstGo s at_ mask 32) := by rw [hN, ← Nat.xor_assoc, Nat.xor_self, Nat.zero_xor]
    rw [this]
    exact Nat.xor_lt_two_pow hlt2 hlt
  have hp : at_.toNat < 8 * s.length := by rcases h4 with h4 | h4 <;> omega
  obtain ⟨n, hn⟩ : ∃ n, 8 * s.length = at_.toNat + n := ⟨8 * s.length - at_.toNat, by omega⟩
  have hMn : M < 2 ^ n := by
    rw [h1, hn, Nat.pow_add] at hE
    exact Nat.lt_of_mul_lt_mul_left hE
  have hne : proc (8 * s.length) 0 (errGo s.length at_ mask 32) ≠ 0 := by
    rw [h1, hn, proc_pow]
    exact proc_ne n 0 M (by omega) (by omega) hMn (by omega)
  have hres : crcGo 4294967295 (burst s at_ mask) = residue ^^^ proc (8 * s.length) 0 (errGo s.length at_ mask 32) := by
    have e1 := proc_toN (burst s at_ mask) 4294967295
    have e2 := proc_toN s 4294967295
    rw [burst_length] at e1
    rw [← e1, burst, hN]
    have e3 := proc_xor (8 * s.length) 4294967295 0 (toN s) (errGo s.length at_ mask 32)
    rw [Nat.xor_zero, e2, ← hs, crcGo_sealed, hs] at e3
    exact e3
  rw [hs]
  refine ⟨fun he => ?_, fun ys he => ?_⟩
  · rw [he, ← hs, crcGo_sealed, hs] at hres
    exact hne (by have := congrArg (residue ^^^ ·) hres; simpa [← Nat.xor_assoc] using this.symm)
  · rw [← he, crcGo_sealed] at hres
    exact hne (by have := congrArg (residue ^^^ ·) hres; simpa [← Nat.xor_assoc] using this.symm)
end Go.Proofs.YteokkpmndfekoaaDoor
