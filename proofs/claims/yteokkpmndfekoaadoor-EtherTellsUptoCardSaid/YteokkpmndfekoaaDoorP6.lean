/- Turned twice it is what it was. Plain lists, no program. -/
import Derived.Test.YteokkpmndfekoaaDoorP5
namespace Go.Proofs.YteokkpmndfekoaaDoor

theorem ext_getD {xs ys : List UInt8} (hl : xs.length = ys.length) (h : ∀ i, i < xs.length → xs.getD i 0 = ys.getD i 0) : xs = ys := by
  refine List.ext_getElem hl fun i h1 h2 => ?_
  have := h i h1
  simpa [List.getD, h1, h2] using this
/-- the bit of its byte -/
def bitB (k : Nat) : UInt8 := (1 : UInt8) <<< UInt8.ofNat (k % 8)
theorem flipB_getD (xs : List UInt8) (k i : Nat) (hi : i < xs.length) : (flipB xs k).getD i 0 = if i = k / 8 then xs.getD i 0 ^^^ bitB k else xs.getD i 0 := by
  unfold flipB bitB
  by_cases h : i = k / 8
  · subst h
    simp [List.getD, hi]
  · simp [List.getD, h, Ne.symm h]
theorem flipB_flipB (xs : List UInt8) (k : Nat) : flipB (flipB xs k) k = xs := by
  refine ext_getD (by simp [flipB_length]) fun i hi => ?_
  rw [flipB_length, flipB_length] at hi
  rw [flipB_getD _ _ _ (by rw [flipB_length]; exact hi), flipB_getD _ _ _ hi]
  split
  · rw [UInt8.xor_assoc, UInt8.xor_self, UInt8.xor_zero]
  · rfl
theorem flipB_comm (xs : List UInt8) (a b : Nat) : flipB (flipB xs a) b = flipB (flipB xs b) a := by
  refine ext_getD (by simp [flipB_length]) fun i hi => ?_
  rw [flipB_length, flipB_length] at hi
  rw [flipB_getD _ _ _ (by rw [flipB_length]; exact hi), flipB_getD _ _ _ hi, flipB_getD _ _ _ (by rw [flipB_length]; exact hi), flipB_getD _ _ _ hi]
  split <;> split <;> try rfl
  rw [UInt8.xor_assoc, UInt8.xor_assoc, UInt8.xor_comm (bitB a)]
theorem burstGo_flip (xs : List UInt8) (at_ : Int) (mask k : Nat) : ∀ n, burstGo (flipB xs k) at_ mask n = flipB (burstGo xs at_ mask n) k := by
  intro n
  induction n with
  | zero => rfl
  | succ n ih =>
    rw [burstGo, burstGo, flipB_length, ih]
    split
    · rw [flipB_comm]
    · rfl
theorem burstGo_twice (at_ : Int) (mask : Nat) : ∀ n xs, burstGo (burstGo xs at_ mask n) at_ mask n = xs := by
  intro n
  induction n with
  | zero => intro xs; rfl
  | succ n ih =>
    intro xs
    by_cases h : hits xs.length at_ mask n = true
    · have e1 : burstGo xs at_ mask (n + 1) = flipB (burstGo xs at_ mask n) (at_ + n).toNat := by rw [burstGo, if_pos h]
      rw [burstGo, burstGo_length, if_pos h, e1, burstGo_flip, ih, flipB_flipB]
    · have e1 : burstGo xs at_ mask (n + 1) = burstGo xs at_ mask n := by rw [burstGo, if_neg h]
      rw [burstGo, burstGo_length, if_neg h, e1, ih]
theorem burst_twice (xs : List UInt8) (at_ : Int) (mask : Nat) : burst (burst xs at_ mask) at_ mask = xs := burstGo_twice at_ mask 32 xs
end Go.Proofs.YteokkpmndfekoaaDoor
