/- Burst, over plain lists: no program. -/
namespace Go.Proofs.YteokkpmndfekoaaDoor

/-- bit k of the list turned -/
def flipB (xs : List UInt8) (k : Nat) : List UInt8 := xs.set (k / 8) (xs.getD (k / 8) 0 ^^^ ((1 : UInt8) <<< UInt8.ofNat (k % 8)))
/-- is bit j of the mask to be turned? -/
def hits (n : Nat) (at_ : Int) (mask j : Nat) : Bool := mask / 2 ^ j % 2 == 1 && decide (0 ≤ at_ + j) && decide (at_ + j < 8 * (n : Int))
def burstGo (xs : List UInt8) (at_ : Int) (mask : Nat) : Nat → List UInt8
  | 0 => xs
  | j + 1 => if hits xs.length at_ mask j then flipB (burstGo xs at_ mask j) (at_ + j).toNat else burstGo xs at_ mask j
def burst (xs : List UInt8) (at_ : Int) (mask : Nat) : List UInt8 := burstGo xs at_ mask 32
theorem flipB_length (xs : List UInt8) (k : Nat) : (flipB xs k).length = xs.length := by simp [flipB]
theorem burstGo_length (xs : List UInt8) (at_ : Int) (mask : Nat) : ∀ j, (burstGo xs at_ mask j).length = xs.length := by
  intro j
  induction j with
  | zero => rfl
  | succ j ih =>
    rw [burstGo]
    split
    · rw [flipB_length, ih]
    · exact ih
theorem burst_length (xs : List UInt8) (at_ : Int) (mask : Nat) : (burst xs at_ mask).length = xs.length := burstGo_length _ _ _ _
theorem burstGo_none (xs : List UInt8) (at_ : Int) (mask n : Nat) (h : ∀ j, j < n → hits xs.length at_ mask j = false) : burstGo xs at_ mask n = xs := by
  induction n with
  | zero => rfl
  | succ n ih =>
    rw [burstGo, h n (by omega)]
    simpa using ih (fun j hj => h j (by omega))
theorem burst_out (xs : List UInt8) (at_ : Int) (mask : Nat) (h : at_ < -31 ∨ 8 * (xs.length : Int) ≤ at_) : burst xs at_ mask = xs := by
  refine burstGo_none _ _ _ _ fun j hj => ?_
  unfold hits
  rcases h with h | h
  · rw [show decide (0 ≤ at_ + j) = false by simp; omega]; simp
  · rw [show decide (at_ + j < 8 * (xs.length : Int)) = false by simp; omega]; simp
end Go.Proofs.YteokkpmndfekoaaDoor
