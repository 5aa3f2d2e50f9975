/- Burst. -/
import Derived.Test.YteokkpmndfekoaaDoorO2
import Derived.Test.YteokkpmndfekoaaDoorP5
import Derived.Test.YteokkpmndfekoaaDoorR
import Derived.WalkArith
namespace Go.Proofs.YteokkpmndfekoaaDoor
open Go Go.RowKit
set_option maxRecDepth 100000

theorem and1 (a : Nat) (ha : a < 4294967296) : bits .and .u32 (a : Int) 1 = ((a % 2 : Nat) : Int) := by
  have := u32_and_nat a 1 ha (by omega)
  rwa [Nat.and_one_is_mod] at this
theorem maskBit (mask j : Nat) (hm : mask < 4294967296) : bits .and .u32 ((mask : Int) / 2 ^ j) 1 = ((mask / 2 ^ j % 2 : Nat) : Int) := by
  have := and1 (mask / 2 ^ j) (Nat.lt_of_le_of_lt (Nat.div_le_self _ _) hm)
  rw [← this]
  congr 1 <;> simp
theorem shl_byte : ∀ r, r < 8 → (((1 : UInt8) <<< UInt8.ofNat r).toNat : Int) = 2 ^ r % 256 := by decide
theorem xor_shl (b : UInt8) (r : Nat) (h : r < 8) : bits .xor .u8 (b.toNat : Int) (2 ^ r % 256) = ((b ^^^ ((1 : UInt8) <<< UInt8.ofNat r)).toNat : Int) := by
  rw [← shl_byte r h]
  exact xor_bv _ _
def BurstRel (u : Value) (F : Nat → Prop) (xs : List UInt8) (at_ : Int) (mask : Nat) (w : World) (i : Value) (wr : World) : Prop :=
  ∃ j : Nat, j ≤ 32 ∧ i = .int .i64 j ∧ OwB wr 5 F u (burstGo xs at_ mask j) ∧ Kp F w wr
set_option maxHeartbeats 1600000 in
theorem burst_c {v : Value} {xs : List UInt8} {at_ : Int} {mask : Nat} {w : World} (h : RdB w v xs) (ha : -9223372036854775808 ≤ at_ ∧ at_ ≤ 9223372036854775807) (hm : mask < 4294967296) (hb : xs.length ≤ 100000000000) :
    Calls Tryd.prog 16 #[v, .int .i64 at_, .int .u32 (mask : Int)] w (GotB 5 w (burst xs at_ mask)) := by
  obtain ⟨A, c, rfl, hc⟩ := h.form
  go_enter Tryd.func16, Tryd.ntmps16
  go_wp2_with fail
  refine (clone_c h (by omega)).mono ?_
  rintro e w1 ⟨v1, rfl, o1, k1⟩
  by_cases hout : at_ < -31 ∨ 8 * (xs.length : Int) ≤ at_
  · have hr := burst_out xs at_ mask hout
    have HR := Lib.hid hr
    clear hr
    rcases hout with h1 | h1
    all_goals go_wp2_with fail
    all_goals go_ret
    all_goals exact ⟨v1, rfl, by rw [HR.out]; exact o1, k1⟩
  · obtain ⟨A1, c1, rfl, hc1⟩ := o1.readsB.form
    have h1 : ¬ at_ < -31 := by omega
    have h2 : ¬ 8 * (xs.length : Int) ≤ at_ := by omega
    have H12 := Lib.hid (show -31 ≤ at_ ∧ at_ < 8 * (xs.length : Int) from by omega)
    clear hout
    go_wp2_with fail
    go_loopw [22] (fun i wr => BurstRel (.slice A1 xs.length c1) (Iv w.heap.size w1.heap.size) xs at_ mask w1 i wr) (fun i _ => 32 - (intOf i).toNat)
    case atStart => exact ⟨0, by omega, rfl, o1, Kp.refl _ _⟩
    case round =>
      obtain ⟨j, hj, rfl, ho, hkp⟩ := hrel
      have hl := burstGo_length xs at_ mask j
      by_cases hlt : j < 32
      · have hmb := maskBit mask j hm
        by_cases b1 : mask / 2 ^ j % 2 = 1
        · rw [b1] at hmb
          by_cases b2 : 0 ≤ at_ + (j : Int)
          · by_cases b3 : at_ + (j : Int) < 8 * (xs.length : Int)
            · obtain ⟨kk, hkk⟩ := Int.eq_ofNat_of_zero_le b2
              have hlen : 0 < (burstGo xs at_ mask j).length := by omega
              obtain ⟨g, cap, he, hg, hcap⟩ := ho.form hlen
              injection he with he1 he2 he3
              subst he1 he3
              obtain ⟨q, hq⟩ : ∃ q, kk / 8 = q := ⟨_, rfl⟩
              obtain ⟨r, hr⟩ : ∃ r, kk % 8 = r := ⟨_, rfl⟩
              have hk8 : q < xs.length := by omega
              obtain ⟨bb, hbb⟩ : ∃ bb, (burstGo xs at_ mask j)[q]'(by omega) = bb := ⟨_, rfl⟩
              have cc := ho.byteAt hl.symm q (by omega)
              rw [hbb] at cc
              have cf := ho.frozenAt q
              have cx := xor_shl bb r (by omega)
              have ho2 := ho.putB hl.symm q (bb ^^^ ((1 : UInt8) <<< UInt8.ofNat r))
              have hS : burstGo xs at_ mask (j + 1) = (burstGo xs at_ mask j).set q (bb ^^^ ((1 : UInt8) <<< UInt8.ofNat r)) := by
                rw [burstGo, if_pos (by simp only [hits, b1, Bool.and_eq_true, decide_eq_true_eq]; exact ⟨⟨rfl, b2⟩, b3⟩), hkk, flipB]
                rw [show ((kk : Nat) : Int).toNat = kk by omega, hq, hr, getD_lt _ _ (by omega), hbb]
              rw [← hS] at ho2
              have hkp2 := (hkp.setCell (p := ⟨g, q, none⟩) (.inl hg) (bv (bb ^^^ ((1 : UInt8) <<< UInt8.ofNat r)))).drew
              have ho3 := ho2.drew
              clear hS
              generalize bb ^^^ ((1 : UInt8) <<< UInt8.ofNat r) = nb at *
              simp only [bv] at cc ho3 hkp2
              have e8 : ((kk : Int) / 8) = (q : Int) := by omega
              have m8 : ((kk : Int) % 8) = (r : Int) := by omega
              have hr8 : r < 8 := by omega
              clear he2 hcap hlen hq hr ho2 hbb
              go_wp2
              go_region
              go_wp2
              go_roundw
              case rel => exact ⟨j + 1, by omega, by go_num, ho3, hkp2⟩
              case measure => exact meas_up hlt
            · have hS : burstGo xs at_ mask (j + 1) = burstGo xs at_ mask j := by
                rw [burstGo, if_neg (by simp only [hits, Bool.and_eq_true, decide_eq_true_eq]; exact fun h => b3 h.2)]
              rw [← hS] at ho
              clear hS hl
              go_wp2
              go_roundw
              case rel => exact ⟨j + 1, by omega, by go_num, ho, hkp⟩
              case measure => exact meas_up hlt
          · have hS : burstGo xs at_ mask (j + 1) = burstGo xs at_ mask j := by
              rw [burstGo, if_neg (by simp only [hits, Bool.and_eq_true, decide_eq_true_eq]; exact fun h => b2 h.1.2)]
            rw [← hS] at ho
            clear hS hl
            go_wp2
            go_roundw
            case rel => exact ⟨j + 1, by omega, by go_num, ho, hkp⟩
            case measure => exact meas_up hlt
        · have hS : burstGo xs at_ mask (j + 1) = burstGo xs at_ mask j := by
            rw [burstGo, if_neg (by simp only [hits, Bool.and_eq_true, decide_eq_true_eq, beq_iff_eq]; exact fun h => b1 h.1.1)]
          rw [← hS] at ho
          have hb0 : mask / 2 ^ j % 2 = 0 := by omega
          rw [hb0] at hmb
          clear hS hl b1
          go_wp2
          go_roundw
          case rel => exact ⟨j + 1, by omega, by go_num, ho, hkp⟩
          case measure => exact meas_up hlt
      · obtain rfl : j = 32 := by omega
        clear hl
        go_wp2
        go_ret
        exact ⟨_, rfl, ho.wide (fun k _ hk => ⟨hk.1, by have := hkp.size; have := hk.2; omega⟩), k1.fresh hkp (fun i h1 => h1.1)⟩
end Go.Proofs.YteokkpmndfekoaaDoor
