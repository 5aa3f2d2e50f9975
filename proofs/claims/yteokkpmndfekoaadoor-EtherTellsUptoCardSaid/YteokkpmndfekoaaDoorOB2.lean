/- The document's Burst. -/
import Derived.Test.YteokkpmndfekoaaDoorOB
namespace Go.Proofs.YteokkpmndfekoaaDoor
open Go Go.RowKit
set_option maxRecDepth 100000

set_option maxHeartbeats 1600000 in
theorem refTurn_c {v : Value} {ys : List UInt8} {F : Nat → Prop} {at_ : Int} {j : Nat} {w : World} (h : OwB w 5 F v ys) (ha : -9223372036854775808 ≤ at_ ∧ at_ ≤ 9223372036854775807) (hj : j < 32) (hb : ys.length ≤ 100000000000) :
    Calls Tryd.prog 45 #[v, .int .i64 at_, .int .i64 (j : Int)] w fun e w' => e = .returned v ∧
      OwB w' 5 F v (if 0 ≤ at_ + (j : Int) ∧ at_ + (j : Int) < 8 * (ys.length : Int) then flipB ys (at_ + j).toNat else ys) ∧ Kp F w w' := by
  obtain ⟨A, c, rfl, hc⟩ := h.readsB.form
  go_enter Tryd.func45, Tryd.ntmps45
  by_cases b2 : 0 ≤ at_ + (j : Int)
  · by_cases b3 : at_ + (j : Int) < 8 * (ys.length : Int)
    · rw [if_pos ⟨b2, b3⟩]
      obtain ⟨kk, hkk⟩ := Int.eq_ofNat_of_zero_le b2
      have hlen : 0 < ys.length := by omega
      obtain ⟨g, cap, he, hg, hcap⟩ := h.form hlen
      injection he with he1 he2 he3
      subst he1 he3
      obtain ⟨q, hq⟩ : ∃ q, kk / 8 = q := ⟨_, rfl⟩
      obtain ⟨r, hr⟩ : ∃ r, kk % 8 = r := ⟨_, rfl⟩
      have hk8 : q < ys.length := by omega
      obtain ⟨bb, hbb⟩ : ∃ bb, ys[q]'(by omega) = bb := ⟨_, rfl⟩
      have cc := h.byteAt rfl q (by omega)
      rw [hbb] at cc
      have cf := h.frozenAt q
      have cx := xor_shl bb r (by omega)
      have ho2 := h.putB rfl q (bb ^^^ ((1 : UInt8) <<< UInt8.ofNat r))
      have hS : flipB ys (at_ + (j : Int)).toNat = ys.set q (bb ^^^ ((1 : UInt8) <<< UInt8.ofNat r)) := by
        rw [hkk, flipB, show ((kk : Nat) : Int).toNat = kk by omega, hq, hr, getD_lt _ _ (by omega), hbb]
      rw [hS]
      have hkp2 := ((Kp.refl F w).setCell (p := ⟨g, q, none⟩) (.inl hg) (bv (bb ^^^ ((1 : UInt8) <<< UInt8.ofNat r)))).drew
      have ho3 := ho2.drew
      clear hS
      generalize bb ^^^ ((1 : UInt8) <<< UInt8.ofNat r) = nb at *
      simp only [bv] at cc ho3 hkp2
      have e8 : ((kk : Int) / 8) = (q : Int) := by omega
      have m8 : ((kk : Int) % 8) = (r : Int) := by omega
      have hr8 : r < 8 := by omega
      have i2 : ¬ 8 * (ys.length : Int) - j ≤ at_ := by omega
      clear he2 hcap hlen hq hr ho2 hbb
      by_cases ha0 : at_ < 0
      · go_wp2
        go_region
        go_wp2
        go_ret
        exact ⟨rfl, ho3, hkp2⟩
      · go_wp2
        go_region
        go_wp2
        go_ret
        exact ⟨rfl, ho3, hkp2⟩
    · rw [if_neg (fun h => b3 h.2)]
      have i2 : 8 * (ys.length : Int) - j ≤ at_ := by omega
      by_cases ha0 : at_ < 0
      · go_wp2
        go_ret
        exact ⟨rfl, h, Kp.refl _ _⟩
      · go_wp2
        go_ret
        exact ⟨rfl, h, Kp.refl _ _⟩
  · rw [if_neg (fun h => b2 h.1)]
    have ha0 : at_ < 0 := by omega
    go_wp2
    go_ret
    exact ⟨rfl, h, Kp.refl _ _⟩
theorem burstGo_if (xs : List UInt8) (at_ : Int) (mask j : Nat) (h : mask / 2 ^ j % 2 = 1) :
    burstGo xs at_ mask (j + 1) = if 0 ≤ at_ + (j : Int) ∧ at_ + (j : Int) < 8 * ((burstGo xs at_ mask j).length : Int) then flipB (burstGo xs at_ mask j) (at_ + j).toNat else burstGo xs at_ mask j := by
  rw [burstGo, burstGo_length]
  simp only [hits, h, Bool.and_eq_true, decide_eq_true_eq]
  simp
set_option maxHeartbeats 1600000 in
theorem refBurst_c {v : Value} {xs : List UInt8} {at_ : Int} {mask : Nat} {w : World} (h : RdB w v xs) (ha : -9223372036854775808 ≤ at_ ∧ at_ ≤ 9223372036854775807) (hm : mask < 4294967296) (hb : xs.length ≤ 100000000000) :
    Calls Tryd.prog 43 #[v, .int .i64 at_, .int .u32 (mask : Int)] w (GotB 5 w (burst xs at_ mask)) := by
  obtain ⟨v1, w1, r1, o1, k1⟩ := run_appB_nil (P := Tryd.prog) (ty := 26) w Tryd.underlying26 u8info h (by omega)
  obtain ⟨A, c, rfl, hc⟩ := h.form
  go_enter Tryd.func43, Tryd.ntmps43
  go_wp2_with (first | (refine app_op r1 rfl rfl ?_) | fail)
  go_loopw [7, 8] (fun o i wr => o = v1 ∧ BurstRel v1 (Iv w.heap.size w1.heap.size) xs at_ mask w1 i wr) (fun _ i _ => 32 - (intOf i).toNat)
  case atStart => exact ⟨rfl, 0, by omega, rfl, o1, Kp.refl _ _⟩
  case round =>
    obtain ⟨rfl, j, hj, rfl, ho, hkp⟩ := hrel
    by_cases hlt : j < 32
    · have hmb := maskBit mask j hm
      by_cases b1 : mask / 2 ^ j % 2 = 1
      · rw [b1] at hmb
        have hS := burstGo_if xs at_ mask j b1
        have hl := burstGo_length xs at_ mask j
        have HS := Lib.hid hS
        have HL := Lib.hid hl
        clear hS hl
        go_wp2_with fail
        refine (refTurn_c ho ha hlt (by have := HL.out; omega)).mono ?_
        rintro e w2 ⟨rfl, o2, k2⟩
        rw [← HS.out] at o2
        have hkp2 := hkp.trans k2 (fun _ _ x => x) (fun _ _ x => x)
        go_wp2
        go_roundw
        case rel => exact ⟨rfl, j + 1, by omega, by go_num, o2, hkp2⟩
        case measure => exact meas_up hlt
      · have hS : burstGo xs at_ mask (j + 1) = burstGo xs at_ mask j := by
          rw [burstGo, if_neg (by simp only [hits, Bool.and_eq_true, decide_eq_true_eq, beq_iff_eq]; exact fun h => b1 h.1.1)]
        rw [← hS] at ho
        have hb0 : mask / 2 ^ j % 2 = 0 := by omega
        rw [hb0] at hmb
        clear hS b1
        go_wp2
        go_roundw
        case rel => exact ⟨rfl, j + 1, by omega, by go_num, ho, hkp⟩
        case measure => exact meas_up hlt
    · obtain rfl : j = 32 := by omega
      go_wp2
      go_ret
      exact ⟨_, rfl, ho.wide (fun k _ hk => ⟨hk.1, by have := hkp.size; have := hk.2; omega⟩), k1.fresh hkp (fun i h1 => h1.1)⟩
end Go.Proofs.YteokkpmndfekoaaDoor
