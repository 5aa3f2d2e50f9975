/- OctetBurst: what the call does. -/
import Derived.Test.YtjhndppmpldfbaaDoorOB
import Derived.Test.YtjhndppmpldfbaaDoorP7
import Derived.Test.YtjhndppmpldfbaaDoorLI
namespace Go.Proofs.YtjhndppmpldfbaaDoor
open Go Go.RowKit

set_option maxHeartbeats 3200000 in
theorem touches_c {L mask : Nat} {at_ : Int} {b : Bool} {w : World} (ha : -9223372036854775808 ≤ at_ ∧ at_ ≤ 9223372036854775807) (hm : mask < 4294967296) (hL : L ≤ 100000000000) (hb : b = true ↔ ∃ j, j < 32 ∧ hits L at_ mask j = true) :
    Calls Tryd.prog 33 #[.int .i64 (8 * (L : Int)), .int .i64 at_, .int .u32 (mask : Int)] w fun e w' => e = .returned (.bool b) ∧ w = w' := by
  go_enter Tryd.func33, Tryd.ntmps33
  have HB := Lib.hid hb
  clear hb
  go_wp2_with fail
  go_loop [7] (fun i => ∃ j : Nat, j ≤ 32 ∧ i = .int .i64 j ∧ ∀ i, i < j → hits L at_ mask i = false) (fun i => 32 - (intOf i).toNat)
  case atStart => exact ⟨0, by omega, rfl, fun i hi => absurd hi (by omega)⟩
  case round =>
    obtain ⟨j, hj, rfl, hall⟩ := hrel
    have HA := Lib.hid hall
    clear hall
    by_cases hlt : j < 32
    · have hmb := maskBit mask j hm
      have nx (hno : hits L at_ mask j = false) : ∀ i, i < j + 1 → hits L at_ mask i = false := fun i hi => by
        by_cases hij : i = j
        · subst hij; exact hno
        · exact HA.out i (by omega)
      have NX := Lib.hid nx
      clear nx
      by_cases b1 : mask / 2 ^ j % 2 = 1
      · rw [b1] at hmb
        by_cases b2 : 0 ≤ at_ + (j : Int)
        · by_cases b3 : at_ + (j : Int) < 8 * (L : Int)
          · have hh : hits L at_ mask j = true := by simp [hits, b1, b2, b3]
            have hbt : b = true := HB.out.2 ⟨j, hlt, hh⟩
            subst hbt
            have i3 : at_ < 8 * (L : Int) - j := by omega
            clear hh
            by_cases h0 : 0 ≤ at_
            · go_wp2
              go_ret
              exact ⟨rfl, rfl⟩
            · go_wp2
              go_ret
              exact ⟨rfl, rfl⟩
          · have hh : hits L at_ mask j = false := by simp [hits]; intro _ _; omega
            have HX := Lib.hid (NX.out hh)
            have i3 : ¬ at_ < 8 * (L : Int) - j := by omega
            clear hh
            by_cases h0 : 0 ≤ at_
            · go_wp2
              exact ⟨⟨j + 1, by omega, by go_num, HX.out⟩, meas_up hlt⟩
            · go_wp2
              exact ⟨⟨j + 1, by omega, by go_num, HX.out⟩, meas_up hlt⟩
        · have hh : hits L at_ mask j = false := by simp [hits]; intro _ h; omega
          have HX := Lib.hid (NX.out hh)
          have h0 : ¬ 0 ≤ at_ := by omega
          clear hh
          go_wp2
          exact ⟨⟨j + 1, by omega, by go_num, HX.out⟩, meas_up hlt⟩
      · have hh : hits L at_ mask j = false := by simp [hits]; intro h; omega
        have HX := Lib.hid (NX.out hh)
        have hb0 : mask / 2 ^ j % 2 = 0 := by omega
        rw [hb0] at hmb
        clear hh b1
        go_wp2
        exact ⟨⟨j + 1, by omega, by go_num, HX.out⟩, meas_up hlt⟩
    · obtain rfl : j = 32 := by omega
      have hbf : b = false := by
        rcases b with _ | _
        · rfl
        · obtain ⟨i, hi, hh⟩ := HB.out.1 rfl
          rw [HA.out i hi] at hh
          cases hh
      subst hbf
      go_wp2
      go_ret
      exact ⟨rfl, rfl⟩
theorem unsealS_told {t : List UInt8} (hl : 4 ≤ t.length) (h : ∀ ys, ys ++ sl ys ≠ t) : unsealS t = ([], 13) := by
  rw [unsealS, if_neg (by omega)]
  split
  · rename_i hq
    refine absurd ?_ (h (t.take (t.length - 4)))
    rw [hq, List.take_append_drop]
  · rfl
set_option maxHeartbeats 3200000 in
theorem burst_walk {v : Value} {xs : List UInt8} {at_ : Int} {mask : Nat} {w : World} (h : RdB w v xs) (ht : TabOk w) (ha : -9223372036854775808 ≤ at_ ∧ at_ ≤ 9223372036854775807) (hm : mask < 4294967296) (hb : xs.length ≤ 1000000000) :
    Calls Tryd.prog 11 #[v, .int .i64 at_, .int .u32 (mask : Int)] w fun e w' => e = .returned (.bool true) ∧ KpN w w' := by
  have hlen : (xs ++ sl xs).length = xs.length + 4 := by rw [List.length_append, sl_length]
  obtain ⟨ss, hss⟩ : ∃ ss, xs ++ sl xs = ss := ⟨_, rfl⟩
  obtain ⟨L, hL⟩ : ∃ L, xs.length + 4 = L := ⟨_, rfl⟩
  rw [hss, hL] at hlen
  have hbl := burst_length ss at_ mask
  have htw := burst_twice ss at_ mask
  have hus := unsealS_seal xs
  have htold := burst_told xs at_ mask
  have hsame := burst_same ss at_ mask
  rw [hss] at hus htold
  rw [hL] at htold
  rw [hlen] at hbl hsame
  obtain ⟨tt, htt⟩ : ∃ tt, burst ss at_ mask = tt := ⟨_, rfl⟩
  rw [htt] at hbl htw htold hsame
  have HH := Lib.hid (And.intro hlen (And.intro hbl (And.intro htw (And.intro hus (And.intro htold (And.intro hsame hL))))))
  have hLb : L ≤ 100000000000 := by omega
  have HSS := Lib.hid hss
  have HTT := Lib.hid htt
  clear hlen hbl htw hus htold hsame hL hss htt
  obtain ⟨A, c, rfl, hc⟩ := h.form
  go_enter Tryd.func11, Tryd.ntmps11
  go_wp2_with fail
  refine (knows_c ht).mono ?_
  rintro e w1 ⟨rfl, k1⟩
  go_wp2_with fail
  refine (sealed_c (h.keepN k1) (ht.keepN k1) (by omega)).mono ?_
  rintro e w2 ⟨s, rfl, o2, k2⟩
  rw [HSS.out] at o2
  have k02 := k1.thenN k2
  obtain ⟨B, d, rfl, hd⟩ := o2.readsB.form
  have hLs := HH.out.1
  rw [hLs] at o2 hd ⊢
  clear hLs
  go_wp2_with fail
  refine (burst_c o2.readsB ha hm (by have := HH.out; omega)).mono ?_
  rintro e w3 ⟨t, rfl, o3, k3⟩
  rw [HTT.out] at o3
  have k03 := k02.thenN k3
  go_wp2_with fail
  refine (unseal_c o3.readsB (ht.keepN k03) (by have := HH.out; omega)).mono ?_
  rintro e w4 ⟨x, rfl, o4, k4⟩
  have k04 := k03.thenN k4
  have s4 := o2.keepN (k3.thenN k4)
  have t4 := o3.keepN k4
  have e1 := run_toStr (P := Tryd.prog) _ Tryd.underlying22 Tryd.underlying5 Tryd.underlying9 s4.readsB
  have e2 := run_toStr (P := Tryd.prog) _ Tryd.underlying22 Tryd.underlying5 Tryd.underlying9 t4.readsB
  have e3 := run_toStr (P := Tryd.prog) _ Tryd.underlying22 Tryd.underlying5 Tryd.underlying9 o4.readsB
  have e4 := run_toStr (P := Tryd.prog) _ Tryd.underlying22 Tryd.underlying5 Tryd.underlying9 (h.keepN k04)
  by_cases hex : ∃ j, j < 32 ∧ hits L at_ mask j = true
  case' pos =>
    have h5 := HH.out.2.2.2.2.1 hex
    have hU := unsealS_told (by have := HH.out; omega) h5.2
    have hx : ((bs tt).toList == (bs ss).toList) = false := by simp only [bs_toList, beq_eq_false_iff_ne]; exact h5.1
    have HEX := Lib.hid hex
    clear hex h5
    rw [hU] at o4 e3 ⊢
    obtain ⟨X, c4, rfl, hc4⟩ := o4.readsB.form
    clear hU
    go_wp2_with (first | (refine conv_op e2 rfl ?_) | (refine conv_op e1 rfl ?_) | fail)
    refine (touches_c (b := true) ha hm (by have := HH.out; omega) (by simpa using HEX.out)).mono ?_
    rintro e w5 ⟨rfl, rfl⟩
    clear e1 e2 e3 e4 hx
    go_wp2_with fail
  case' neg =>
    have h5 : tt = ss := HH.out.2.2.2.2.2.1 (fun j hj => by
      rcases hb : hits L at_ mask j with _ | _
      · rfl
      · exact absurd ⟨j, hj, hb⟩ hex)
    have hU : unsealS tt = (xs, 0) := by rw [h5]; exact HH.out.2.2.2.1
    have HEX := Lib.hid hex
    have hx : ((bs tt).toList == (bs ss).toList) = true := by rw [h5]; simp
    rw [hU] at o4 e3 ⊢
    clear hex h5 hU
    go_wp2_with (first | (refine conv_op e2 rfl ?_) | (refine conv_op e1 rfl ?_) | (refine conv_opg e3 rfl rfl ?_) | (refine conv_opg e4 rfl rfl ?_) | fail)
    refine (touches_c (b := false) ha hm (by have := HH.out; omega) (by simpa using HEX.out)).mono ?_
    rintro e w5 ⟨rfl, rfl⟩
    clear e1 e2 e3 e4 hx
    go_wp2_with fail
  all_goals
    refine (burst_c t4.readsB ha hm (by have := HH.out; omega)).mono ?_
    rintro e w6 ⟨r, rfl, o6, k6⟩
    rw [HH.out.2.2.1] at o6
    have k06 := k04.thenN k6
    go_wp2_with fail
    refine (unseal_c o6.readsB (ht.keepN k06) (by have := HH.out; omega)).mono ?_
    rintro e w7 ⟨y, rfl, o7, k7⟩
    rw [HH.out.2.2.2.1] at o7 ⊢
    have k07 := k06.thenN k7
    have e5 := run_toStr (P := Tryd.prog) _ Tryd.underlying22 Tryd.underlying5 Tryd.underlying9 o7.readsB
    have e6 := run_toStr (P := Tryd.prog) _ Tryd.underlying22 Tryd.underlying5 Tryd.underlying9 (h.keepN k07)
    go_wp2_with (first | (refine conv_opg e5 rfl rfl ?_) | (refine conv_opg e6 rfl rfl ?_) | fail)
    go_ret
    exact ⟨rfl, k07⟩
end Go.Proofs.YtjhndppmpldfbaaDoor
