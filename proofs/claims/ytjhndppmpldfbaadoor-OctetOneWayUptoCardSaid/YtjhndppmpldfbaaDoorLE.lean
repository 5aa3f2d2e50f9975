/- OctetOneWay: what the call does. -/
import Derived.Test.YtjhndppmpldfbaaDoorOK
import Derived.Test.YtjhndppmpldfbaaDoorP4
import Derived.Test.YtjhndppmpldfbaaDoorR
namespace Go.Proofs.YtjhndppmpldfbaaDoor
open Go Go.RowKit

theorem toList_inj {a b : ByteArray} (h : a.toList = b.toList) : a = b := by
  rw [ByteArray.toList_eq, ByteArray.toList_eq] at h
  exact ByteArray.ext (Array.toList_inj.1 h)

set_option maxHeartbeats 1600000 in
theorem oneWay_walk {v : Value} {xs : List UInt8} {n m : Nat} {w : World} (h : RdB w v xs) (ht : TabOk w) (hb : xs.length ≤ 100000000000) (hn : n < 18446744073709551616) (hm : m < 18446744073709551616) :
    Calls Tryd.prog 6 #[v, .int .u64 (n : Int), .int .u64 (m : Int)] w fun e w' => e = .returned (.bool true) ∧ KpN w w' := by
  have hN0 : ∃ nx k e, numS xs = (nx, k, e) := ⟨_, _, _, rfl⟩
  obtain ⟨nx, k, e0, hN⟩ := hN0
  have hx64 : nx < 18446744073709551616 := by have := numS_lt xs; rw [hN] at this; exact this
  have he0 : e0 = 0 ∨ e0 = 10 ∨ e0 = 12 := by have := numS_err xs; rw [hN] at this; exact this
  obtain ⟨A, c, rfl, hc⟩ := h.form
  go_enter Tryd.func6, Tryd.ntmps6
  have HN := Lib.hid hN
  clear hN
  go_wp2_with fail
  refine (knows_c ht).mono ?_
  rintro e w1 ⟨rfl, k1⟩
  go_wp2_with fail
  refine (num_c (h.keepN k1) (by omega)).mono ?_
  rintro e w2 ⟨rfl, rfl⟩
  rw [HN.out, num3]
  go_wp2_with fail
  by_cases hz : e0 = 0
  case' pos =>
    subst hz
    have hi := numS_inv HN.out
    have hk1 := hi.1
    have hk2 := hi.2.2.1
    have HI := Lib.hid hi.2.2.2
    clear hi he0
    have t4 : decide ((k : Int) < 1) = false := by simp; omega
    have t9 : decide ((k : Int) > xs.length) = false := by simp; omega
    have hkc : k ≤ c := by omega
    refine rg_begin 22 (fun _ => False) (by kernel_rfl) (fun w2 d2 => ?_)
    have r2 := (h.keepN (k1.thenN d2))
    have r3 := r2.take k hk2
    refine rg_take 0 (d := (some 22)) (v := .int .i64 0) (by decide) rfl rfl (by kernel_rfl) (by kernel_rfl) (by kernel_rfl) (fun _ _ _ h => h) rfl (fun W => rfl) ?_
    conv => arg 8; simp only [Act.put, List.setIfInBounds_toArray, List.set_cons_zero, List.set_cons_succ]
    refine rg_take 1 (d := (some 23)) (v := .bool true) (by decide) rfl rfl (by kernel_rfl) (by kernel_rfl) (by kernel_rfl) (fun _ _ _ h => h) rfl (fun W => by go_simp) ?_
    conv => arg 8; simp only [Act.put, List.setIfInBounds_toArray, List.set_cons_zero, List.set_cons_succ]
    refine rg_take 2 (d := (some 24)) (v := .bool true) (by decide) rfl rfl (by kernel_rfl) (by kernel_rfl) (by kernel_rfl) (fun _ _ _ h => h) rfl (fun W => rfl) ?_
    conv => arg 8; simp only [Act.put, List.setIfInBounds_toArray, List.set_cons_zero, List.set_cons_succ]
    refine rg_take 3 (d := (some 25)) (v := .int .i64 k) (by decide) rfl rfl (by kernel_rfl) (by kernel_rfl) (by kernel_rfl) (fun _ _ _ h => h) rfl (fun W => rfl) ?_
    conv => arg 8; simp only [Act.put, List.setIfInBounds_toArray, List.set_cons_zero, List.set_cons_succ]
    refine rg_take 4 (d := (some 26)) (v := .bool false) (by decide) rfl rfl (by kernel_rfl) (by kernel_rfl) (by kernel_rfl) (fun _ _ _ h => h) rfl (fun W => by go_simp) ?_
    conv => arg 8; simp only [Act.put, List.setIfInBounds_toArray, List.set_cons_zero, List.set_cons_succ]
    refine rg_take 5 (d := (some 27)) (v := .bool false) (by decide) rfl rfl (by kernel_rfl) (by kernel_rfl) (by kernel_rfl) (fun _ _ _ h => h) rfl (fun W => rfl) ?_
    conv => arg 8; simp only [Act.put, List.setIfInBounds_toArray, List.set_cons_zero, List.set_cons_succ]
    refine rg_take 6 (d := (some 28)) (v := .int .i64 k) (by decide) rfl rfl (by kernel_rfl) (by kernel_rfl) (by kernel_rfl) (fun _ _ _ h => h) rfl (fun W => rfl) ?_
    conv => arg 8; simp only [Act.put, List.setIfInBounds_toArray, List.set_cons_zero, List.set_cons_succ]
    refine rg_take 7 (d := (some 29)) (v := .slice A xs.length c) (by decide) rfl rfl (by kernel_rfl) (by kernel_rfl) (by kernel_rfl) (fun _ _ _ h => h) rfl (fun W => rfl) ?_
    conv => arg 8; simp only [Act.put, List.setIfInBounds_toArray, List.set_cons_zero, List.set_cons_succ]
    refine rg_take 8 (d := (some 30)) (v := .int .i64 xs.length) (by decide) rfl rfl (by kernel_rfl) (by kernel_rfl) (by kernel_rfl) (fun _ _ _ h => h) rfl (fun W => by go_simp) ?_
    conv => arg 8; simp only [Act.put, List.setIfInBounds_toArray, List.set_cons_zero, List.set_cons_succ]
    refine rg_take 9 (d := (some 31)) (v := .bool false) (by decide) rfl rfl (by kernel_rfl) (by kernel_rfl) (by kernel_rfl) (fun _ _ _ h => h) rfl (fun W => by go_simp) ?_
    conv => arg 8; simp only [Act.put, List.setIfInBounds_toArray, List.set_cons_zero, List.set_cons_succ]
    refine rg_take 10 (d := (some 32)) (v := .bool false) (by decide) rfl rfl (by kernel_rfl) (by kernel_rfl) (by kernel_rfl) (fun _ _ _ h => h) rfl (fun W => rfl) ?_
    conv => arg 8; simp only [Act.put, List.setIfInBounds_toArray, List.set_cons_zero, List.set_cons_succ]
    refine rg_take 11 (d := (some 33)) (v := .bool false) (by decide) rfl rfl (by kernel_rfl) (by kernel_rfl) (by kernel_rfl) (fun _ _ _ h => h) rfl (fun W => rfl) ?_
    conv => arg 8; simp only [Act.put, List.setIfInBounds_toArray, List.set_cons_zero, List.set_cons_succ]
    refine rg_take 12 (d := (some 34)) (v := .int .u64 nx) (by decide) rfl rfl (by kernel_rfl) (by kernel_rfl) (by kernel_rfl) (fun _ _ _ h => h) rfl (fun W => rfl) ?_
    conv => arg 8; simp only [Act.put, List.setIfInBounds_toArray, List.set_cons_zero, List.set_cons_succ]
    refine rg_take 15 (d := (some 37)) (v := .slice A xs.length c) (by decide) rfl rfl (by kernel_rfl) (by kernel_rfl) (by kernel_rfl) (fun _ _ _ h => h) rfl (fun W => rfl) ?_
    conv => arg 8; simp only [Act.put, List.setIfInBounds_toArray, List.set_cons_zero, List.set_cons_succ]
    refine rg_take 16 (d := (some 38)) (v := .int .i64 k) (by decide) rfl rfl (by kernel_rfl) (by kernel_rfl) (by kernel_rfl) (fun _ _ _ h => h) rfl (fun W => rfl) ?_
    conv => arg 8; simp only [Act.put, List.setIfInBounds_toArray, List.set_cons_zero, List.set_cons_succ]
    refine rg_take 17 (d := (some 39)) (v := .slice A k c) (by decide) rfl rfl (by kernel_rfl) (by kernel_rfl) (by kernel_rfl) (fun _ _ _ h => h) rfl (fun W => by go_simp) ?_
    conv => arg 8; simp only [Act.put, List.setIfInBounds_toArray, List.set_cons_zero, List.set_cons_succ]
    refine rg_conv 18 (d := (some 40)) (r3) (fun _ _ x => x) Tryd.underlying22 Tryd.underlying5 Tryd.underlying9 (by decide) (by kernel_rfl) (by kernel_rfl) rfl rfl (by kernel_rfl) (by kernel_rfl) (by kernel_rfl) (fun _ _ _ h => h) rfl rfl ?_
    conv => arg 8; simp only [Act.put, List.setIfInBounds_toArray, List.set_cons_zero, List.set_cons_succ]
    refine rg_call 13 (d := (some 35)) (by kernel_rfl) (number_c (RdB.nil _) hx64 (by simp)) rfl rfl (by kernel_rfl) rfl rfl ?_
    rintro e w3 ⟨a3, rfl, o3, k3⟩
    refine ⟨_, rfl, k3, ?_⟩
    conv => arg 8; simp only [Act.put, List.setIfInBounds_toArray, List.set_cons_zero, List.set_cons_succ]
    rw [List.nil_append, ← HI.out] at o3
    refine rg_conv1 14 (d := (some 36)) (o3.readsB) Tryd.underlying22 Tryd.underlying5 Tryd.underlying9 rfl rfl (by kernel_rfl) rfl rfl ?_
    conv => arg 8; simp only [Act.put, List.setIfInBounds_toArray, List.set_cons_zero, List.set_cons_succ]
    refine rg_take 19 (d := (some 41)) (v := .bool false) (by decide) rfl rfl (by kernel_rfl) (by kernel_rfl) (by kernel_rfl) (fun _ _ _ h => h) rfl (fun W => by go_simp) ?_
    conv => arg 8; simp only [Act.put, List.setIfInBounds_toArray, List.set_cons_zero, List.set_cons_succ]
    refine rg_take 20 (d := (some 42)) (v := .bool false) (by decide) rfl rfl (by kernel_rfl) (by kernel_rfl) (by kernel_rfl) (fun _ _ _ h => h) rfl (fun W => rfl) ?_
    conv => arg 8; simp only [Act.put, List.setIfInBounds_toArray, List.set_cons_zero, List.set_cons_succ]
    refine rg_take 21 (d := (some 43)) (v := .bool false) (by decide) rfl rfl (by kernel_rfl) (by kernel_rfl) (by kernel_rfl) (fun _ _ _ h => h) rfl (fun W => rfl) ?_
    conv => arg 8; simp only [Act.put, List.setIfInBounds_toArray, List.set_cons_zero, List.set_cons_succ]
    refine rg_done (by kernel_rfl) ?_
    have k26 := (k1.thenN d2).thenN k3
  case' neg =>
    have hz' : ¬ ((e0 : Int) = 0) := by omega
    refine rg_begin 22 (fun _ => False) (by kernel_rfl) (fun w2 d2 => ?_)
    refine rg_take 0 (d := (some 22)) (v := .int .i64 e0) (by decide) rfl rfl (by kernel_rfl) (by kernel_rfl) (by kernel_rfl) (fun _ _ _ h => h) rfl (fun W => rfl) ?_
    conv => arg 8; simp only [Act.put, List.setIfInBounds_toArray, List.set_cons_zero, List.set_cons_succ]
    refine rg_take 1 (d := (some 23)) (v := .bool false) (by decide) rfl rfl (by kernel_rfl) (by kernel_rfl) (by kernel_rfl) (fun _ _ _ h => h) rfl (fun W => by go_simp) ?_
    conv => arg 8; simp only [Act.put, List.setIfInBounds_toArray, List.set_cons_zero, List.set_cons_succ]
    refine rg_take 2 (d := (some 24)) (v := .bool false) (by decide) rfl rfl (by kernel_rfl) (by kernel_rfl) (by kernel_rfl) (fun _ _ _ h => h) rfl (fun W => rfl) ?_
    conv => arg 8; simp only [Act.put, List.setIfInBounds_toArray, List.set_cons_zero, List.set_cons_succ]
    refine rg_skip 3 (d := (some 25)) (by decide) rfl rfl (by kernel_rfl) (by kernel_rfl) (by kernel_rfl) (fun _ _ _ h => h) rfl ?_
    conv => arg 8; simp only [Act.put, List.setIfInBounds_toArray, List.set_cons_zero, List.set_cons_succ]
    refine rg_skip 4 (d := (some 26)) (by decide) rfl rfl (by kernel_rfl) (by kernel_rfl) (by kernel_rfl) (fun _ _ _ h => h) rfl ?_
    conv => arg 8; simp only [Act.put, List.setIfInBounds_toArray, List.set_cons_zero, List.set_cons_succ]
    refine rg_skip 5 (d := (some 27)) (by decide) rfl rfl (by kernel_rfl) (by kernel_rfl) (by kernel_rfl) (fun _ _ _ h => h) rfl ?_
    conv => arg 8; simp only [Act.put, List.setIfInBounds_toArray, List.set_cons_zero, List.set_cons_succ]
    refine rg_skip 6 (d := (some 28)) (by decide) rfl rfl (by kernel_rfl) (by kernel_rfl) (by kernel_rfl) (fun _ _ _ h => h) rfl ?_
    conv => arg 8; simp only [Act.put, List.setIfInBounds_toArray, List.set_cons_zero, List.set_cons_succ]
    refine rg_skip 7 (d := (some 29)) (by decide) rfl rfl (by kernel_rfl) (by kernel_rfl) (by kernel_rfl) (fun _ _ _ h => h) rfl ?_
    conv => arg 8; simp only [Act.put, List.setIfInBounds_toArray, List.set_cons_zero, List.set_cons_succ]
    refine rg_skip 8 (d := (some 30)) (by decide) rfl rfl (by kernel_rfl) (by kernel_rfl) (by kernel_rfl) (fun _ _ _ h => h) rfl ?_
    conv => arg 8; simp only [Act.put, List.setIfInBounds_toArray, List.set_cons_zero, List.set_cons_succ]
    refine rg_skip 9 (d := (some 31)) (by decide) rfl rfl (by kernel_rfl) (by kernel_rfl) (by kernel_rfl) (fun _ _ _ h => h) rfl ?_
    conv => arg 8; simp only [Act.put, List.setIfInBounds_toArray, List.set_cons_zero, List.set_cons_succ]
    refine rg_skip 10 (d := (some 32)) (by decide) rfl rfl (by kernel_rfl) (by kernel_rfl) (by kernel_rfl) (fun _ _ _ h => h) rfl ?_
    conv => arg 8; simp only [Act.put, List.setIfInBounds_toArray, List.set_cons_zero, List.set_cons_succ]
    refine rg_skip 11 (d := (some 33)) (by decide) rfl rfl (by kernel_rfl) (by kernel_rfl) (by kernel_rfl) (fun _ _ _ h => h) rfl ?_
    conv => arg 8; simp only [Act.put, List.setIfInBounds_toArray, List.set_cons_zero, List.set_cons_succ]
    refine rg_skip 12 (d := (some 34)) (by decide) rfl rfl (by kernel_rfl) (by kernel_rfl) (by kernel_rfl) (fun _ _ _ h => h) rfl ?_
    conv => arg 8; simp only [Act.put, List.setIfInBounds_toArray, List.set_cons_zero, List.set_cons_succ]
    refine rg_skip 13 (d := (some 35)) (by decide) rfl rfl (by kernel_rfl) (by kernel_rfl) (by kernel_rfl) (fun _ _ _ h => h) rfl ?_
    conv => arg 8; simp only [Act.put, List.setIfInBounds_toArray, List.set_cons_zero, List.set_cons_succ]
    refine rg_skip 14 (d := (some 36)) (by decide) rfl rfl (by kernel_rfl) (by kernel_rfl) (by kernel_rfl) (fun _ _ _ h => h) rfl ?_
    conv => arg 8; simp only [Act.put, List.setIfInBounds_toArray, List.set_cons_zero, List.set_cons_succ]
    refine rg_skip 15 (d := (some 37)) (by decide) rfl rfl (by kernel_rfl) (by kernel_rfl) (by kernel_rfl) (fun _ _ _ h => h) rfl ?_
    conv => arg 8; simp only [Act.put, List.setIfInBounds_toArray, List.set_cons_zero, List.set_cons_succ]
    refine rg_skip 16 (d := (some 38)) (by decide) rfl rfl (by kernel_rfl) (by kernel_rfl) (by kernel_rfl) (fun _ _ _ h => h) rfl ?_
    conv => arg 8; simp only [Act.put, List.setIfInBounds_toArray, List.set_cons_zero, List.set_cons_succ]
    refine rg_skip 17 (d := (some 39)) (by decide) rfl rfl (by kernel_rfl) (by kernel_rfl) (by kernel_rfl) (fun _ _ _ h => h) rfl ?_
    conv => arg 8; simp only [Act.put, List.setIfInBounds_toArray, List.set_cons_zero, List.set_cons_succ]
    refine rg_skip 18 (d := (some 40)) (by decide) rfl rfl (by kernel_rfl) (by kernel_rfl) (by kernel_rfl) (fun _ _ _ h => h) rfl ?_
    conv => arg 8; simp only [Act.put, List.setIfInBounds_toArray, List.set_cons_zero, List.set_cons_succ]
    refine rg_skip 19 (d := (some 41)) (by decide) rfl rfl (by kernel_rfl) (by kernel_rfl) (by kernel_rfl) (fun _ _ _ h => h) rfl ?_
    conv => arg 8; simp only [Act.put, List.setIfInBounds_toArray, List.set_cons_zero, List.set_cons_succ]
    refine rg_skip 20 (d := (some 42)) (by decide) rfl rfl (by kernel_rfl) (by kernel_rfl) (by kernel_rfl) (fun _ _ _ h => h) rfl ?_
    conv => arg 8; simp only [Act.put, List.setIfInBounds_toArray, List.set_cons_zero, List.set_cons_succ]
    refine rg_take 21 (d := (some 43)) (v := .bool false) (by decide) rfl rfl (by kernel_rfl) (by kernel_rfl) (by kernel_rfl) (fun _ _ _ h => h) rfl (fun W => rfl) ?_
    conv => arg 8; simp only [Act.put, List.setIfInBounds_toArray, List.set_cons_zero, List.set_cons_succ]
    refine rg_done (by kernel_rfl) ?_
    have k26 := k1.thenN d2
  all_goals
    go_wp2_with fail
    refine (number_c (RdB.nil _) hn (by simp)).mono ?_
    rintro e w5 ⟨a5, rfl, o5, k5⟩
    rw [List.nil_append] at o5
    have e5 := run_toStr (P := Tryd.prog) _ Tryd.underlying22 Tryd.underlying5 Tryd.underlying9 o5.readsB
    go_wp2_with (first | (refine conv_op e5 rfl ?_) | fail)
    refine (number_c (RdB.nil _) hm (by simp)).mono ?_
    rintro e w6 ⟨a6, rfl, o6, k6⟩
    rw [List.nil_append] at o6
    have e6 := run_toStr (P := Tryd.prog) _ Tryd.underlying22 Tryd.underlying5 Tryd.underlying9 o6.readsB
    clear e5
    have hn0 := sd_pos n
    have hm0 := sd_pos m
    have hn10 := sd_length n hn
    have hm10 := sd_length m hm
    have hsn := bs_size (sd n)
    have hsm := bs_size (sd m)
    have f1 : (bs (sd m)).extract 0 (bs (sd n)).size = bs (sd n) → n = m := fun h => sd_free hn hm (by
      have := congrArg (fun b => b.data.toList) h
      simpa [bs, ByteArray.size] using this)
    have f2 : (bs (sd n)).extract 0 (bs (sd m)).size = bs (sd m) → m = n := fun h => sd_free hm hn (by
      have := congrArg (fun b => b.data.toList) h
      simpa [bs, ByteArray.size] using this)
    have f3 : n = m → bs (sd n) = bs (sd m) := fun h => by rw [h]
    rw [← hsn] at hn0 hn10
    rw [← hsm] at hm0 hm10
    clear o5 o6 hsn hsm
    generalize bs (sd n) = P at *
    generalize bs (sd m) = Q at *
    have HN2 := Lib.hid hn
    have k06 := (k26.thenN k5).thenN k6
    have i1 : (0 : Int) < P.size := by omega
    have i2 : (0 : Int) < Q.size := by omega
    have i3 : (P.size : Int) ≤ 10 := by omega
    have i4 : (Q.size : Int) ≤ 10 := by omega
    clear hn hm hn0 hm0 hn10 hm10
    rcases Nat.lt_or_ge Q.size P.size with hlt | hlt
    · have hnm : n ≠ m := fun h => by
        have := f3 h
        subst this
        omega
      have hx : ((P.extract 0 Q.size).toList == Q.toList) = false := by simp only [beq_eq_false_iff_ne]; exact fun h => hnm (f2 (toList_inj h)).symm
      have i5 : ((n : Int) == m) = false := by simp only [beq_eq_false_iff_ne]; omega
      clear f1 f2 f3
      go_wp2_with (first | (refine conv_op e6 rfl ?_) | fail)
      all_goals go_ret
      all_goals exact ⟨by first | rfl | (simp; done) | (exfalso; rename_i hq; exact hq (hx.trans i5.symm)), k06⟩
    · by_cases hnm : n = m
      · subst hnm
        have := f3 rfl
        subst this
        clear f1 f2 f3
        go_wp2_with (first | (refine conv_op e6 rfl ?_) | fail)
        all_goals go_ret
        all_goals exact ⟨by first | rfl | (simp; done) | (exfalso; rename_i hq; exact hq (hx.trans i5.symm)), k06⟩
      · have hx : ((Q.extract 0 P.size).toList == P.toList) = false := by simp only [beq_eq_false_iff_ne]; exact fun h => hnm (f1 (toList_inj h))
        have i5 : ((n : Int) == m) = false := by simp only [beq_eq_false_iff_ne]; omega
        clear f1 f2 f3
        go_wp2_with (first | (refine conv_op e6 rfl ?_) | fail)
        all_goals go_ret
        all_goals exact ⟨by first | rfl | (simp; done) | (exfalso; rename_i hq; exact hq (hx.trans i5.symm)), k06⟩
end Go.Proofs.YtjhndppmpldfbaaDoor
