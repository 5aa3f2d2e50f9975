/- OctetTwice: what the call does. -/
import Derived.Test.YtjhndppmpldfbaaDoorOB
import Derived.Test.YtjhndppmpldfbaaDoorOK
import Derived.Test.YtjhndppmpldfbaaDoorP6
namespace Go.Proofs.YtjhndppmpldfbaaDoor
open Go Go.RowKit

set_option maxHeartbeats 1600000 in
theorem twice_walk {v : Value} {xs : List UInt8} {at_ : Int} {mask : Nat} {w : World} (h : RdB w v xs) (ht : TabOk w) (ha : -9223372036854775808 ≤ at_ ∧ at_ ≤ 9223372036854775807) (hm : mask < 4294967296) (hb : xs.length ≤ 10000000000) :
    Calls Tryd.prog 8 #[v, .int .i64 at_, .int .u32 (mask : Int)] w fun e w' => e = .returned (.bool true) ∧ KpN w w' := by
  have HL := Lib.hid (burst_length xs at_ mask)
  obtain ⟨A, c, rfl, hc⟩ := h.form
  go_enter Tryd.func8, Tryd.ntmps8
  go_wp2_with fail
  refine rg_begin 15 (fun _ => False) (by kernel_rfl) (fun w1 d1 => ?_)
  refine rg_call 0 (d := (some 7)) (by kernel_rfl) (knows_c (ht.keepN d1)) rfl rfl (by kernel_rfl) rfl rfl ?_
  rintro e w2 ⟨rfl, k2⟩
  refine ⟨_, rfl, k2, ?_⟩
  conv => arg 8; simp only [Act.put, List.setIfInBounds_toArray, List.set_cons_zero, List.set_cons_succ]
  have k02 := d1.thenN k2
  refine rg_take 1 (d := (some 8)) (v := .bool true) (by decide) rfl rfl (by kernel_rfl) (by kernel_rfl) (by kernel_rfl) (fun _ _ _ h => h) rfl (fun W => rfl) ?_
  conv => arg 8; simp only [Act.put, List.setIfInBounds_toArray, List.set_cons_zero, List.set_cons_succ]
  refine rg_take 2 (d := (some 9)) (v := .slice A xs.length c) (by decide) rfl rfl (by kernel_rfl) (by kernel_rfl) (by kernel_rfl) (fun _ _ _ h => h) rfl (fun W => rfl) ?_
  conv => arg 8; simp only [Act.put, List.setIfInBounds_toArray, List.set_cons_zero, List.set_cons_succ]
  refine rg_take 3 (d := (some 10)) (v := .int .i64 at_) (by decide) rfl rfl (by kernel_rfl) (by kernel_rfl) (by kernel_rfl) (fun _ _ _ h => h) rfl (fun W => rfl) ?_
  conv => arg 8; simp only [Act.put, List.setIfInBounds_toArray, List.set_cons_zero, List.set_cons_succ]
  refine rg_take 4 (d := (some 11)) (v := .int .u32 (mask : Int)) (by decide) rfl rfl (by kernel_rfl) (by kernel_rfl) (by kernel_rfl) (fun _ _ _ h => h) rfl (fun W => rfl) ?_
  conv => arg 8; simp only [Act.put, List.setIfInBounds_toArray, List.set_cons_zero, List.set_cons_succ]
  refine rg_take 6 (d := (some 13)) (v := .int .i64 at_) (by decide) rfl rfl (by kernel_rfl) (by kernel_rfl) (by kernel_rfl) (fun _ _ _ h => h) rfl (fun W => rfl) ?_
  conv => arg 8; simp only [Act.put, List.setIfInBounds_toArray, List.set_cons_zero, List.set_cons_succ]
  refine rg_take 7 (d := (some 14)) (v := .int .u32 (mask : Int)) (by decide) rfl rfl (by kernel_rfl) (by kernel_rfl) (by kernel_rfl) (fun _ _ _ h => h) rfl (fun W => rfl) ?_
  conv => arg 8; simp only [Act.put, List.setIfInBounds_toArray, List.set_cons_zero, List.set_cons_succ]
  refine rg_take 10 (d := (some 17)) (v := .slice A xs.length c) (by decide) rfl rfl (by kernel_rfl) (by kernel_rfl) (by kernel_rfl) (fun _ _ _ h => h) rfl (fun W => rfl) ?_
  conv => arg 8; simp only [Act.put, List.setIfInBounds_toArray, List.set_cons_zero, List.set_cons_succ]
  refine rg_conv 11 (d := (some 18)) (h.keepN k02) (fun _ _ x => x) Tryd.underlying22 Tryd.underlying5 Tryd.underlying9 (by decide) (by kernel_rfl) (by kernel_rfl) rfl rfl (by kernel_rfl) (by kernel_rfl) (by kernel_rfl) (fun _ _ _ h => h) rfl rfl ?_
  conv => arg 8; simp only [Act.put, List.setIfInBounds_toArray, List.set_cons_zero, List.set_cons_succ]
  refine rg_call 5 (d := (some 12)) (by kernel_rfl) (burst_c (h.keepN k02) ha hm (by omega)) rfl rfl (by kernel_rfl) rfl rfl ?_
  rintro e w3 ⟨a3, rfl, o3, k3⟩
  refine ⟨_, rfl, k3, ?_⟩
  conv => arg 8; simp only [Act.put, List.setIfInBounds_toArray, List.set_cons_zero, List.set_cons_succ]
  have hl := HL.out
  have k03 := k02.thenN k3
  refine rg_call 8 (d := (some 15)) (by kernel_rfl) (burst_c o3.readsB ha hm (by omega)) rfl rfl (by kernel_rfl) rfl rfl ?_
  rintro e w4 ⟨a4, rfl, o4, k4⟩
  refine ⟨_, rfl, k4, ?_⟩
  conv => arg 8; simp only [Act.put, List.setIfInBounds_toArray, List.set_cons_zero, List.set_cons_succ]
  rw [burst_twice] at o4
  have k04 := k03.thenN k4
  refine rg_conv1 9 (d := (some 16)) (o4.readsB) Tryd.underlying22 Tryd.underlying5 Tryd.underlying9 rfl rfl (by kernel_rfl) rfl rfl ?_
  conv => arg 8; simp only [Act.put, List.setIfInBounds_toArray, List.set_cons_zero, List.set_cons_succ]
  refine rg_take 12 (d := (some 19)) (v := .bool true) (by decide) rfl rfl (by kernel_rfl) (by kernel_rfl) (by kernel_rfl) (fun _ _ _ h => h) rfl (fun W => by go_simp) ?_
  conv => arg 8; simp only [Act.put, List.setIfInBounds_toArray, List.set_cons_zero, List.set_cons_succ]
  refine rg_take 13 (d := (some 20)) (v := .bool true) (by decide) rfl rfl (by kernel_rfl) (by kernel_rfl) (by kernel_rfl) (fun _ _ _ h => h) rfl (fun W => rfl) ?_
  conv => arg 8; simp only [Act.put, List.setIfInBounds_toArray, List.set_cons_zero, List.set_cons_succ]
  refine rg_take 14 (d := (some 6)) (v := .bool true) (by decide) rfl rfl (by kernel_rfl) (by kernel_rfl) (by kernel_rfl) (fun _ _ _ h => h) rfl (fun W => rfl) ?_
  conv => arg 8; simp only [Act.put, List.setIfInBounds_toArray, List.set_cons_zero, List.set_cons_succ]
  refine rg_done (by kernel_rfl) ?_
  go_wp2
  go_ret
  exact ⟨rfl, k04⟩
end Go.Proofs.YtjhndppmpldfbaaDoor
