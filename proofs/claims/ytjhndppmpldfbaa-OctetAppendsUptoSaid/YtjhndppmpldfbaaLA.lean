/- OctetAppends: what the call does. -/
import Derived.Test.YtjhndppmpldfbaaO3
import Derived.Test.YtjhndppmpldfbaaR
namespace Go.Proofs.Ytjhndppmpldfbaa
open Go Go.RowKit

set_option maxHeartbeats 1600000 in
theorem appends_walk {v : Value} {xs : List UInt8} {n : Nat} {w : World} (h : RdB w v xs) (hn : n < 18446744073709551616) (hb : xs.length ≤ 10000000000) :
    Calls Try.prog 3 #[v, .int .u64 (n : Int)] w fun e w' => e = .returned (.bool true) ∧ KpN w w' := by
  have hsd := sd_length n hn
  have hl := turn_length xs
  obtain ⟨A, c, rfl, hc⟩ := h.form
  go_enter Try.func3, Try.ntmps3
  go_wp2_with fail
  refine (lent_c h (by omega)).mono ?_
  rintro e w1 ⟨all, rfl, o1, k1⟩
  obtain ⟨g, cap, rfl, hg, hcap, rall⟩ := lent_form o1
  have hcap' : xs.length ≤ cap := by omega
  have HT := Lib.hid hl
  clear hl
  go_wp2_with fail
  refine (number_c rall hn (by omega)).mono ?_
  rintro e w2 ⟨a, rfl, o2, k2⟩
  go_wp2_with fail
  refine rg_begin 13 (fun _ => False) (by kernel_rfl) (fun w3 d3 => ?_)
  refine rg_take 0 (d := (some 16)) (v := a) (by decide) rfl rfl (by kernel_rfl) (by kernel_rfl) (by kernel_rfl) (fun _ _ _ h => h) rfl (fun W => rfl) ?_
  conv => arg 8; simp only [Act.put, List.setIfInBounds_toArray, List.set_cons_zero, List.set_cons_succ]
  refine rg_conv 1 (d := (some 17)) ((o2.keepN d3).readsB) (fun _ _ x => x) Try.underlying22 Try.underlying5 Try.underlying9 (by decide) (by kernel_rfl) (by kernel_rfl) rfl rfl (by kernel_rfl) (by kernel_rfl) (by kernel_rfl) (fun _ _ _ h => h) rfl rfl ?_
  conv => arg 8; simp only [Act.put, List.setIfInBounds_toArray, List.set_cons_zero, List.set_cons_succ]
  refine rg_take 2 (d := (some 18)) (v := .slice A xs.length c) (by decide) rfl rfl (by kernel_rfl) (by kernel_rfl) (by kernel_rfl) (fun _ _ _ h => h) rfl (fun W => rfl) ?_
  conv => arg 8; simp only [Act.put, List.setIfInBounds_toArray, List.set_cons_zero, List.set_cons_succ]
  refine rg_take 3 (d := (some 19)) (v := .int .u64 n) (by decide) rfl rfl (by kernel_rfl) (by kernel_rfl) (by kernel_rfl) (fun _ _ _ h => h) rfl (fun W => rfl) ?_
  conv => arg 8; simp only [Act.put, List.setIfInBounds_toArray, List.set_cons_zero, List.set_cons_succ]
  refine rg_call 4 (d := (some 20)) (by kernel_rfl) (refNumber_c (((h.keepN k1).keepN k2).keepN d3) hn (by omega)) rfl rfl (by kernel_rfl) rfl rfl ?_
  rintro e w4 ⟨a4, rfl, o4, k4⟩
  refine ⟨_, rfl, k4, ?_⟩
  conv => arg 8; simp only [Act.put, List.setIfInBounds_toArray, List.set_cons_zero, List.set_cons_succ]
  have k24 := d3.thenN k4
  refine rg_conv1 5 (d := (some 21)) (o4.readsB) Try.underlying22 Try.underlying5 Try.underlying9 rfl rfl (by kernel_rfl) rfl rfl ?_
  conv => arg 8; simp only [Act.put, List.setIfInBounds_toArray, List.set_cons_zero, List.set_cons_succ]
  refine rg_take 6 (d := (some 22)) (v := .bool false) (by decide) rfl rfl (by kernel_rfl) (by kernel_rfl) (by kernel_rfl) (fun _ _ _ h => h) rfl (fun W => by go_simp) ?_
  conv => arg 8; simp only [Act.put, List.setIfInBounds_toArray, List.set_cons_zero, List.set_cons_succ]
  refine rg_take 7 (d := (some 23)) (v := .bool false) (by decide) rfl rfl (by kernel_rfl) (by kernel_rfl) (by kernel_rfl) (fun _ _ _ h => h) rfl (fun W => rfl) ?_
  conv => arg 8; simp only [Act.put, List.setIfInBounds_toArray, List.set_cons_zero, List.set_cons_succ]
  refine rg_take 8 (d := (some 24)) (v := .slice (some ⟨g, 0, none⟩) (xs.length + 8) cap) (by decide) rfl rfl (by kernel_rfl) (by kernel_rfl) (by kernel_rfl) (fun _ _ _ h => h) rfl (fun W => rfl) ?_
  conv => arg 8; simp only [Act.put, List.setIfInBounds_toArray, List.set_cons_zero, List.set_cons_succ]
  refine rg_take 9 (d := (some 25)) (v := .slice A xs.length c) (by decide) rfl rfl (by kernel_rfl) (by kernel_rfl) (by kernel_rfl) (fun _ _ _ h => h) rfl (fun W => rfl) ?_
  conv => arg 8; simp only [Act.put, List.setIfInBounds_toArray, List.set_cons_zero, List.set_cons_succ]
  refine rg_call 10 (d := (some 26)) (by kernel_rfl) (stays_c ((o1.readsB.keepN k2).keepN k24) (((h.keepN k1).keepN k2).keepN k24) (by omega)) rfl rfl (by kernel_rfl) rfl rfl ?_
  rintro e w5 ⟨rfl, rfl⟩
  refine ⟨_, rfl, Kp.refl _ _, ?_⟩
  conv => arg 8; simp only [Act.put, List.setIfInBounds_toArray, List.set_cons_zero, List.set_cons_succ]
  refine rg_take 11 (d := (some 27)) (v := .bool false) (by decide) rfl rfl (by kernel_rfl) (by kernel_rfl) (by kernel_rfl) (fun _ _ _ h => h) rfl (fun W => rfl) ?_
  conv => arg 8; simp only [Act.put, List.setIfInBounds_toArray, List.set_cons_zero, List.set_cons_succ]
  refine rg_take 12 (d := (some 28)) (v := .bool false) (by decide) rfl rfl (by kernel_rfl) (by kernel_rfl) (by kernel_rfl) (fun _ _ _ h => h) rfl (fun W => rfl) ?_
  conv => arg 8; simp only [Act.put, List.setIfInBounds_toArray, List.set_cons_zero, List.set_cons_succ]
  refine rg_done (by kernel_rfl) ?_
  go_wp2_with fail
  refine (turned_c ((o1.keepN k2).keepN k24) (by rfl) (by omega)).mono ?_
  rintro e w5 ⟨now, rfl, n5, o5, k5⟩
  have h5 := k5
  have k05 : KpN w w5 := (((k1.thenN k2).thenN k24).fresh h5 (fun i h1 => by omega))
  have a5 := (o2.keepN k24).keep h5 (fun i h1 h2 => by omega)
  have x5 := h.keepN k05
  have hz1 := k1.size
  have hz2 := k2.size
  have hz4 := k24.size
  have hz5 := k5.size
  clear o1 o2 o4 h k1 k2 k24 d3 k4 k5 h5 rall
  go_wp2_with fail
  refine rg_begin 7 (fun _ => False) (by kernel_rfl) (fun w6 d6 => ?_)
  refine rg_take 0 (d := (some 31)) (v := a) (by decide) rfl rfl (by kernel_rfl) (by kernel_rfl) (by kernel_rfl) (fun _ _ _ h => h) rfl (fun W => rfl) ?_
  conv => arg 8; simp only [Act.put, List.setIfInBounds_toArray, List.set_cons_zero, List.set_cons_succ]
  refine rg_conv 1 (d := (some 32)) ((a5.keepN d6).readsB) (fun _ _ x => x) Try.underlying22 Try.underlying5 Try.underlying9 (by decide) (by kernel_rfl) (by kernel_rfl) rfl rfl (by kernel_rfl) (by kernel_rfl) (by kernel_rfl) (fun _ _ _ h => h) rfl rfl ?_
  conv => arg 8; simp only [Act.put, List.setIfInBounds_toArray, List.set_cons_zero, List.set_cons_succ]
  refine rg_take 2 (d := (some 33)) (v := .slice A xs.length c) (by decide) rfl rfl (by kernel_rfl) (by kernel_rfl) (by kernel_rfl) (fun _ _ _ h => h) rfl (fun W => rfl) ?_
  conv => arg 8; simp only [Act.put, List.setIfInBounds_toArray, List.set_cons_zero, List.set_cons_succ]
  refine rg_take 3 (d := (some 34)) (v := .int .u64 n) (by decide) rfl rfl (by kernel_rfl) (by kernel_rfl) (by kernel_rfl) (fun _ _ _ h => h) rfl (fun W => rfl) ?_
  conv => arg 8; simp only [Act.put, List.setIfInBounds_toArray, List.set_cons_zero, List.set_cons_succ]
  refine rg_call 4 (d := (some 35)) (by kernel_rfl) (refNumber_c (x5.keepN d6) hn (by omega)) rfl rfl (by kernel_rfl) rfl rfl ?_
  rintro e w7 ⟨a7, rfl, o7, k7⟩
  refine ⟨_, rfl, k7, ?_⟩
  conv => arg 8; simp only [Act.put, List.setIfInBounds_toArray, List.set_cons_zero, List.set_cons_succ]
  refine rg_conv1 5 (d := (some 36)) (o7.readsB) Try.underlying22 Try.underlying5 Try.underlying9 rfl rfl (by kernel_rfl) rfl rfl ?_
  conv => arg 8; simp only [Act.put, List.setIfInBounds_toArray, List.set_cons_zero, List.set_cons_succ]
  refine rg_take 6 (d := (some 37)) (v := .bool false) (by decide) rfl rfl (by kernel_rfl) (by kernel_rfl) (by kernel_rfl) (fun _ _ _ h => h) rfl (fun W => by go_simp) ?_
  conv => arg 8; simp only [Act.put, List.setIfInBounds_toArray, List.set_cons_zero, List.set_cons_succ]
  refine rg_done (by kernel_rfl) ?_
  have k57 := d6.thenN k7
  have hz7 := k57.size
  have hF : ∀ k, (Value.slice (some ⟨g, 0, none⟩) (xs.length + 8) cap).ownBlock = some k → ¬ Iv w1.heap.size w2.heap.size k := fun k hk hi => by
    simp only [Value.ownBlock, Option.some.injEq] at hk
    have h1 := hg.2
    have h2 := hi.1
    omega
  go_wp2_with fail
  refine rg_begin 11 (fun _ => False) (by kernel_rfl) (fun w8 d8 => ?_)
  have k58 := k57.thenN d8
  have hz8 := d8.size
  have ra := (turned_front o5).keepN k58
  have ha := (o5.keepN k58).readsB
  have hn8 := (n5.keepN k58).readsB
  have hlt := HT.out
  refine rg_take 0 (d := (some 38)) (v := .slice (some ⟨g, 0, none⟩) (xs.length + 8) cap) (by decide) rfl rfl (by kernel_rfl) (by kernel_rfl) (by kernel_rfl) (fun _ _ _ h => h) rfl (fun W => rfl) ?_
  conv => arg 8; simp only [Act.put, List.setIfInBounds_toArray, List.set_cons_zero, List.set_cons_succ]
  refine rg_take 1 (d := (some 39)) (v := .slice A xs.length c) (by decide) rfl rfl (by kernel_rfl) (by kernel_rfl) (by kernel_rfl) (fun _ _ _ h => h) rfl (fun W => rfl) ?_
  conv => arg 8; simp only [Act.put, List.setIfInBounds_toArray, List.set_cons_zero, List.set_cons_succ]
  refine rg_take 2 (d := (some 40)) (v := .int .i64 xs.length) (by decide) rfl rfl (by kernel_rfl) (by kernel_rfl) (by kernel_rfl) (fun _ _ _ h => h) rfl (fun W => by go_simp) ?_
  conv => arg 8; simp only [Act.put, List.setIfInBounds_toArray, List.set_cons_zero, List.set_cons_succ]
  refine rg_take 3 (d := (some 41)) (v := .slice (some ⟨g, 0, none⟩) xs.length cap) (by decide) rfl rfl (by kernel_rfl) (by kernel_rfl) (by kernel_rfl) (fun _ _ _ h => h) rfl (fun W => by go_simp) ?_
  conv => arg 8; simp only [Act.put, List.setIfInBounds_toArray, List.set_cons_zero, List.set_cons_succ]
  refine rg_take 4 (d := (some 42)) (v := .int .u64 n) (by decide) rfl rfl (by kernel_rfl) (by kernel_rfl) (by kernel_rfl) (fun _ _ _ h => h) rfl (fun W => rfl) ?_
  conv => arg 8; simp only [Act.put, List.setIfInBounds_toArray, List.set_cons_zero, List.set_cons_succ]
  refine rg_take 7 (d := (some 45)) (v := now) (by decide) rfl rfl (by kernel_rfl) (by kernel_rfl) (by kernel_rfl) (fun _ _ _ h => h) rfl (fun W => rfl) ?_
  conv => arg 8; simp only [Act.put, List.setIfInBounds_toArray, List.set_cons_zero, List.set_cons_succ]
  refine rg_take 8 (d := (some 46)) (v := .int .u64 n) (by decide) rfl rfl (by kernel_rfl) (by kernel_rfl) (by kernel_rfl) (fun _ _ _ h => h) rfl (fun W => rfl) ?_
  conv => arg 8; simp only [Act.put, List.setIfInBounds_toArray, List.set_cons_zero, List.set_cons_succ]
  refine rg_call 5 (d := (some 43)) (by kernel_rfl) (number_c ra hn (by omega)) rfl rfl (by kernel_rfl) rfl rfl ?_
  rintro e w9 ⟨a9, rfl, o9, k9⟩
  refine ⟨_, rfl, k9, ?_⟩
  conv => arg 8; simp only [Act.put, List.setIfInBounds_toArray, List.set_cons_zero, List.set_cons_succ]
  have hz9 := k9.size
  refine rg_conv 6 (d := (some 44)) (o9.readsB) (fun _ _ x => x) Try.underlying22 Try.underlying5 Try.underlying9 (by decide) (by kernel_rfl) (by kernel_rfl) rfl rfl (by kernel_rfl) (by kernel_rfl) (by kernel_rfl) (fun _ _ _ h => h) rfl rfl ?_
  conv => arg 8; simp only [Act.put, List.setIfInBounds_toArray, List.set_cons_zero, List.set_cons_succ]
  refine rg_call 9 (d := (some 47)) (by kernel_rfl) (refNumber_c (hn8.keepN k9) hn (by omega)) rfl rfl (by kernel_rfl) rfl rfl ?_
  rintro e w10 ⟨a10, rfl, o10, k10⟩
  refine ⟨_, rfl, k10, ?_⟩
  conv => arg 8; simp only [Act.put, List.setIfInBounds_toArray, List.set_cons_zero, List.set_cons_succ]
  have k810 := k9.thenN k10
  refine rg_conv1 10 (d := (some 48)) (o10.readsB) Try.underlying22 Try.underlying5 Try.underlying9 rfl rfl (by kernel_rfl) rfl rfl ?_
  conv => arg 8; simp only [Act.put, List.setIfInBounds_toArray, List.set_cons_zero, List.set_cons_succ]
  refine rg_only 11 (d := (some 49)) (v := .bool true) rfl rfl (by kernel_rfl) rfl (by go_simp) ?_
  conv => arg 8; simp only [Act.put, List.setIfInBounds_toArray, List.set_cons_zero, List.set_cons_succ]
  refine rg_stage 27 (Iv w1.heap.size w2.heap.size) (by kernel_rfl) ?_
  refine rg_take 12 (d := (some 50)) (v := .bool true) (by decide) rfl rfl (by kernel_rfl) (by kernel_rfl) (by kernel_rfl) (fun _ _ _ h => h) rfl (fun W => rfl) ?_
  conv => arg 8; simp only [Act.put, List.setIfInBounds_toArray, List.set_cons_zero, List.set_cons_succ]
  refine rg_take 13 (d := (some 51)) (v := .slice (some ⟨g, 0, none⟩) (xs.length + 8) cap) (by decide) rfl rfl (by kernel_rfl) (by kernel_rfl) (by kernel_rfl) (fun _ _ _ h => h) rfl (fun W => rfl) ?_
  conv => arg 8; simp only [Act.put, List.setIfInBounds_toArray, List.set_cons_zero, List.set_cons_succ]
  refine rg_take 14 (d := (some 52)) (v := now) (by decide) rfl rfl (by kernel_rfl) (by kernel_rfl) (by kernel_rfl) (fun _ _ _ h => h) rfl (fun W => rfl) ?_
  conv => arg 8; simp only [Act.put, List.setIfInBounds_toArray, List.set_cons_zero, List.set_cons_succ]
  refine rg_call 15 (d := (some 53)) (by kernel_rfl) (stays_c (ha.keepN k810) (hn8.keepN k810) (by omega)) rfl rfl (by kernel_rfl) rfl rfl ?_
  rintro e w11 ⟨rfl, rfl⟩
  refine ⟨_, rfl, Kp.refl _ _, ?_⟩
  conv => arg 8; simp only [Act.put, List.setIfInBounds_toArray, List.set_cons_zero, List.set_cons_succ]
  refine rg_take 16 (d := (some 54)) (v := .bool true) (by decide) rfl rfl (by kernel_rfl) (by kernel_rfl) (by kernel_rfl) (fun _ _ _ h => h) rfl (fun W => rfl) ?_
  conv => arg 8; simp only [Act.put, List.setIfInBounds_toArray, List.set_cons_zero, List.set_cons_succ]
  refine rg_take 17 (d := (some 55)) (v := .bool true) (by decide) rfl rfl (by kernel_rfl) (by kernel_rfl) (by kernel_rfl) (fun _ _ _ h => h) rfl (fun W => rfl) ?_
  conv => arg 8; simp only [Act.put, List.setIfInBounds_toArray, List.set_cons_zero, List.set_cons_succ]
  refine rg_take 18 (d := (some 56)) (v := a) (by decide) rfl rfl (by kernel_rfl) (by kernel_rfl) (by kernel_rfl) (fun _ _ _ h => h) rfl (fun W => rfl) ?_
  conv => arg 8; simp only [Act.put, List.setIfInBounds_toArray, List.set_cons_zero, List.set_cons_succ]
  refine rg_call 19 (d := (some 57)) (by kernel_rfl) (spoils_c ((a5.keepN k58).keepN k810) (by simp; omega)) rfl rfl (by kernel_rfl) rfl rfl ?_
  rintro e w11 ⟨rfl, k11⟩
  refine ⟨_, rfl, k11, ?_⟩
  conv => arg 8; simp only [Act.put, List.setIfInBounds_toArray, List.set_cons_zero, List.set_cons_succ]
  refine rg_take 20 (d := (some 58)) (v := .bool true) (by decide) rfl rfl (by kernel_rfl) (by kernel_rfl) (by kernel_rfl) (fun _ _ _ h => h) rfl (fun W => rfl) ?_
  conv => arg 8; simp only [Act.put, List.setIfInBounds_toArray, List.set_cons_zero, List.set_cons_succ]
  refine rg_take 21 (d := (some 59)) (v := .bool true) (by decide) rfl rfl (by kernel_rfl) (by kernel_rfl) (by kernel_rfl) (fun _ _ _ h => h) rfl (fun W => rfl) ?_
  conv => arg 8; simp only [Act.put, List.setIfInBounds_toArray, List.set_cons_zero, List.set_cons_succ]
  refine rg_take 22 (d := (some 60)) (v := .slice (some ⟨g, 0, none⟩) (xs.length + 8) cap) (by decide) rfl rfl (by kernel_rfl) (by kernel_rfl) (by kernel_rfl) (fun _ _ _ h => h) rfl (fun W => rfl) ?_
  conv => arg 8; simp only [Act.put, List.setIfInBounds_toArray, List.set_cons_zero, List.set_cons_succ]
  refine rg_take 23 (d := (some 61)) (v := now) (by decide) rfl rfl (by kernel_rfl) (by kernel_rfl) (by kernel_rfl) (fun _ _ _ h => h) rfl (fun W => rfl) ?_
  conv => arg 8; simp only [Act.put, List.setIfInBounds_toArray, List.set_cons_zero, List.set_cons_succ]
  refine rg_call 24 (d := (some 62)) (by kernel_rfl) (stays_c ((ha.keepN k810).keep k11 hF) ((hn8.keepN k810).keep k11 (fun k hk hi => by have h1 := (n5.fit k hk).1; have h2 := hi.2; omega)) (by omega)) rfl rfl (by kernel_rfl) rfl rfl ?_
  rintro e w12 ⟨rfl, rfl⟩
  refine ⟨_, rfl, Kp.refl _ _, ?_⟩
  conv => arg 8; simp only [Act.put, List.setIfInBounds_toArray, List.set_cons_zero, List.set_cons_succ]
  refine rg_take 25 (d := (some 63)) (v := .bool true) (by decide) rfl rfl (by kernel_rfl) (by kernel_rfl) (by kernel_rfl) (fun _ _ _ h => h) rfl (fun W => rfl) ?_
  conv => arg 8; simp only [Act.put, List.setIfInBounds_toArray, List.set_cons_zero, List.set_cons_succ]
  refine rg_take 26 (d := (some 4)) (v := .bool true) (by decide) rfl rfl (by kernel_rfl) (by kernel_rfl) (by kernel_rfl) (fun _ _ _ h => h) rfl (fun W => rfl) ?_
  conv => arg 8; simp only [Act.put, List.setIfInBounds_toArray, List.set_cons_zero, List.set_cons_succ]
  refine rg_done (by kernel_rfl) ?_
  go_wp2
  go_ret
  exact ⟨rfl, ((k05.thenN k58).thenN k810).fresh k11 (fun i hi => by have := hi.1; omega)⟩
end Go.Proofs.Ytjhndppmpldfbaa
