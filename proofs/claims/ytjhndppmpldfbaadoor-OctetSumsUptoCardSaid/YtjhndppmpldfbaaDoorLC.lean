/- OctetSums: what the call does. -/
import Derived.Test.YtjhndppmpldfbaaDoorOC
import Derived.Test.YtjhndppmpldfbaaDoorR
namespace Go.Proofs.YtjhndppmpldfbaaDoor
open Go Go.RowKit

set_option maxHeartbeats 1600000 in
theorem sums_walk {v : Value} {xs : List UInt8} {w : World} (h : RdB w v xs) (ht : TabOk w) (hb : xs.length ≤ 10000000000) :
    Calls Tryd.prog 3 #[v] w fun e w' => e = .returned (.bool true) ∧ KpN w w' := by
  have hl := sl_length xs
  have hlt := turn_length xs
  have hp := ht.pos
  obtain ⟨A, c, rfl, hc⟩ := h.form
  go_enter Tryd.func3, Tryd.ntmps3
  go_wp2_with fail
  refine (lent_c h (by omega)).mono ?_
  rintro e w1 ⟨all, rfl, o1, k1⟩
  obtain ⟨g, cap, rfl, hg, hcap, rall⟩ := lent_form o1
  have hz1 := k1.size
  have hcap' : xs.length ≤ cap := by omega
  have HL := Lib.hid hl
  have HLT := Lib.hid hlt
  clear hl hlt
  go_wp2_with fail
  refine (crc_c rall (ht.keepN k1) (by omega)).mono ?_
  rintro e w2 ⟨rfl, rfl⟩
  go_wp2_with fail
  refine (sealed_c rall (ht.keepN k1) (by omega)).mono ?_
  rintro e w2 ⟨s, rfl, o2, k2⟩
  have hz2 := k2.size
  go_wp2_with fail
  have k02 := k1.thenN k2
  refine rg_begin 18 (fun _ => False) (by kernel_rfl) (fun w3 d3 => ?_)
  have k03 := k02.thenN d3
  refine rg_take 0 (d := (some 19)) (v := .int .u32 ((crc xs : Nat) : Int)) (by decide) rfl rfl (by kernel_rfl) (by kernel_rfl) (by kernel_rfl) (fun _ _ _ h => h) rfl (fun W => rfl) ?_
  conv => arg 8; simp only [Act.put, List.setIfInBounds_toArray, List.set_cons_zero, List.set_cons_succ]
  refine rg_take 1 (d := (some 20)) (v := .slice A xs.length c) (by decide) rfl rfl (by kernel_rfl) (by kernel_rfl) (by kernel_rfl) (fun _ _ _ h => h) rfl (fun W => rfl) ?_
  conv => arg 8; simp only [Act.put, List.setIfInBounds_toArray, List.set_cons_zero, List.set_cons_succ]
  refine rg_call 2 (d := (some 21)) (by kernel_rfl) (refCrc_c (h.keepN k03) (by omega)) rfl rfl (by kernel_rfl) rfl rfl ?_
  rintro e w4 ⟨rfl, rfl⟩
  refine ⟨_, rfl, Kp.refl _ _, ?_⟩
  conv => arg 8; simp only [Act.put, List.setIfInBounds_toArray, List.set_cons_zero, List.set_cons_succ]
  refine rg_take 3 (d := (some 22)) (v := .bool false) (by decide) rfl rfl (by kernel_rfl) (by kernel_rfl) (by kernel_rfl) (fun _ _ _ h => h) rfl (fun W => by go_simp) ?_
  conv => arg 8; simp only [Act.put, List.setIfInBounds_toArray, List.set_cons_zero, List.set_cons_succ]
  refine rg_take 4 (d := (some 23)) (v := .bool false) (by decide) rfl rfl (by kernel_rfl) (by kernel_rfl) (by kernel_rfl) (fun _ _ _ h => h) rfl (fun W => rfl) ?_
  conv => arg 8; simp only [Act.put, List.setIfInBounds_toArray, List.set_cons_zero, List.set_cons_succ]
  refine rg_take 5 (d := (some 24)) (v := s) (by decide) rfl rfl (by kernel_rfl) (by kernel_rfl) (by kernel_rfl) (fun _ _ _ h => h) rfl (fun W => rfl) ?_
  conv => arg 8; simp only [Act.put, List.setIfInBounds_toArray, List.set_cons_zero, List.set_cons_succ]
  refine rg_conv 6 (d := (some 25)) ((o2.keepN d3).readsB) (fun _ _ x => x) Tryd.underlying22 Tryd.underlying5 Tryd.underlying9 (by decide) (by kernel_rfl) (by kernel_rfl) rfl rfl (by kernel_rfl) (by kernel_rfl) (by kernel_rfl) (fun _ _ _ h => h) rfl rfl ?_
  conv => arg 8; simp only [Act.put, List.setIfInBounds_toArray, List.set_cons_zero, List.set_cons_succ]
  refine rg_take 7 (d := (some 26)) (v := .slice A xs.length c) (by decide) rfl rfl (by kernel_rfl) (by kernel_rfl) (by kernel_rfl) (fun _ _ _ h => h) rfl (fun W => rfl) ?_
  conv => arg 8; simp only [Act.put, List.setIfInBounds_toArray, List.set_cons_zero, List.set_cons_succ]
  refine rg_call 8 (d := (some 27)) (by kernel_rfl) (refSealed_c (h.keepN k03) (by omega)) rfl rfl (by kernel_rfl) rfl rfl ?_
  rintro e w4 ⟨a5, rfl, o4, k4⟩
  refine ⟨_, rfl, k4, ?_⟩
  conv => arg 8; simp only [Act.put, List.setIfInBounds_toArray, List.set_cons_zero, List.set_cons_succ]
  have k24 := d3.thenN k4
  have k04 := k02.thenN k24
  refine rg_conv1 9 (d := (some 28)) (o4.readsB) Tryd.underlying22 Tryd.underlying5 Tryd.underlying9 rfl rfl (by kernel_rfl) rfl rfl ?_
  conv => arg 8; simp only [Act.put, List.setIfInBounds_toArray, List.set_cons_zero, List.set_cons_succ]
  refine rg_take 10 (d := (some 29)) (v := .bool false) (by decide) rfl rfl (by kernel_rfl) (by kernel_rfl) (by kernel_rfl) (fun _ _ _ h => h) rfl (fun W => by go_simp) ?_
  conv => arg 8; simp only [Act.put, List.setIfInBounds_toArray, List.set_cons_zero, List.set_cons_succ]
  refine rg_take 11 (d := (some 30)) (v := .bool false) (by decide) rfl rfl (by kernel_rfl) (by kernel_rfl) (by kernel_rfl) (fun _ _ _ h => h) rfl (fun W => rfl) ?_
  conv => arg 8; simp only [Act.put, List.setIfInBounds_toArray, List.set_cons_zero, List.set_cons_succ]
  refine rg_take 12 (d := (some 31)) (v := .bool false) (by decide) rfl rfl (by kernel_rfl) (by kernel_rfl) (by kernel_rfl) (fun _ _ _ h => h) rfl (fun W => rfl) ?_
  conv => arg 8; simp only [Act.put, List.setIfInBounds_toArray, List.set_cons_zero, List.set_cons_succ]
  refine rg_take 13 (d := (some 32)) (v := .slice (some ⟨g, 0, none⟩) (xs.length + 8) cap) (by decide) rfl rfl (by kernel_rfl) (by kernel_rfl) (by kernel_rfl) (fun _ _ _ h => h) rfl (fun W => rfl) ?_
  conv => arg 8; simp only [Act.put, List.setIfInBounds_toArray, List.set_cons_zero, List.set_cons_succ]
  refine rg_take 14 (d := (some 33)) (v := .slice A xs.length c) (by decide) rfl rfl (by kernel_rfl) (by kernel_rfl) (by kernel_rfl) (fun _ _ _ h => h) rfl (fun W => rfl) ?_
  conv => arg 8; simp only [Act.put, List.setIfInBounds_toArray, List.set_cons_zero, List.set_cons_succ]
  refine rg_call 15 (d := (some 34)) (by kernel_rfl) (stays_c (o1.keepN (k2.thenN k24)).readsB (h.keepN k04) (by omega)) rfl rfl (by kernel_rfl) rfl rfl ?_
  rintro e w5 ⟨rfl, rfl⟩
  refine ⟨_, rfl, Kp.refl _ _, ?_⟩
  conv => arg 8; simp only [Act.put, List.setIfInBounds_toArray, List.set_cons_zero, List.set_cons_succ]
  refine rg_take 16 (d := (some 35)) (v := .bool false) (by decide) rfl rfl (by kernel_rfl) (by kernel_rfl) (by kernel_rfl) (fun _ _ _ h => h) rfl (fun W => rfl) ?_
  conv => arg 8; simp only [Act.put, List.setIfInBounds_toArray, List.set_cons_zero, List.set_cons_succ]
  refine rg_take 17 (d := (some 36)) (v := .bool false) (by decide) rfl rfl (by kernel_rfl) (by kernel_rfl) (by kernel_rfl) (fun _ _ _ h => h) rfl (fun W => rfl) ?_
  conv => arg 8; simp only [Act.put, List.setIfInBounds_toArray, List.set_cons_zero, List.set_cons_succ]
  refine rg_done (by kernel_rfl) ?_
  have hz4 := k24.size
  have o14 := o1.keepN (k2.thenN k24)
  have s4' := o2.keepN k24
  clear o1 o2 o4 rall k1 k2 k24 d3 k4 k02 k03
  go_wp2_with fail
  refine (turned_c o14 (by rfl) (by omega)).mono ?_
  rintro e w5 ⟨now, rfl, n5, o5, k5⟩
  have hz5 := k5.size
  have k05 : KpN w w5 := k04.fresh k5 (fun i h1 => by omega)
  have s5 := s4'.keep k5 (fun i h1 h2 => by omega)
  clear o14 s4' k5 k04
  go_wp2_with fail
  refine rg_begin 5 (fun _ => False) (by kernel_rfl) (fun w6 d6 => ?_)
  have hz6 := d6.size
  have hl := HL.out
  have hlt := HLT.out
  refine rg_take 0 (d := (some 39)) (v := s) (by decide) rfl rfl (by kernel_rfl) (by kernel_rfl) (by kernel_rfl) (fun _ _ _ h => h) rfl (fun W => rfl) ?_
  conv => arg 8; simp only [Act.put, List.setIfInBounds_toArray, List.set_cons_zero, List.set_cons_succ]
  refine rg_conv 1 (d := (some 40)) ((s5.keepN d6).readsB) (fun _ _ x => x) Tryd.underlying22 Tryd.underlying5 Tryd.underlying9 (by decide) (by kernel_rfl) (by kernel_rfl) rfl rfl (by kernel_rfl) (by kernel_rfl) (by kernel_rfl) (fun _ _ _ h => h) rfl rfl ?_
  conv => arg 8; simp only [Act.put, List.setIfInBounds_toArray, List.set_cons_zero, List.set_cons_succ]
  refine rg_take 2 (d := (some 41)) (v := .slice A xs.length c) (by decide) rfl rfl (by kernel_rfl) (by kernel_rfl) (by kernel_rfl) (fun _ _ _ h => h) rfl (fun W => rfl) ?_
  conv => arg 8; simp only [Act.put, List.setIfInBounds_toArray, List.set_cons_zero, List.set_cons_succ]
  refine rg_call 3 (d := (some 42)) (by kernel_rfl) (refSealed_c (h.keepN (k05.thenN d6)) (by omega)) rfl rfl (by kernel_rfl) rfl rfl ?_
  rintro e w7 ⟨a7, rfl, o7, k7⟩
  refine ⟨_, rfl, k7, ?_⟩
  conv => arg 8; simp only [Act.put, List.setIfInBounds_toArray, List.set_cons_zero, List.set_cons_succ]
  have hz7 := k7.size
  have k57 := d6.thenN k7
  refine rg_conv1 4 (d := (some 43)) (o7.readsB) Tryd.underlying22 Tryd.underlying5 Tryd.underlying9 rfl rfl (by kernel_rfl) rfl rfl ?_
  conv => arg 8; simp only [Act.put, List.setIfInBounds_toArray, List.set_cons_zero, List.set_cons_succ]
  refine rg_only 5 (d := (some 44)) (v := .bool false) rfl rfl (by kernel_rfl) rfl (by go_simp) ?_
  conv => arg 8; simp only [Act.put, List.setIfInBounds_toArray, List.set_cons_zero, List.set_cons_succ]
  refine rg_stage 17 (Iv w1.heap.size w2.heap.size) (by kernel_rfl) ?_
  refine rg_take 6 (d := (some 45)) (v := .bool false) (by decide) rfl rfl (by kernel_rfl) (by kernel_rfl) (by kernel_rfl) (fun _ _ _ h => h) rfl (fun W => rfl) ?_
  conv => arg 8; simp only [Act.put, List.setIfInBounds_toArray, List.set_cons_zero, List.set_cons_succ]
  refine rg_take 7 (d := (some 46)) (v := s) (by decide) rfl rfl (by kernel_rfl) (by kernel_rfl) (by kernel_rfl) (fun _ _ _ h => h) rfl (fun W => rfl) ?_
  conv => arg 8; simp only [Act.put, List.setIfInBounds_toArray, List.set_cons_zero, List.set_cons_succ]
  refine rg_call 8 (d := (some 47)) (by kernel_rfl) (spoils_c (s5.keepN k57) (by simp; omega)) rfl rfl (by kernel_rfl) rfl rfl ?_
  rintro e w8 ⟨rfl, k8⟩
  refine ⟨_, rfl, k8, ?_⟩
  conv => arg 8; simp only [Act.put, List.setIfInBounds_toArray, List.set_cons_zero, List.set_cons_succ]
  refine rg_take 9 (d := (some 48)) (v := .bool false) (by decide) rfl rfl (by kernel_rfl) (by kernel_rfl) (by kernel_rfl) (fun _ _ _ h => h) rfl (fun W => rfl) ?_
  conv => arg 8; simp only [Act.put, List.setIfInBounds_toArray, List.set_cons_zero, List.set_cons_succ]
  refine rg_take 10 (d := (some 49)) (v := .bool false) (by decide) rfl rfl (by kernel_rfl) (by kernel_rfl) (by kernel_rfl) (fun _ _ _ h => h) rfl (fun W => rfl) ?_
  conv => arg 8; simp only [Act.put, List.setIfInBounds_toArray, List.set_cons_zero, List.set_cons_succ]
  refine rg_take 11 (d := (some 50)) (v := .bool false) (by decide) rfl rfl (by kernel_rfl) (by kernel_rfl) (by kernel_rfl) (fun _ _ _ h => h) rfl (fun W => rfl) ?_
  conv => arg 8; simp only [Act.put, List.setIfInBounds_toArray, List.set_cons_zero, List.set_cons_succ]
  refine rg_take 12 (d := (some 51)) (v := .slice (some ⟨g, 0, none⟩) (xs.length + 8) cap) (by decide) rfl rfl (by kernel_rfl) (by kernel_rfl) (by kernel_rfl) (fun _ _ _ h => h) rfl (fun W => rfl) ?_
  conv => arg 8; simp only [Act.put, List.setIfInBounds_toArray, List.set_cons_zero, List.set_cons_succ]
  refine rg_take 13 (d := (some 52)) (v := now) (by decide) rfl rfl (by kernel_rfl) (by kernel_rfl) (by kernel_rfl) (fun _ _ _ h => h) rfl (fun W => rfl) ?_
  conv => arg 8; simp only [Act.put, List.setIfInBounds_toArray, List.set_cons_zero, List.set_cons_succ]
  refine rg_call 14 (d := (some 53)) (by kernel_rfl) (stays_c ((o5.keepN k57).keep k8 (fun i h1 h2 => by omega)).readsB ((n5.keepN k57).keep k8 (fun i h1 h2 => by omega)).readsB (by omega)) rfl rfl (by kernel_rfl) rfl rfl ?_
  rintro e w9 ⟨rfl, rfl⟩
  refine ⟨_, rfl, Kp.refl _ _, ?_⟩
  conv => arg 8; simp only [Act.put, List.setIfInBounds_toArray, List.set_cons_zero, List.set_cons_succ]
  refine rg_take 15 (d := (some 54)) (v := .bool false) (by decide) rfl rfl (by kernel_rfl) (by kernel_rfl) (by kernel_rfl) (fun _ _ _ h => h) rfl (fun W => rfl) ?_
  conv => arg 8; simp only [Act.put, List.setIfInBounds_toArray, List.set_cons_zero, List.set_cons_succ]
  refine rg_take 16 (d := (some 55)) (v := .bool false) (by decide) rfl rfl (by kernel_rfl) (by kernel_rfl) (by kernel_rfl) (fun _ _ _ h => h) rfl (fun W => rfl) ?_
  conv => arg 8; simp only [Act.put, List.setIfInBounds_toArray, List.set_cons_zero, List.set_cons_succ]
  refine rg_done (by kernel_rfl) ?_
  have k08 : KpN w w8 := (k05.thenN k57).fresh k8 (fun i h1 => by omega)
  have o8 := (o5.keepN k57).keep k8 (fun i h1 h2 => by omega)
  have n8 := (n5.keepN k57).keep k8 (fun i h1 h2 => by omega)
  clear o5 n5 s5 o7 k05 k57 k7 k8 d6 hl hlt
  go_wp2_with fail
  refine rg_begin 21 (fun _ => False) (by kernel_rfl) (fun w9 d9 => ?_)
  have hl := HL.out
  have hlt := HLT.out
  have t9 := ht.keepN (k08.thenN d9)
  have r9 := turned_front (o8.keepN d9)
  have n9 := n8.keepN d9
  refine rg_take 0 (d := (some 56)) (v := .slice (some ⟨g, 0, none⟩) (xs.length + 8) cap) (by decide) rfl rfl (by kernel_rfl) (by kernel_rfl) (by kernel_rfl) (fun _ _ _ h => h) rfl (fun W => rfl) ?_
  conv => arg 8; simp only [Act.put, List.setIfInBounds_toArray, List.set_cons_zero, List.set_cons_succ]
  refine rg_take 1 (d := (some 57)) (v := .slice A xs.length c) (by decide) rfl rfl (by kernel_rfl) (by kernel_rfl) (by kernel_rfl) (fun _ _ _ h => h) rfl (fun W => rfl) ?_
  conv => arg 8; simp only [Act.put, List.setIfInBounds_toArray, List.set_cons_zero, List.set_cons_succ]
  refine rg_take 2 (d := (some 58)) (v := .int .i64 xs.length) (by decide) rfl rfl (by kernel_rfl) (by kernel_rfl) (by kernel_rfl) (fun _ _ _ h => h) rfl (fun W => by go_simp) ?_
  conv => arg 8; simp only [Act.put, List.setIfInBounds_toArray, List.set_cons_zero, List.set_cons_succ]
  refine rg_take 3 (d := (some 59)) (v := .slice (some ⟨g, 0, none⟩) xs.length cap) (by decide) rfl rfl (by kernel_rfl) (by kernel_rfl) (by kernel_rfl) (fun _ _ _ h => h) rfl (fun W => by go_simp) ?_
  conv => arg 8; simp only [Act.put, List.setIfInBounds_toArray, List.set_cons_zero, List.set_cons_succ]
  refine rg_take 5 (d := (some 61)) (v := now) (by decide) rfl rfl (by kernel_rfl) (by kernel_rfl) (by kernel_rfl) (fun _ _ _ h => h) rfl (fun W => rfl) ?_
  conv => arg 8; simp only [Act.put, List.setIfInBounds_toArray, List.set_cons_zero, List.set_cons_succ]
  refine rg_call 4 (d := (some 60)) (by kernel_rfl) (crc_c r9 t9 (by omega)) rfl rfl (by kernel_rfl) rfl rfl ?_
  rintro e w10 ⟨rfl, rfl⟩
  refine ⟨_, rfl, Kp.refl _ _, ?_⟩
  conv => arg 8; simp only [Act.put, List.setIfInBounds_toArray, List.set_cons_zero, List.set_cons_succ]
  refine rg_call 6 (d := (some 62)) (by kernel_rfl) (refCrc_c n9.readsB (by omega)) rfl rfl (by kernel_rfl) rfl rfl ?_
  rintro e w10 ⟨rfl, rfl⟩
  refine ⟨_, rfl, Kp.refl _ _, ?_⟩
  conv => arg 8; simp only [Act.put, List.setIfInBounds_toArray, List.set_cons_zero, List.set_cons_succ]
  refine rg_take 7 (d := (some 63)) (v := .bool true) (by decide) rfl rfl (by kernel_rfl) (by kernel_rfl) (by kernel_rfl) (fun _ _ _ h => h) rfl (fun W => by go_simp) ?_
  conv => arg 8; simp only [Act.put, List.setIfInBounds_toArray, List.set_cons_zero, List.set_cons_succ]
  refine rg_take 8 (d := (some 64)) (v := .bool true) (by decide) rfl rfl (by kernel_rfl) (by kernel_rfl) (by kernel_rfl) (fun _ _ _ h => h) rfl (fun W => rfl) ?_
  conv => arg 8; simp only [Act.put, List.setIfInBounds_toArray, List.set_cons_zero, List.set_cons_succ]
  refine rg_take 9 (d := (some 65)) (v := .slice (some ⟨g, 0, none⟩) (xs.length + 8) cap) (by decide) rfl rfl (by kernel_rfl) (by kernel_rfl) (by kernel_rfl) (fun _ _ _ h => h) rfl (fun W => rfl) ?_
  conv => arg 8; simp only [Act.put, List.setIfInBounds_toArray, List.set_cons_zero, List.set_cons_succ]
  refine rg_take 10 (d := (some 66)) (v := .slice A xs.length c) (by decide) rfl rfl (by kernel_rfl) (by kernel_rfl) (by kernel_rfl) (fun _ _ _ h => h) rfl (fun W => rfl) ?_
  conv => arg 8; simp only [Act.put, List.setIfInBounds_toArray, List.set_cons_zero, List.set_cons_succ]
  refine rg_take 11 (d := (some 67)) (v := .int .i64 xs.length) (by decide) rfl rfl (by kernel_rfl) (by kernel_rfl) (by kernel_rfl) (fun _ _ _ h => h) rfl (fun W => by go_simp) ?_
  conv => arg 8; simp only [Act.put, List.setIfInBounds_toArray, List.set_cons_zero, List.set_cons_succ]
  refine rg_take 12 (d := (some 68)) (v := .slice (some ⟨g, 0, none⟩) xs.length cap) (by decide) rfl rfl (by kernel_rfl) (by kernel_rfl) (by kernel_rfl) (fun _ _ _ h => h) rfl (fun W => by go_simp) ?_
  conv => arg 8; simp only [Act.put, List.setIfInBounds_toArray, List.set_cons_zero, List.set_cons_succ]
  refine rg_take 15 (d := (some 71)) (v := now) (by decide) rfl rfl (by kernel_rfl) (by kernel_rfl) (by kernel_rfl) (fun _ _ _ h => h) rfl (fun W => rfl) ?_
  conv => arg 8; simp only [Act.put, List.setIfInBounds_toArray, List.set_cons_zero, List.set_cons_succ]
  refine rg_call 13 (d := (some 69)) (by kernel_rfl) (sealed_c r9 t9 (by omega)) rfl rfl (by kernel_rfl) rfl rfl ?_
  rintro e w10 ⟨a10, rfl, o10, k10⟩
  refine ⟨_, rfl, k10, ?_⟩
  conv => arg 8; simp only [Act.put, List.setIfInBounds_toArray, List.set_cons_zero, List.set_cons_succ]
  refine rg_conv 14 (d := (some 70)) (o10.readsB) (fun _ _ x => x) Tryd.underlying22 Tryd.underlying5 Tryd.underlying9 (by decide) (by kernel_rfl) (by kernel_rfl) rfl rfl (by kernel_rfl) (by kernel_rfl) (by kernel_rfl) (fun _ _ _ h => h) rfl rfl ?_
  conv => arg 8; simp only [Act.put, List.setIfInBounds_toArray, List.set_cons_zero, List.set_cons_succ]
  refine rg_call 16 (d := (some 72)) (by kernel_rfl) (refSealed_c (n9.keepN k10).readsB (by omega)) rfl rfl (by kernel_rfl) rfl rfl ?_
  rintro e w11 ⟨a11, rfl, o11, k11⟩
  refine ⟨_, rfl, k11, ?_⟩
  conv => arg 8; simp only [Act.put, List.setIfInBounds_toArray, List.set_cons_zero, List.set_cons_succ]
  refine rg_conv1 17 (d := (some 73)) (o11.readsB) Tryd.underlying22 Tryd.underlying5 Tryd.underlying9 rfl rfl (by kernel_rfl) rfl rfl ?_
  conv => arg 8; simp only [Act.put, List.setIfInBounds_toArray, List.set_cons_zero, List.set_cons_succ]
  refine rg_take 18 (d := (some 74)) (v := .bool true) (by decide) rfl rfl (by kernel_rfl) (by kernel_rfl) (by kernel_rfl) (fun _ _ _ h => h) rfl (fun W => by go_simp) ?_
  conv => arg 8; simp only [Act.put, List.setIfInBounds_toArray, List.set_cons_zero, List.set_cons_succ]
  refine rg_take 19 (d := (some 75)) (v := .bool true) (by decide) rfl rfl (by kernel_rfl) (by kernel_rfl) (by kernel_rfl) (fun _ _ _ h => h) rfl (fun W => rfl) ?_
  conv => arg 8; simp only [Act.put, List.setIfInBounds_toArray, List.set_cons_zero, List.set_cons_succ]
  refine rg_take 20 (d := (some 2)) (v := .bool true) (by decide) rfl rfl (by kernel_rfl) (by kernel_rfl) (by kernel_rfl) (fun _ _ _ h => h) rfl (fun W => rfl) ?_
  conv => arg 8; simp only [Act.put, List.setIfInBounds_toArray, List.set_cons_zero, List.set_cons_succ]
  refine rg_done (by kernel_rfl) ?_
  go_wp2
  go_ret
  exact ⟨rfl, ((k08.thenN d9).thenN k10).thenN k11⟩
end Go.Proofs.YtjhndppmpldfbaaDoor
