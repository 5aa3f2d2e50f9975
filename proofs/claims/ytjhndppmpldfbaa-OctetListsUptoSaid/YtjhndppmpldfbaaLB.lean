/- AppendBytes, and OctetLists: what the calls do. -/
import Derived.Test.YtjhndppmpldfbaaLA
namespace Go.Proofs.Ytjhndppmpldfbaa
open Go Go.RowKit

/-- a list with its length ahead -/
def lb (ys : List UInt8) : List UInt8 := sd ys.length ++ ys
theorem lb_length (ys : List UInt8) (h : ys.length < 18446744073709551616) : (lb ys).length ≤ ys.length + 10 := by
  have := sd_length _ h
  simp [lb]
  omega
set_option maxHeartbeats 400000 in
theorem bytes_c {u v : Value} {xs ys : List UInt8} {w : World} (hu : RdB w u xs) (hv : RdB w v ys) (hb : xs.length + ys.length ≤ 10000000000) :
    Calls Try.prog 12 #[u, v] w (GotB 5 w (xs ++ lb ys)) := by
  have hl := sd_length ys.length (by omega)
  obtain ⟨A, c, rfl, hc⟩ := hu.form
  obtain ⟨B, d, rfl, hd⟩ := hv.form
  go_enter Try.func12, Try.ntmps12
  go_wp2_with fail
  refine (number_c hu (n := ys.length) (by omega) (by omega)).mono ?_
  rintro e w1 ⟨v1, rfl, o1, k1⟩
  obtain ⟨v2, w2, r2, o2, k2, _⟩ := run_appB (P := Try.prog) (ty := 22) w1 Try.underlying22 u8info o1 (hv.keepN k1) (by simp; omega)
  go_wp2_with (refine app_op r2 rfl rfl ?_)
  go_ret
  have hz1 := k1.size
  have hz2 := k2.size
  refine got_of ?_ (k1.fresh k2 (fun i hi => (o1.fit i hi).1))
  rw [List.append_assoc] at o2
  exact o2.wide (fun k hk h => ⟨by rcases h with h | h <;> have := h.1 <;> omega, hk⟩)
set_option maxHeartbeats 400000 in
theorem refBytes_c {u v : Value} {xs ys : List UInt8} {w : World} (hu : RdB w u xs) (hv : RdB w v ys) (hb : xs.length + ys.length ≤ 10000000000) :
    Calls Try.prog 13 #[u, v] w (GotB 5 w (xs ++ lb ys)) := by
  have hl := sd_length ys.length (by omega)
  obtain ⟨A, c, rfl, hc⟩ := hu.form
  obtain ⟨B, d, rfl, hd⟩ := hv.form
  go_enter Try.func13, Try.ntmps13
  go_wp2_with fail
  refine (refNumber_c hu (n := ys.length) (by omega) (by omega)).mono ?_
  rintro e w1 ⟨v1, rfl, o1, k1⟩
  obtain ⟨v2, w2, r2, o2, k2, _⟩ := run_appB (P := Try.prog) (ty := 22) w1 Try.underlying22 u8info o1 (hv.keepN k1) (by simp; omega)
  go_wp2_with (refine app_op r2 rfl rfl ?_)
  go_ret
  have hz1 := k1.size
  have hz2 := k2.size
  refine got_of ?_ (k1.fresh k2 (fun i hi => (o1.fit i hi).1))
  rw [List.append_assoc] at o2
  exact o2.wide (fun k hk h => ⟨by rcases h with h | h <;> have := h.1 <;> omega, hk⟩)
set_option maxHeartbeats 1600000 in
theorem lists_walk {u v : Value} {xs ys : List UInt8} {w : World} (hu : RdB w u xs) (hv : RdB w v ys) (hb : xs.length + ys.length ≤ 1000000000) :
    Calls Try.prog 4 #[u, v] w fun e w' => e = .returned (.bool true) ∧ KpN w w' := by
  have hlb := lb_length ys (by omega)
  obtain ⟨A, c, rfl, hc⟩ := hu.form
  obtain ⟨B, d, rfl, hd⟩ := hv.form
  go_enter Try.func4, Try.ntmps4
  go_wp2_with fail
  refine (lent_c hu (by omega)).mono ?_
  rintro e w1 ⟨all, rfl, o1, k1⟩
  obtain ⟨g, cap, rfl, hg, hcap, rall⟩ := lent_form o1
  go_wp2_with fail
  refine (lent_c (hv.keepN k1) (by omega)).mono ?_
  rintro e w2 ⟨more, rfl, o2, k2⟩
  obtain ⟨g2, cap2, rfl, hg2, hcap2, rmore⟩ := lent_form o2
  have hcap' : xs.length ≤ cap := by omega
  have hcap2' : ys.length ≤ cap2 := by omega
  go_wp2_with fail
  have hz1 := k1.size
  have hz2 := k2.size
  refine rg_begin 10 (fun _ => False) (by kernel_rfl) (fun w3 d3 => ?_)
  have k23 := k2.thenN d3
  refine rg_take 0 (d := (some 14)) (v := .slice (some ⟨g, 0, none⟩) (xs.length + 8) cap) (by decide) rfl rfl (by kernel_rfl) (by kernel_rfl) (by kernel_rfl) (fun _ _ _ h => h) rfl (fun W => rfl) ?_
  conv => arg 8; simp only [Act.put, List.setIfInBounds_toArray, List.set_cons_zero, List.set_cons_succ]
  refine rg_take 1 (d := (some 15)) (v := .slice A xs.length c) (by decide) rfl rfl (by kernel_rfl) (by kernel_rfl) (by kernel_rfl) (fun _ _ _ h => h) rfl (fun W => rfl) ?_
  conv => arg 8; simp only [Act.put, List.setIfInBounds_toArray, List.set_cons_zero, List.set_cons_succ]
  refine rg_take 2 (d := (some 16)) (v := .int .i64 xs.length) (by decide) rfl rfl (by kernel_rfl) (by kernel_rfl) (by kernel_rfl) (fun _ _ _ h => h) rfl (fun W => by go_simp) ?_
  conv => arg 8; simp only [Act.put, List.setIfInBounds_toArray, List.set_cons_zero, List.set_cons_succ]
  refine rg_take 3 (d := (some 17)) (v := .slice (some ⟨g, 0, none⟩) xs.length cap) (by decide) rfl rfl (by kernel_rfl) (by kernel_rfl) (by kernel_rfl) (fun _ _ _ h => h) rfl (fun W => by go_simp) ?_
  conv => arg 8; simp only [Act.put, List.setIfInBounds_toArray, List.set_cons_zero, List.set_cons_succ]
  refine rg_take 4 (d := (some 18)) (v := .slice (some ⟨g2, 0, none⟩) (ys.length + 8) cap2) (by decide) rfl rfl (by kernel_rfl) (by kernel_rfl) (by kernel_rfl) (fun _ _ _ h => h) rfl (fun W => rfl) ?_
  conv => arg 8; simp only [Act.put, List.setIfInBounds_toArray, List.set_cons_zero, List.set_cons_succ]
  refine rg_take 5 (d := (some 19)) (v := .slice B ys.length d) (by decide) rfl rfl (by kernel_rfl) (by kernel_rfl) (by kernel_rfl) (fun _ _ _ h => h) rfl (fun W => rfl) ?_
  conv => arg 8; simp only [Act.put, List.setIfInBounds_toArray, List.set_cons_zero, List.set_cons_succ]
  refine rg_take 6 (d := (some 20)) (v := .int .i64 ys.length) (by decide) rfl rfl (by kernel_rfl) (by kernel_rfl) (by kernel_rfl) (fun _ _ _ h => h) rfl (fun W => by go_simp) ?_
  conv => arg 8; simp only [Act.put, List.setIfInBounds_toArray, List.set_cons_zero, List.set_cons_succ]
  refine rg_take 7 (d := (some 21)) (v := .slice (some ⟨g2, 0, none⟩) ys.length cap2) (by decide) rfl rfl (by kernel_rfl) (by kernel_rfl) (by kernel_rfl) (fun _ _ _ h => h) rfl (fun W => by go_simp) ?_
  conv => arg 8; simp only [Act.put, List.setIfInBounds_toArray, List.set_cons_zero, List.set_cons_succ]
  refine rg_call 8 (d := (some 22)) (by kernel_rfl) (bytes_c (rall.keepN k23) (rmore.keepN d3) (by omega)) rfl rfl (by kernel_rfl) rfl rfl ?_
  rintro e w4 ⟨a, rfl, o3, k3⟩
  refine ⟨_, rfl, k3, ?_⟩
  conv => arg 8; simp only [Act.put, List.setIfInBounds_toArray, List.set_cons_zero, List.set_cons_succ]
  refine rg_take 9 (d := (some 7)) (v := a) (by decide) rfl rfl (by kernel_rfl) (by kernel_rfl) (by kernel_rfl) (fun _ _ _ h => h) rfl (fun W => rfl) ?_
  conv => arg 8; simp only [Act.put, List.setIfInBounds_toArray, List.set_cons_zero, List.set_cons_succ]
  refine rg_done (by kernel_rfl) ?_
  have hz3 := d3.size
  have hz4 := k3.size
  have k04 := k1.thenN (k23.thenN k3)
  have o14 := o1.keepN (k23.thenN k3)
  have o24 := o2.keepN (d3.thenN k3)
  clear o1 o2 rall rmore k1 k2 d3 k3 k23
  go_wp2_with fail
  refine rg_begin 19 (fun _ => False) (by kernel_rfl) (fun w5 d5 => ?_)
  have k05 := k04.thenN d5
  refine rg_take 0 (d := (some 23)) (v := a) (by decide) rfl rfl (by kernel_rfl) (by kernel_rfl) (by kernel_rfl) (fun _ _ _ h => h) rfl (fun W => rfl) ?_
  conv => arg 8; simp only [Act.put, List.setIfInBounds_toArray, List.set_cons_zero, List.set_cons_succ]
  refine rg_conv 1 (d := (some 24)) ((o3.keepN d5).readsB) (fun _ _ x => x) Try.underlying22 Try.underlying5 Try.underlying9 (by decide) (by kernel_rfl) (by kernel_rfl) rfl rfl (by kernel_rfl) (by kernel_rfl) (by kernel_rfl) (fun _ _ _ h => h) rfl rfl ?_
  conv => arg 8; simp only [Act.put, List.setIfInBounds_toArray, List.set_cons_zero, List.set_cons_succ]
  refine rg_take 2 (d := (some 25)) (v := .slice A xs.length c) (by decide) rfl rfl (by kernel_rfl) (by kernel_rfl) (by kernel_rfl) (fun _ _ _ h => h) rfl (fun W => rfl) ?_
  conv => arg 8; simp only [Act.put, List.setIfInBounds_toArray, List.set_cons_zero, List.set_cons_succ]
  refine rg_take 3 (d := (some 26)) (v := .slice B ys.length d) (by decide) rfl rfl (by kernel_rfl) (by kernel_rfl) (by kernel_rfl) (fun _ _ _ h => h) rfl (fun W => rfl) ?_
  conv => arg 8; simp only [Act.put, List.setIfInBounds_toArray, List.set_cons_zero, List.set_cons_succ]
  refine rg_call 4 (d := (some 27)) (by kernel_rfl) (refBytes_c (hu.keepN k05) (hv.keepN k05) (by omega)) rfl rfl (by kernel_rfl) rfl rfl ?_
  rintro e w6 ⟨a6, rfl, o6, k6⟩
  refine ⟨_, rfl, k6, ?_⟩
  conv => arg 8; simp only [Act.put, List.setIfInBounds_toArray, List.set_cons_zero, List.set_cons_succ]
  have k46 := d5.thenN k6
  have k06 := k04.thenN k46
  refine rg_conv1 5 (d := (some 28)) (o6.readsB) Try.underlying22 Try.underlying5 Try.underlying9 rfl rfl (by kernel_rfl) rfl rfl ?_
  conv => arg 8; simp only [Act.put, List.setIfInBounds_toArray, List.set_cons_zero, List.set_cons_succ]
  refine rg_take 6 (d := (some 29)) (v := .bool false) (by decide) rfl rfl (by kernel_rfl) (by kernel_rfl) (by kernel_rfl) (fun _ _ _ h => h) rfl (fun W => by go_simp) ?_
  conv => arg 8; simp only [Act.put, List.setIfInBounds_toArray, List.set_cons_zero, List.set_cons_succ]
  refine rg_take 7 (d := (some 30)) (v := .bool false) (by decide) rfl rfl (by kernel_rfl) (by kernel_rfl) (by kernel_rfl) (fun _ _ _ h => h) rfl (fun W => rfl) ?_
  conv => arg 8; simp only [Act.put, List.setIfInBounds_toArray, List.set_cons_zero, List.set_cons_succ]
  refine rg_take 8 (d := (some 31)) (v := .slice (some ⟨g, 0, none⟩) (xs.length + 8) cap) (by decide) rfl rfl (by kernel_rfl) (by kernel_rfl) (by kernel_rfl) (fun _ _ _ h => h) rfl (fun W => rfl) ?_
  conv => arg 8; simp only [Act.put, List.setIfInBounds_toArray, List.set_cons_zero, List.set_cons_succ]
  refine rg_take 9 (d := (some 32)) (v := .slice A xs.length c) (by decide) rfl rfl (by kernel_rfl) (by kernel_rfl) (by kernel_rfl) (fun _ _ _ h => h) rfl (fun W => rfl) ?_
  conv => arg 8; simp only [Act.put, List.setIfInBounds_toArray, List.set_cons_zero, List.set_cons_succ]
  refine rg_call 10 (d := (some 33)) (by kernel_rfl) (stays_c (o14.keepN k46).readsB (hu.keepN k06) (by omega)) rfl rfl (by kernel_rfl) rfl rfl ?_
  rintro e w7 ⟨rfl, rfl⟩
  refine ⟨_, rfl, Kp.refl _ _, ?_⟩
  conv => arg 8; simp only [Act.put, List.setIfInBounds_toArray, List.set_cons_zero, List.set_cons_succ]
  refine rg_take 11 (d := (some 34)) (v := .bool false) (by decide) rfl rfl (by kernel_rfl) (by kernel_rfl) (by kernel_rfl) (fun _ _ _ h => h) rfl (fun W => rfl) ?_
  conv => arg 8; simp only [Act.put, List.setIfInBounds_toArray, List.set_cons_zero, List.set_cons_succ]
  refine rg_take 12 (d := (some 35)) (v := .bool false) (by decide) rfl rfl (by kernel_rfl) (by kernel_rfl) (by kernel_rfl) (fun _ _ _ h => h) rfl (fun W => rfl) ?_
  conv => arg 8; simp only [Act.put, List.setIfInBounds_toArray, List.set_cons_zero, List.set_cons_succ]
  refine rg_take 13 (d := (some 36)) (v := .bool false) (by decide) rfl rfl (by kernel_rfl) (by kernel_rfl) (by kernel_rfl) (fun _ _ _ h => h) rfl (fun W => rfl) ?_
  conv => arg 8; simp only [Act.put, List.setIfInBounds_toArray, List.set_cons_zero, List.set_cons_succ]
  refine rg_take 14 (d := (some 37)) (v := .slice (some ⟨g2, 0, none⟩) (ys.length + 8) cap2) (by decide) rfl rfl (by kernel_rfl) (by kernel_rfl) (by kernel_rfl) (fun _ _ _ h => h) rfl (fun W => rfl) ?_
  conv => arg 8; simp only [Act.put, List.setIfInBounds_toArray, List.set_cons_zero, List.set_cons_succ]
  refine rg_take 15 (d := (some 38)) (v := .slice B ys.length d) (by decide) rfl rfl (by kernel_rfl) (by kernel_rfl) (by kernel_rfl) (fun _ _ _ h => h) rfl (fun W => rfl) ?_
  conv => arg 8; simp only [Act.put, List.setIfInBounds_toArray, List.set_cons_zero, List.set_cons_succ]
  refine rg_call 16 (d := (some 39)) (by kernel_rfl) (stays_c (o24.keepN k46).readsB (hv.keepN k06) (by omega)) rfl rfl (by kernel_rfl) rfl rfl ?_
  rintro e w7 ⟨rfl, rfl⟩
  refine ⟨_, rfl, Kp.refl _ _, ?_⟩
  conv => arg 8; simp only [Act.put, List.setIfInBounds_toArray, List.set_cons_zero, List.set_cons_succ]
  refine rg_take 17 (d := (some 40)) (v := .bool false) (by decide) rfl rfl (by kernel_rfl) (by kernel_rfl) (by kernel_rfl) (fun _ _ _ h => h) rfl (fun W => rfl) ?_
  conv => arg 8; simp only [Act.put, List.setIfInBounds_toArray, List.set_cons_zero, List.set_cons_succ]
  refine rg_take 18 (d := (some 41)) (v := .bool false) (by decide) rfl rfl (by kernel_rfl) (by kernel_rfl) (by kernel_rfl) (fun _ _ _ h => h) rfl (fun W => rfl) ?_
  conv => arg 8; simp only [Act.put, List.setIfInBounds_toArray, List.set_cons_zero, List.set_cons_succ]
  refine rg_done (by kernel_rfl) ?_
  have hz6 := k46.size
  have a6' := o3.keepN k46
  replace o14 := o14.keepN k46
  replace o24 := o24.keepN k46
  clear o3 o6 k46 k04 k05 d5 k6
  go_wp2_with fail
  refine (turned_c o14 (by rfl) (by omega)).mono ?_
  rintro e w7 ⟨now, rfl, n7, o17, k7⟩
  have hz7 := k7.size
  go_wp2_with fail
  refine (turned_c (o24.keep k7 (fun i h1 h2 => by omega)) (by rfl) (by omega)).mono ?_
  rintro e w8 ⟨then_, rfl, m8, o28, k8⟩
  have hz8 := k8.size
  have k08 : KpN w w8 := (k06.fresh k7 (fun i h1 => by omega)).fresh k8 (fun i h1 => by omega)
  have a8 := (a6'.keep k7 (fun i h1 h2 => by omega)).keep k8 (fun i h1 h2 => by omega)
  have o18 := o17.keep k8 (fun i h1 h2 => by omega)
  have n8 := n7.keep k8 (fun i h1 h2 => by omega)
  have hlx := turn_length xs
  have hly := turn_length ys
  have HLX := Lib.hid hlx
  have HLY := Lib.hid hly
  clear hlx hly o14 o24 a6' o17 n7 k06 k7 k8
  go_wp2_with fail
  refine rg_begin 6 (fun _ => False) (by kernel_rfl) (fun w9 d9 => ?_)
  have k09 := k08.thenN d9
  have hz9 := d9.size
  have a9 := a8.keepN d9
  refine rg_take 0 (d := (some 46)) (v := a) (by decide) rfl rfl (by kernel_rfl) (by kernel_rfl) (by kernel_rfl) (fun _ _ _ h => h) rfl (fun W => rfl) ?_
  conv => arg 8; simp only [Act.put, List.setIfInBounds_toArray, List.set_cons_zero, List.set_cons_succ]
  refine rg_conv 1 (d := (some 47)) (a9.readsB) (fun _ _ x => x) Try.underlying22 Try.underlying5 Try.underlying9 (by decide) (by kernel_rfl) (by kernel_rfl) rfl rfl (by kernel_rfl) (by kernel_rfl) (by kernel_rfl) (fun _ _ _ h => h) rfl rfl ?_
  conv => arg 8; simp only [Act.put, List.setIfInBounds_toArray, List.set_cons_zero, List.set_cons_succ]
  refine rg_take 2 (d := (some 48)) (v := .slice A xs.length c) (by decide) rfl rfl (by kernel_rfl) (by kernel_rfl) (by kernel_rfl) (fun _ _ _ h => h) rfl (fun W => rfl) ?_
  conv => arg 8; simp only [Act.put, List.setIfInBounds_toArray, List.set_cons_zero, List.set_cons_succ]
  refine rg_take 3 (d := (some 49)) (v := .slice B ys.length d) (by decide) rfl rfl (by kernel_rfl) (by kernel_rfl) (by kernel_rfl) (fun _ _ _ h => h) rfl (fun W => rfl) ?_
  conv => arg 8; simp only [Act.put, List.setIfInBounds_toArray, List.set_cons_zero, List.set_cons_succ]
  refine rg_call 4 (d := (some 50)) (by kernel_rfl) (refBytes_c (hu.keepN k09) (hv.keepN k09) (by omega)) rfl rfl (by kernel_rfl) rfl rfl ?_
  rintro e w10 ⟨a10, rfl, o10, k10⟩
  refine ⟨_, rfl, k10, ?_⟩
  conv => arg 8; simp only [Act.put, List.setIfInBounds_toArray, List.set_cons_zero, List.set_cons_succ]
  have hz10 := k10.size
  have hlx := HLX.out
  have hly := HLY.out
  refine rg_conv1 5 (d := (some 51)) (o10.readsB) Try.underlying22 Try.underlying5 Try.underlying9 rfl rfl (by kernel_rfl) rfl rfl ?_
  conv => arg 8; simp only [Act.put, List.setIfInBounds_toArray, List.set_cons_zero, List.set_cons_succ]
  refine rg_only 6 (d := (some 52)) (v := .bool false) rfl rfl (by kernel_rfl) rfl (by go_simp) ?_
  conv => arg 8; simp only [Act.put, List.setIfInBounds_toArray, List.set_cons_zero, List.set_cons_succ]
  refine rg_stage 24 (Iv w3.heap.size w4.heap.size) (by kernel_rfl) ?_
  refine rg_take 7 (d := (some 53)) (v := .bool false) (by decide) rfl rfl (by kernel_rfl) (by kernel_rfl) (by kernel_rfl) (fun _ _ _ h => h) rfl (fun W => rfl) ?_
  conv => arg 8; simp only [Act.put, List.setIfInBounds_toArray, List.set_cons_zero, List.set_cons_succ]
  refine rg_take 8 (d := (some 54)) (v := a) (by decide) rfl rfl (by kernel_rfl) (by kernel_rfl) (by kernel_rfl) (fun _ _ _ h => h) rfl (fun W => rfl) ?_
  conv => arg 8; simp only [Act.put, List.setIfInBounds_toArray, List.set_cons_zero, List.set_cons_succ]
  refine rg_call 9 (d := (some 55)) (by kernel_rfl) (spoils_c (a9.keepN k10) (by simp; omega)) rfl rfl (by kernel_rfl) rfl rfl ?_
  rintro e w11 ⟨rfl, k11⟩
  refine ⟨_, rfl, k11, ?_⟩
  conv => arg 8; simp only [Act.put, List.setIfInBounds_toArray, List.set_cons_zero, List.set_cons_succ]
  have k811 := (d9.thenN k10).after k11
  refine rg_take 10 (d := (some 56)) (v := .bool false) (by decide) rfl rfl (by kernel_rfl) (by kernel_rfl) (by kernel_rfl) (fun _ _ _ h => h) rfl (fun W => rfl) ?_
  conv => arg 8; simp only [Act.put, List.setIfInBounds_toArray, List.set_cons_zero, List.set_cons_succ]
  refine rg_take 11 (d := (some 57)) (v := .bool false) (by decide) rfl rfl (by kernel_rfl) (by kernel_rfl) (by kernel_rfl) (fun _ _ _ h => h) rfl (fun W => rfl) ?_
  conv => arg 8; simp only [Act.put, List.setIfInBounds_toArray, List.set_cons_zero, List.set_cons_succ]
  refine rg_take 12 (d := (some 58)) (v := .bool false) (by decide) rfl rfl (by kernel_rfl) (by kernel_rfl) (by kernel_rfl) (fun _ _ _ h => h) rfl (fun W => rfl) ?_
  conv => arg 8; simp only [Act.put, List.setIfInBounds_toArray, List.set_cons_zero, List.set_cons_succ]
  refine rg_take 13 (d := (some 59)) (v := .slice (some ⟨g, 0, none⟩) (xs.length + 8) cap) (by decide) rfl rfl (by kernel_rfl) (by kernel_rfl) (by kernel_rfl) (fun _ _ _ h => h) rfl (fun W => rfl) ?_
  conv => arg 8; simp only [Act.put, List.setIfInBounds_toArray, List.set_cons_zero, List.set_cons_succ]
  refine rg_take 14 (d := (some 60)) (v := now) (by decide) rfl rfl (by kernel_rfl) (by kernel_rfl) (by kernel_rfl) (fun _ _ _ h => h) rfl (fun W => rfl) ?_
  conv => arg 8; simp only [Act.put, List.setIfInBounds_toArray, List.set_cons_zero, List.set_cons_succ]
  refine rg_call 15 (d := (some 61)) (by kernel_rfl) (stays_c ((o18.keepN (d9.thenN k10)).keep k11 (fun i h1 h2 => by omega)).readsB ((n8.keepN (d9.thenN k10)).keep k11 (fun i h1 h2 => by omega)).readsB (by omega)) rfl rfl (by kernel_rfl) rfl rfl ?_
  rintro e w12 ⟨rfl, rfl⟩
  refine ⟨_, rfl, Kp.refl _ _, ?_⟩
  conv => arg 8; simp only [Act.put, List.setIfInBounds_toArray, List.set_cons_zero, List.set_cons_succ]
  refine rg_take 16 (d := (some 62)) (v := .bool false) (by decide) rfl rfl (by kernel_rfl) (by kernel_rfl) (by kernel_rfl) (fun _ _ _ h => h) rfl (fun W => rfl) ?_
  conv => arg 8; simp only [Act.put, List.setIfInBounds_toArray, List.set_cons_zero, List.set_cons_succ]
  refine rg_take 17 (d := (some 63)) (v := .bool false) (by decide) rfl rfl (by kernel_rfl) (by kernel_rfl) (by kernel_rfl) (fun _ _ _ h => h) rfl (fun W => rfl) ?_
  conv => arg 8; simp only [Act.put, List.setIfInBounds_toArray, List.set_cons_zero, List.set_cons_succ]
  refine rg_take 18 (d := (some 64)) (v := .bool false) (by decide) rfl rfl (by kernel_rfl) (by kernel_rfl) (by kernel_rfl) (fun _ _ _ h => h) rfl (fun W => rfl) ?_
  conv => arg 8; simp only [Act.put, List.setIfInBounds_toArray, List.set_cons_zero, List.set_cons_succ]
  refine rg_take 19 (d := (some 65)) (v := .slice (some ⟨g2, 0, none⟩) (ys.length + 8) cap2) (by decide) rfl rfl (by kernel_rfl) (by kernel_rfl) (by kernel_rfl) (fun _ _ _ h => h) rfl (fun W => rfl) ?_
  conv => arg 8; simp only [Act.put, List.setIfInBounds_toArray, List.set_cons_zero, List.set_cons_succ]
  refine rg_take 20 (d := (some 66)) (v := then_) (by decide) rfl rfl (by kernel_rfl) (by kernel_rfl) (by kernel_rfl) (fun _ _ _ h => h) rfl (fun W => rfl) ?_
  conv => arg 8; simp only [Act.put, List.setIfInBounds_toArray, List.set_cons_zero, List.set_cons_succ]
  refine rg_call 21 (d := (some 67)) (by kernel_rfl) (stays_c ((o28.keepN (d9.thenN k10)).keep k11 (fun i h1 h2 => by omega)).readsB ((m8.keepN (d9.thenN k10)).keep k11 (fun i h1 h2 => by omega)).readsB (by omega)) rfl rfl (by kernel_rfl) rfl rfl ?_
  rintro e w12 ⟨rfl, rfl⟩
  refine ⟨_, rfl, Kp.refl _ _, ?_⟩
  conv => arg 8; simp only [Act.put, List.setIfInBounds_toArray, List.set_cons_zero, List.set_cons_succ]
  refine rg_take 22 (d := (some 68)) (v := .bool false) (by decide) rfl rfl (by kernel_rfl) (by kernel_rfl) (by kernel_rfl) (fun _ _ _ h => h) rfl (fun W => rfl) ?_
  conv => arg 8; simp only [Act.put, List.setIfInBounds_toArray, List.set_cons_zero, List.set_cons_succ]
  refine rg_take 23 (d := (some 69)) (v := .bool false) (by decide) rfl rfl (by kernel_rfl) (by kernel_rfl) (by kernel_rfl) (fun _ _ _ h => h) rfl (fun W => rfl) ?_
  conv => arg 8; simp only [Act.put, List.setIfInBounds_toArray, List.set_cons_zero, List.set_cons_succ]
  refine rg_done (by kernel_rfl) ?_
  have hz11 := k11.size
  have k011 : KpN w w11 := (k09.thenN k10).fresh k11 (fun i h1 => by omega)
  have k911 := (d9.thenN k10).after k11
  have o111 := (o18.keepN (d9.thenN k10)).keep k11 (fun i h1 h2 => by omega)
  have o211 := (o28.keepN (d9.thenN k10)).keep k11 (fun i h1 h2 => by omega)
  have n11 := (n8.keepN (d9.thenN k10)).keep k11 (fun i h1 h2 => by omega)
  have m11 := (m8.keepN (d9.thenN k10)).keep k11 (fun i h1 h2 => by omega)
  clear a8 a9 o10 o18 o28 n8 m8 k08 k09 k10 k11 d9 hlx hly
  go_wp2_with fail
  refine rg_begin 16 (fun _ => False) (by kernel_rfl) (fun w12 d12 => ?_)
  have hlx := HLX.out
  have hly := HLY.out
  have hlb2 := lb_length (turn ys) (by omega)
  refine rg_take 0 (d := (some 70)) (v := .slice (some ⟨g, 0, none⟩) (xs.length + 8) cap) (by decide) rfl rfl (by kernel_rfl) (by kernel_rfl) (by kernel_rfl) (fun _ _ _ h => h) rfl (fun W => rfl) ?_
  conv => arg 8; simp only [Act.put, List.setIfInBounds_toArray, List.set_cons_zero, List.set_cons_succ]
  refine rg_take 1 (d := (some 71)) (v := .slice A xs.length c) (by decide) rfl rfl (by kernel_rfl) (by kernel_rfl) (by kernel_rfl) (fun _ _ _ h => h) rfl (fun W => rfl) ?_
  conv => arg 8; simp only [Act.put, List.setIfInBounds_toArray, List.set_cons_zero, List.set_cons_succ]
  refine rg_take 2 (d := (some 72)) (v := .int .i64 xs.length) (by decide) rfl rfl (by kernel_rfl) (by kernel_rfl) (by kernel_rfl) (fun _ _ _ h => h) rfl (fun W => by go_simp) ?_
  conv => arg 8; simp only [Act.put, List.setIfInBounds_toArray, List.set_cons_zero, List.set_cons_succ]
  refine rg_take 3 (d := (some 73)) (v := .slice (some ⟨g, 0, none⟩) xs.length cap) (by decide) rfl rfl (by kernel_rfl) (by kernel_rfl) (by kernel_rfl) (fun _ _ _ h => h) rfl (fun W => by go_simp) ?_
  conv => arg 8; simp only [Act.put, List.setIfInBounds_toArray, List.set_cons_zero, List.set_cons_succ]
  refine rg_take 4 (d := (some 74)) (v := .slice (some ⟨g2, 0, none⟩) (ys.length + 8) cap2) (by decide) rfl rfl (by kernel_rfl) (by kernel_rfl) (by kernel_rfl) (fun _ _ _ h => h) rfl (fun W => rfl) ?_
  conv => arg 8; simp only [Act.put, List.setIfInBounds_toArray, List.set_cons_zero, List.set_cons_succ]
  refine rg_take 5 (d := (some 75)) (v := .slice B ys.length d) (by decide) rfl rfl (by kernel_rfl) (by kernel_rfl) (by kernel_rfl) (fun _ _ _ h => h) rfl (fun W => rfl) ?_
  conv => arg 8; simp only [Act.put, List.setIfInBounds_toArray, List.set_cons_zero, List.set_cons_succ]
  refine rg_take 6 (d := (some 76)) (v := .int .i64 ys.length) (by decide) rfl rfl (by kernel_rfl) (by kernel_rfl) (by kernel_rfl) (fun _ _ _ h => h) rfl (fun W => by go_simp) ?_
  conv => arg 8; simp only [Act.put, List.setIfInBounds_toArray, List.set_cons_zero, List.set_cons_succ]
  refine rg_take 7 (d := (some 77)) (v := .slice (some ⟨g2, 0, none⟩) ys.length cap2) (by decide) rfl rfl (by kernel_rfl) (by kernel_rfl) (by kernel_rfl) (fun _ _ _ h => h) rfl (fun W => by go_simp) ?_
  conv => arg 8; simp only [Act.put, List.setIfInBounds_toArray, List.set_cons_zero, List.set_cons_succ]
  refine rg_take 10 (d := (some 80)) (v := now) (by decide) rfl rfl (by kernel_rfl) (by kernel_rfl) (by kernel_rfl) (fun _ _ _ h => h) rfl (fun W => rfl) ?_
  conv => arg 8; simp only [Act.put, List.setIfInBounds_toArray, List.set_cons_zero, List.set_cons_succ]
  refine rg_take 11 (d := (some 81)) (v := then_) (by decide) rfl rfl (by kernel_rfl) (by kernel_rfl) (by kernel_rfl) (fun _ _ _ h => h) rfl (fun W => rfl) ?_
  conv => arg 8; simp only [Act.put, List.setIfInBounds_toArray, List.set_cons_zero, List.set_cons_succ]
  refine rg_call 8 (d := (some 78)) (by kernel_rfl) (bytes_c (turned_front (o111.keepN d12)) (turned_front (o211.keepN d12)) (by omega)) rfl rfl (by kernel_rfl) rfl rfl ?_
  rintro e w13 ⟨a13, rfl, o13, k13⟩
  refine ⟨_, rfl, k13, ?_⟩
  conv => arg 8; simp only [Act.put, List.setIfInBounds_toArray, List.set_cons_zero, List.set_cons_succ]
  have k123 := d12.thenN k13
  refine rg_conv 9 (d := (some 79)) (o13.readsB) (fun _ _ x => x) Try.underlying22 Try.underlying5 Try.underlying9 (by decide) (by kernel_rfl) (by kernel_rfl) rfl rfl (by kernel_rfl) (by kernel_rfl) (by kernel_rfl) (fun _ _ _ h => h) rfl rfl ?_
  conv => arg 8; simp only [Act.put, List.setIfInBounds_toArray, List.set_cons_zero, List.set_cons_succ]
  refine rg_call 12 (d := (some 82)) (by kernel_rfl) (refBytes_c (n11.keepN k123).readsB (m11.keepN k123).readsB (by omega)) rfl rfl (by kernel_rfl) rfl rfl ?_
  rintro e w14 ⟨a14, rfl, o14, k14⟩
  refine ⟨_, rfl, k14, ?_⟩
  conv => arg 8; simp only [Act.put, List.setIfInBounds_toArray, List.set_cons_zero, List.set_cons_succ]
  refine rg_conv1 13 (d := (some 83)) (o14.readsB) Try.underlying22 Try.underlying5 Try.underlying9 rfl rfl (by kernel_rfl) rfl rfl ?_
  conv => arg 8; simp only [Act.put, List.setIfInBounds_toArray, List.set_cons_zero, List.set_cons_succ]
  refine rg_take 14 (d := (some 84)) (v := .bool true) (by decide) rfl rfl (by kernel_rfl) (by kernel_rfl) (by kernel_rfl) (fun _ _ _ h => h) rfl (fun W => by go_simp) ?_
  conv => arg 8; simp only [Act.put, List.setIfInBounds_toArray, List.set_cons_zero, List.set_cons_succ]
  refine rg_take 15 (d := (some 4)) (v := .bool true) (by decide) rfl rfl (by kernel_rfl) (by kernel_rfl) (by kernel_rfl) (fun _ _ _ h => h) rfl (fun W => rfl) ?_
  conv => arg 8; simp only [Act.put, List.setIfInBounds_toArray, List.set_cons_zero, List.set_cons_succ]
  refine rg_done (by kernel_rfl) ?_
  go_wp2
  go_ret
  exact ⟨rfl, (k011.thenN k123).thenN k14⟩
end Go.Proofs.Ytjhndppmpldfbaa
