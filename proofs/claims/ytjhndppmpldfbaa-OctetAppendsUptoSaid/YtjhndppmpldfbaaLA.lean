/- OctetAppends: what the call does. -/
import Derived.Test.YtjhndppmpldfbaaO3
import Derived.Test.YtjhndppmpldfbaaR
namespace Go.Proofs.Ytjhndppmpldfbaa
open Go Go.RowKit

/-- what 'lent' hands out: where it lies, and its front -/
theorem lent_form {w1 : World} {F : Nat → Prop} {all : Value} {xs : List UInt8} (o : OwB w1 5 F all (xs ++ marks)) :
    ∃ g cap, all = .slice (some ⟨g, 0, none⟩) (xs.length + 8) cap ∧ F g ∧ xs.length + 8 ≤ cap ∧ RdB w1 (.slice (some ⟨g, 0, none⟩) xs.length cap) xs := by
  obtain ⟨g, cap, rfl, hg, hcap⟩ := o.form (by simp [marks])
  have hl : (xs ++ marks).length = xs.length + 8 := by simp [marks]
  have r := o.readsB.take xs.length (by omega)
  rw [List.take_left] at r
  rw [hl] at hcap
  exact ⟨g, cap, by rw [hl], hg, hcap, r⟩

set_option maxHeartbeats 800000 in
theorem appends_walk {v : Value} {xs : List UInt8} {n : Nat} {w : World} (h : RdB w v xs) (hn : n < 18446744073709551616) (hb : xs.length ≤ 10000000000) :
    Calls Try.prog 3 #[v, .int .u64 (n : Int)] w fun e w' => e = .returned (.bool true) ∧ KpN w w' := by
  obtain ⟨A, c, rfl, hc⟩ := h.form
  go_enter Try.func3, Try.ntmps3
  go_wp2_with fail
  refine (lent_c h (by omega)).mono ?_
  rintro e w1 ⟨all, rfl, o1, k1⟩
  obtain ⟨g, cap, rfl, hg, hcap, rall⟩ := lent_form o1
  go_wp2_with fail
  refine (number_c rall hn (by omega)).mono ?_
  rintro e w2 ⟨a, rfl, o2, k2⟩
  go_wp2_with fail
  -- region 3, 13 operations
  refine rg_begin (fun _ => False) (by kernel_rfl) ?_
  obtain ⟨w2', e2, o2, k2⟩ := drew_got o2 k2
  rw [e2]
  clear e2
  refine rg_take 0 (d := (some 16)) (v := a) rfl rfl (by kernel_rfl) (by kernel_rfl) (by kernel_rfl) (fun _ _ _ h => h) rfl (fun W hW => rfl) ?_
  conv => arg 7; simp only [Act.put, List.setIfInBounds_toArray, List.set_cons_zero, List.set_cons_succ]
  refine rg_conv 1 (d := (some 17)) (o2.readsB) (fun _ _ x => x) Try.underlying22 Try.underlying5 Try.underlying9 rfl rfl (by kernel_rfl) (by kernel_rfl) (by kernel_rfl) (fun _ _ _ h => h) rfl rfl ?_
  conv => arg 7; simp only [Act.put, List.setIfInBounds_toArray, List.set_cons_zero, List.set_cons_succ]
  refine rg_take 2 (d := (some 18)) (v := .slice A xs.length c) rfl rfl (by kernel_rfl) (by kernel_rfl) (by kernel_rfl) (fun _ _ _ h => h) rfl (fun W hW => rfl) ?_
  conv => arg 7; simp only [Act.put, List.setIfInBounds_toArray, List.set_cons_zero, List.set_cons_succ]
  refine rg_take 3 (d := (some 19)) (v := .int .u64 n) rfl rfl (by kernel_rfl) (by kernel_rfl) (by kernel_rfl) (fun _ _ _ h => h) rfl (fun W hW => rfl) ?_
  conv => arg 7; simp only [Act.put, List.setIfInBounds_toArray, List.set_cons_zero, List.set_cons_succ]
  refine rg_call 4 (d := (some 20)) (by kernel_rfl) (refNumber_c ((h.keepN k1).keepN k2) hn (by omega)) rfl rfl (by kernel_rfl) rfl rfl ?_
  rintro e w3 ⟨a3, rfl, o3, k3⟩
  refine ⟨_, rfl, k3, ?_⟩
  conv => arg 7; simp only [Act.put, List.setIfInBounds_toArray, List.set_cons_zero, List.set_cons_succ]
  refine rg_conv 5 (d := (some 21)) (o3.readsB) (fun _ _ x => x) Try.underlying22 Try.underlying5 Try.underlying9 rfl rfl (by kernel_rfl) (by kernel_rfl) (by kernel_rfl) (fun _ _ _ h => h) rfl rfl ?_
  conv => arg 7; simp only [Act.put, List.setIfInBounds_toArray, List.set_cons_zero, List.set_cons_succ]
  refine rg_take 6 (d := (some 22)) (v := .bool false) rfl rfl (by kernel_rfl) (by kernel_rfl) (by kernel_rfl) (fun _ _ _ h => h) rfl (fun W hW => by go_simp) ?_
  conv => arg 7; simp only [Act.put, List.setIfInBounds_toArray, List.set_cons_zero, List.set_cons_succ]
  refine rg_take 7 (d := (some 23)) (v := .bool false) rfl rfl (by kernel_rfl) (by kernel_rfl) (by kernel_rfl) (fun _ _ _ h => h) rfl (fun W hW => rfl) ?_
  conv => arg 7; simp only [Act.put, List.setIfInBounds_toArray, List.set_cons_zero, List.set_cons_succ]
  refine rg_take 8 (d := (some 24)) (v := .slice (some ⟨g, 0, none⟩) (xs.length + 8) cap) rfl rfl (by kernel_rfl) (by kernel_rfl) (by kernel_rfl) (fun _ _ _ h => h) rfl (fun W hW => rfl) ?_
  conv => arg 7; simp only [Act.put, List.setIfInBounds_toArray, List.set_cons_zero, List.set_cons_succ]
  refine rg_take 9 (d := (some 25)) (v := .slice A xs.length c) rfl rfl (by kernel_rfl) (by kernel_rfl) (by kernel_rfl) (fun _ _ _ h => h) rfl (fun W hW => rfl) ?_
  conv => arg 7; simp only [Act.put, List.setIfInBounds_toArray, List.set_cons_zero, List.set_cons_succ]
  refine rg_call 10 (d := (some 26)) (by kernel_rfl) (stays_c ((o1.readsB.keepN k2).keepN k3) (((h.keepN k1).keepN k2).keepN k3) (by omega)) rfl rfl (by kernel_rfl) rfl rfl ?_
  rintro e w4 ⟨rfl, rfl⟩
  refine ⟨_, rfl, Kp.refl _ _, ?_⟩
  conv => arg 7; simp only [Act.put, List.setIfInBounds_toArray, List.set_cons_zero, List.set_cons_succ]
  refine rg_take 11 (d := (some 27)) (v := .bool false) rfl rfl (by kernel_rfl) (by kernel_rfl) (by kernel_rfl) (fun _ _ _ h => h) rfl (fun W hW => rfl) ?_
  conv => arg 7; simp only [Act.put, List.setIfInBounds_toArray, List.set_cons_zero, List.set_cons_succ]
  refine rg_take 12 (d := (some 28)) (v := .bool false) rfl rfl (by kernel_rfl) (by kernel_rfl) (by kernel_rfl) (fun _ _ _ h => h) rfl (fun W hW => rfl) ?_
  conv => arg 7; simp only [Act.put, List.setIfInBounds_toArray, List.set_cons_zero, List.set_cons_succ]
  refine rg_done (by kernel_rfl) ?_
  go_wp2_with fail
  refine (turned_c ((o1.keepN k2).keepN k3) (by rfl) (by omega)).mono ?_
  rintro e w4 ⟨now, rfl, o4, o5, k4⟩
  have kw : KpN w w4 := (((k1.thenN k2).thenN k3).fresh k4 (fun i hi => by simp only [Value.ownBlock, Option.some.injEq] at hi; have := hg.1; omega))
  have k24 : Kp (Iv w.heap.size w1.heap.size) w2' w4 := (k3.after (k4.mono (fun i _ hi => by simp only [Value.ownBlock, Option.some.injEq] at hi; subst hi; exact hg)))
  have o6 := o2.keep k24 (fun i hi hj => by have h1 := hi.1; have h2 := hj.2; omega)
  have hw4 := h.keepN kw
  go_wp2_with fail
  -- region 6, 7 operations
  refine rg_begin (fun _ => False) (by kernel_rfl) ?_
  replace kw := kw.drew
  replace hw4 := hw4.keepN (Kp.refl _ w4).drew
  replace o4 := o4.drew
  replace o5 := o5.drew
  replace o6 := o6.drew
  have hz4 : w4.heap.size = w4.drew.heap.size := rfl
  have hz45 : w4.heap.size ≤ w4.drew.heap.size := Nat.le_refl _
  generalize w4.drew = w5 at *
  rw [hz4] at o4
  clear hz4
  refine rg_take 0 (d := (some 31)) (v := a) rfl rfl (by kernel_rfl) (by kernel_rfl) (by kernel_rfl) (fun _ _ _ h => h) rfl (fun W hW => rfl) ?_
  conv => arg 7; simp only [Act.put, List.setIfInBounds_toArray, List.set_cons_zero, List.set_cons_succ]
  refine rg_conv 1 (d := (some 32)) (o6.readsB) (fun _ _ x => x) Try.underlying22 Try.underlying5 Try.underlying9 rfl rfl (by kernel_rfl) (by kernel_rfl) (by kernel_rfl) (fun _ _ _ h => h) rfl rfl ?_
  conv => arg 7; simp only [Act.put, List.setIfInBounds_toArray, List.set_cons_zero, List.set_cons_succ]
  refine rg_take 2 (d := (some 33)) (v := .slice A xs.length c) rfl rfl (by kernel_rfl) (by kernel_rfl) (by kernel_rfl) (fun _ _ _ h => h) rfl (fun W hW => rfl) ?_
  conv => arg 7; simp only [Act.put, List.setIfInBounds_toArray, List.set_cons_zero, List.set_cons_succ]
  refine rg_take 3 (d := (some 34)) (v := .int .u64 n) rfl rfl (by kernel_rfl) (by kernel_rfl) (by kernel_rfl) (fun _ _ _ h => h) rfl (fun W hW => rfl) ?_
  conv => arg 7; simp only [Act.put, List.setIfInBounds_toArray, List.set_cons_zero, List.set_cons_succ]
  refine rg_call 4 (d := (some 35)) (by kernel_rfl) (refNumber_c hw4 hn (by omega)) rfl rfl (by kernel_rfl) rfl rfl ?_
  rintro e w6 ⟨a6, rfl, o7, k6⟩
  refine ⟨_, rfl, k6, ?_⟩
  conv => arg 7; simp only [Act.put, List.setIfInBounds_toArray, List.set_cons_zero, List.set_cons_succ]
  refine rg_conv 5 (d := (some 36)) (o7.readsB) (fun _ _ x => x) Try.underlying22 Try.underlying5 Try.underlying9 rfl rfl (by kernel_rfl) (by kernel_rfl) (by kernel_rfl) (fun _ _ _ h => h) rfl rfl ?_
  conv => arg 7; simp only [Act.put, List.setIfInBounds_toArray, List.set_cons_zero, List.set_cons_succ]
  refine rg_take 6 (d := (some 37)) (v := .bool false) rfl rfl (by kernel_rfl) (by kernel_rfl) (by kernel_rfl) (fun _ _ _ h => h) rfl (fun W hW => by go_simp) ?_
  conv => arg 7; simp only [Act.put, List.setIfInBounds_toArray, List.set_cons_zero, List.set_cons_succ]
  refine rg_done (by kernel_rfl) ?_
  go_wp2_with fail
  obtain ⟨hl, rall2⟩ : (turn xs).length = xs.length ∧ RdB w6 (.slice (some ⟨g, 0, none⟩) xs.length cap) (turn xs) := by
    refine ⟨turn_length xs, ?_⟩
    have := (o5.keepN k6).readsB.take xs.length (by omega)
    rwa [List.take_append_of_le_length (by rw [turn_length]; omega), List.take_of_length_le (by rw [turn_length]; omega)] at this
  have hcap' : xs.length ≤ cap := by omega
  have hlt : (turn xs).length ≤ 10000000000 := by omega
  have hsd := sd_length n hn
  have hz1 := k1.size
  have hz2 := k2.size
  have hz := (kw.thenN k6).size
  have kw6 := kw.thenN k6
  have hF : ∀ k, (Value.slice (some ⟨g, 0, none⟩) (xs.length + 8) cap).ownBlock = some k → ¬ Iv w1.heap.size w2'.heap.size k := fun k hk hi => by
    simp only [Value.ownBlock, Option.some.injEq] at hk
    have h1 := hg.2
    have h2 := hi.1
    omega
  -- region 8, 27 operations
  refine rg_begin (Iv w1.heap.size w2'.heap.size) (by kernel_rfl) ?_
  have b5 := (o5.keepN k6).drew
  have b4 := (o4.keepN k6).drew
  have b6 := (o6.keepN k6).drew
  have ba := rall2.keepN (Kp.refl _ w6).drew
  have hz7 : w2'.heap.size ≤ w6.drew.heap.size := Nat.le_trans (Nat.le_trans k24.size hz45) k6.size
  have hn7 : w3.heap.size ≤ w6.drew.heap.size := Nat.le_trans (Nat.le_trans k4.size hz45) k6.size
  have hn2 := k3.size
  replace kw6 := kw6.drew
  generalize w6.drew = w7 at *
  refine rg_take 0 (d := (some 38)) (v := .slice (some ⟨g, 0, none⟩) (xs.length + 8) cap) rfl rfl (by kernel_rfl) (by kernel_rfl) (by kernel_rfl) (fun _ _ _ h => h) rfl (fun W hW => rfl) ?_
  conv => arg 7; simp only [Act.put, List.setIfInBounds_toArray, List.set_cons_zero, List.set_cons_succ]
  refine rg_take 1 (d := (some 39)) (v := .slice A xs.length c) rfl rfl (by kernel_rfl) (by kernel_rfl) (by kernel_rfl) (fun _ _ _ h => h) rfl (fun W hW => rfl) ?_
  conv => arg 7; simp only [Act.put, List.setIfInBounds_toArray, List.set_cons_zero, List.set_cons_succ]
  refine rg_take 2 (d := (some 40)) (v := .int .i64 xs.length) rfl rfl (by kernel_rfl) (by kernel_rfl) (by kernel_rfl) (fun _ _ _ h => h) rfl (fun W hW => by go_simp) ?_
  conv => arg 7; simp only [Act.put, List.setIfInBounds_toArray, List.set_cons_zero, List.set_cons_succ]
  refine rg_take 3 (d := (some 41)) (v := .slice (some ⟨g, 0, none⟩) xs.length cap) rfl rfl (by kernel_rfl) (by kernel_rfl) (by kernel_rfl) (fun _ _ _ h => h) rfl (fun W hW => by go_simp) ?_
  conv => arg 7; simp only [Act.put, List.setIfInBounds_toArray, List.set_cons_zero, List.set_cons_succ]
  refine rg_take 4 (d := (some 42)) (v := .int .u64 n) rfl rfl (by kernel_rfl) (by kernel_rfl) (by kernel_rfl) (fun _ _ _ h => h) rfl (fun W hW => rfl) ?_
  conv => arg 7; simp only [Act.put, List.setIfInBounds_toArray, List.set_cons_zero, List.set_cons_succ]
  refine rg_take 7 (d := (some 45)) (v := now) rfl rfl (by kernel_rfl) (by kernel_rfl) (by kernel_rfl) (fun _ _ _ h => h) rfl (fun W hW => rfl) ?_
  conv => arg 7; simp only [Act.put, List.setIfInBounds_toArray, List.set_cons_zero, List.set_cons_succ]
  refine rg_take 8 (d := (some 46)) (v := .int .u64 n) rfl rfl (by kernel_rfl) (by kernel_rfl) (by kernel_rfl) (fun _ _ _ h => h) rfl (fun W hW => rfl) ?_
  conv => arg 7; simp only [Act.put, List.setIfInBounds_toArray, List.set_cons_zero, List.set_cons_succ]
  refine rg_call 5 (d := (some 43)) (by kernel_rfl) (number_c ba hn (by omega)) rfl rfl (by kernel_rfl) rfl rfl ?_
  rintro e w8 ⟨a8, rfl, o8, k8⟩
  refine ⟨_, rfl, k8.mono (fun _ _ x => x.elim), ?_⟩
  conv => arg 7; simp only [Act.put, List.setIfInBounds_toArray, List.set_cons_zero, List.set_cons_succ]
  refine rg_conv 6 (d := (some 44)) (o8.readsB) (fun k hk hi => by have h1 := (o8.fit k hk).1; have h2 := hi.2; omega) Try.underlying22 Try.underlying5 Try.underlying9 rfl rfl (by kernel_rfl) (by kernel_rfl) (by kernel_rfl) (fun _ _ _ h => h) rfl rfl ?_
  conv => arg 7; simp only [Act.put, List.setIfInBounds_toArray, List.set_cons_zero, List.set_cons_succ]
  refine rg_call 9 (d := (some 47)) (by kernel_rfl) (refNumber_c (b4.readsB.keepN k8) hn (by omega)) rfl rfl (by kernel_rfl) rfl rfl ?_
  rintro e w9 ⟨a9, rfl, o9, k9⟩
  refine ⟨_, rfl, k9.mono (fun _ _ x => x.elim), ?_⟩
  conv => arg 7; simp only [Act.put, List.setIfInBounds_toArray, List.set_cons_zero, List.set_cons_succ]
  have hz8 := k8.size
  refine rg_conv 10 (d := (some 48)) (o9.readsB) (fun k hk hi => by have h1 := (o9.fit k hk).1; have h2 := hi.2; omega) Try.underlying22 Try.underlying5 Try.underlying9 rfl rfl (by kernel_rfl) (by kernel_rfl) (by kernel_rfl) (fun _ _ _ h => h) rfl rfl ?_
  conv => arg 7; simp only [Act.put, List.setIfInBounds_toArray, List.set_cons_zero, List.set_cons_succ]
  refine rg_take 11 (d := (some 49)) (v := .bool true) rfl rfl (by kernel_rfl) (by kernel_rfl) (by kernel_rfl) (fun _ _ _ h => h) rfl (fun W hW => by go_simp) ?_
  conv => arg 7; simp only [Act.put, List.setIfInBounds_toArray, List.set_cons_zero, List.set_cons_succ]
  refine rg_take 12 (d := (some 50)) (v := .bool true) rfl rfl (by kernel_rfl) (by kernel_rfl) (by kernel_rfl) (fun _ _ _ h => h) rfl (fun W hW => rfl) ?_
  conv => arg 7; simp only [Act.put, List.setIfInBounds_toArray, List.set_cons_zero, List.set_cons_succ]
  refine rg_take 13 (d := (some 51)) (v := .slice (some ⟨g, 0, none⟩) (xs.length + 8) cap) rfl rfl (by kernel_rfl) (by kernel_rfl) (by kernel_rfl) (fun _ _ _ h => h) rfl (fun W hW => rfl) ?_
  conv => arg 7; simp only [Act.put, List.setIfInBounds_toArray, List.set_cons_zero, List.set_cons_succ]
  refine rg_take 14 (d := (some 52)) (v := now) rfl rfl (by kernel_rfl) (by kernel_rfl) (by kernel_rfl) (fun _ _ _ h => h) rfl (fun W hW => rfl) ?_
  conv => arg 7; simp only [Act.put, List.setIfInBounds_toArray, List.set_cons_zero, List.set_cons_succ]
  refine rg_call 15 (d := (some 53)) (by kernel_rfl) (stays_c ((b5.readsB.keepN k8).keepN k9) ((b4.readsB.keepN k8).keepN k9) (by omega)) rfl rfl (by kernel_rfl) rfl rfl ?_
  rintro e w10 ⟨rfl, rfl⟩
  refine ⟨_, rfl, Kp.refl _ _, ?_⟩
  conv => arg 7; simp only [Act.put, List.setIfInBounds_toArray, List.set_cons_zero, List.set_cons_succ]
  refine rg_take 16 (d := (some 54)) (v := .bool true) rfl rfl (by kernel_rfl) (by kernel_rfl) (by kernel_rfl) (fun _ _ _ h => h) rfl (fun W hW => rfl) ?_
  conv => arg 7; simp only [Act.put, List.setIfInBounds_toArray, List.set_cons_zero, List.set_cons_succ]
  refine rg_take 17 (d := (some 55)) (v := .bool true) rfl rfl (by kernel_rfl) (by kernel_rfl) (by kernel_rfl) (fun _ _ _ h => h) rfl (fun W hW => rfl) ?_
  conv => arg 7; simp only [Act.put, List.setIfInBounds_toArray, List.set_cons_zero, List.set_cons_succ]
  refine rg_take 18 (d := (some 56)) (v := a) rfl rfl (by kernel_rfl) (by kernel_rfl) (by kernel_rfl) (fun _ _ _ h => h) rfl (fun W hW => rfl) ?_
  conv => arg 7; simp only [Act.put, List.setIfInBounds_toArray, List.set_cons_zero, List.set_cons_succ]
  refine rg_call 19 (d := (some 57)) (by kernel_rfl) (spoils_c ((b6.keepN k8).keepN k9) (by simp; omega)) rfl rfl (by kernel_rfl) rfl rfl ?_
  rintro e w10 ⟨rfl, k10⟩
  refine ⟨_, rfl, k10, ?_⟩
  conv => arg 7; simp only [Act.put, List.setIfInBounds_toArray, List.set_cons_zero, List.set_cons_succ]
  refine rg_take 20 (d := (some 58)) (v := .bool true) rfl rfl (by kernel_rfl) (by kernel_rfl) (by kernel_rfl) (fun _ _ _ h => h) rfl (fun W hW => rfl) ?_
  conv => arg 7; simp only [Act.put, List.setIfInBounds_toArray, List.set_cons_zero, List.set_cons_succ]
  refine rg_take 21 (d := (some 59)) (v := .bool true) rfl rfl (by kernel_rfl) (by kernel_rfl) (by kernel_rfl) (fun _ _ _ h => h) rfl (fun W hW => rfl) ?_
  conv => arg 7; simp only [Act.put, List.setIfInBounds_toArray, List.set_cons_zero, List.set_cons_succ]
  refine rg_take 22 (d := (some 60)) (v := .slice (some ⟨g, 0, none⟩) (xs.length + 8) cap) rfl rfl (by kernel_rfl) (by kernel_rfl) (by kernel_rfl) (fun _ _ _ h => h) rfl (fun W hW => rfl) ?_
  conv => arg 7; simp only [Act.put, List.setIfInBounds_toArray, List.set_cons_zero, List.set_cons_succ]
  refine rg_take 23 (d := (some 61)) (v := now) rfl rfl (by kernel_rfl) (by kernel_rfl) (by kernel_rfl) (fun _ _ _ h => h) rfl (fun W hW => rfl) ?_
  conv => arg 7; simp only [Act.put, List.setIfInBounds_toArray, List.set_cons_zero, List.set_cons_succ]
  refine rg_call 24 (d := (some 62)) (by kernel_rfl) (stays_c (((b5.readsB.keepN k8).keepN k9).keep k10 hF) (((b4.readsB.keepN k8).keepN k9).keep k10 (fun k hk hi => by have h1 := (b4.fit k hk).1; have h2 := hi.2; omega)) (by omega)) rfl rfl (by kernel_rfl) rfl rfl ?_
  rintro e w11 ⟨rfl, rfl⟩
  refine ⟨_, rfl, Kp.refl _ _, ?_⟩
  conv => arg 7; simp only [Act.put, List.setIfInBounds_toArray, List.set_cons_zero, List.set_cons_succ]
  refine rg_take 25 (d := (some 63)) (v := .bool true) rfl rfl (by kernel_rfl) (by kernel_rfl) (by kernel_rfl) (fun _ _ _ h => h) rfl (fun W hW => rfl) ?_
  conv => arg 7; simp only [Act.put, List.setIfInBounds_toArray, List.set_cons_zero, List.set_cons_succ]
  refine rg_take 26 (d := (some 4)) (v := .bool true) rfl rfl (by kernel_rfl) (by kernel_rfl) (by kernel_rfl) (fun _ _ _ h => h) rfl (fun W hW => rfl) ?_
  conv => arg 7; simp only [Act.put, List.setIfInBounds_toArray, List.set_cons_zero, List.set_cons_succ]
  refine rg_done (by kernel_rfl) ?_
  go_wp2
  go_ret
  exact ⟨rfl, ((kw6.thenN k8).thenN k9).fresh k10 (fun i hi => by have := hi.1; omega)⟩
end Go.Proofs.Ytjhndppmpldfbaa
