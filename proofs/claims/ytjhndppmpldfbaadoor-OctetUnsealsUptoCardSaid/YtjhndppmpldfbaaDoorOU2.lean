/- The document's Unseal. -/
import Derived.Test.YtjhndppmpldfbaaDoorOU
namespace Go.Proofs.YtjhndppmpldfbaaDoor
open Go Go.RowKit

set_option maxHeartbeats 1600000 in
theorem refUnseal_c {v : Value} {xs : List UInt8} {w : World} (h : RdB w v xs) (hb : xs.length ≤ 10000000000) :
    Calls Tryd.prog 52 #[v] w (GotU 5 w (unsealS xs)) := by
  obtain ⟨A, c, rfl, hc⟩ := h.form
  go_enter Tryd.func52, Tryd.ntmps52
  by_cases hs : xs.length < 4
  · have hi : (xs.length : Int) - 4 < 0 := by omega
    go_wp2_with fail
    go_ret2
    exact ⟨.slice none 0 0, by rw [unsealS, if_pos hs]; rfl, by rw [unsealS, if_pos hs]; exact OwB.nil _ _ _, Kp.refl _ _⟩
  · obtain ⟨n, hn⟩ : ∃ n, xs.length = n + 4 := ⟨xs.length - 4, by omega⟩
    have hU : unsealS xs = if sl (xs.take n) = xs.drop n then (xs.take n, 0) else ([], 13) := by
      rw [unsealS, if_neg hs, show xs.length - 4 = n by omega]
    have hi : (xs.length : Int) - 4 = (n : Int) := by omega
    have hnc : n ≤ c := by omega
    have hnl : n ≤ xs.length := by omega
    obtain ⟨ad, rfl, _⟩ := h.at_ 0 (by omega)
    have hle : (n : Int) ≤ n + 4 := by omega
    have hcn : ¬ c = n := by omega
    have HU := Lib.hid hU
    clear hU
    go_wp2_with fail
    by_cases hq : sl (xs.take n) = xs.drop n
    · have k0 := trivial
      refine rg_begin 10 (fun _ => False) (by kernel_rfl) (fun w1 d1 => ?_)
      have r1 := h.keepN d1
      have r0 := r1.take n (by omega)
      have rd := r1.drop n (by omega)
      refine rg_take 0 (d := (some 10)) (v := .slice (some ad) xs.length c) (by decide) rfl rfl (by kernel_rfl) (by kernel_rfl) (by kernel_rfl) (fun _ _ _ h => h) rfl (fun W => rfl) ?_
      conv => arg 8; simp only [Act.put, List.setIfInBounds_toArray, List.set_cons_zero, List.set_cons_succ]
      refine rg_take 1 (d := (some 11)) (v := .int .i64 n) (by decide) rfl rfl (by kernel_rfl) (by kernel_rfl) (by kernel_rfl) (fun _ _ _ h => h) rfl (fun W => rfl) ?_
      conv => arg 8; simp only [Act.put, List.setIfInBounds_toArray, List.set_cons_zero, List.set_cons_succ]
      refine rg_take 2 (d := (some 12)) (v := .slice (some ad) n c) (by decide) rfl rfl (by kernel_rfl) (by kernel_rfl) (by kernel_rfl) (fun _ _ _ h => h) rfl (fun W => by go_simp) ?_
      conv => arg 8; simp only [Act.put, List.setIfInBounds_toArray, List.set_cons_zero, List.set_cons_succ]
      refine rg_take 5 (d := (some 15)) (v := .slice (some ad) xs.length c) (by decide) rfl rfl (by kernel_rfl) (by kernel_rfl) (by kernel_rfl) (fun _ _ _ h => h) rfl (fun W => rfl) ?_
      conv => arg 8; simp only [Act.put, List.setIfInBounds_toArray, List.set_cons_zero, List.set_cons_succ]
      refine rg_take 6 (d := (some 16)) (v := .int .i64 n) (by decide) rfl rfl (by kernel_rfl) (by kernel_rfl) (by kernel_rfl) (fun _ _ _ h => h) rfl (fun W => rfl) ?_
      conv => arg 8; simp only [Act.put, List.setIfInBounds_toArray, List.set_cons_zero, List.set_cons_succ]
      refine rg_take 7 (d := (some 17)) (v := .slice (some (ad.add n)) (xs.length - n) (c - n)) (by decide) rfl rfl (by kernel_rfl) (by kernel_rfl) (by kernel_rfl) (fun _ _ _ h => h) rfl (fun W => by go_simp) ?_
      conv => arg 8; simp only [Act.put, List.setIfInBounds_toArray, List.set_cons_zero, List.set_cons_succ]
      refine rg_conv 8 (d := (some 18)) (rd) (fun _ _ x => x) Tryd.underlying22 Tryd.underlying5 Tryd.underlying9 (by decide) (by kernel_rfl) (by kernel_rfl) rfl rfl (by kernel_rfl) (by kernel_rfl) (by kernel_rfl) (fun _ _ _ h => h) rfl rfl ?_
      conv => arg 8; simp only [Act.put, List.setIfInBounds_toArray, List.set_cons_zero, List.set_cons_succ]
      refine rg_call 3 (d := (some 13)) (by kernel_rfl) (refSl_c r0 (by simp; omega)) rfl rfl (by kernel_rfl) rfl rfl ?_
      rintro e w2 ⟨a2, rfl, o2, k2⟩
      refine ⟨_, rfl, k2, ?_⟩
      conv => arg 8; simp only [Act.put, List.setIfInBounds_toArray, List.set_cons_zero, List.set_cons_succ]
      refine rg_conv1 4 (d := (some 14)) (o2.readsB) Tryd.underlying22 Tryd.underlying5 Tryd.underlying9 rfl rfl (by kernel_rfl) rfl rfl ?_
      conv => arg 8; simp only [Act.put, List.setIfInBounds_toArray, List.set_cons_zero, List.set_cons_succ]
      refine rg_take 9 (d := (some 19)) (v := .bool false) (by decide) rfl rfl (by kernel_rfl) (by kernel_rfl) (by kernel_rfl) (fun _ _ _ h => h) rfl (fun W => by go_simp) ?_
      conv => arg 8; simp only [Act.put, List.setIfInBounds_toArray, List.set_cons_zero, List.set_cons_succ]
      refine rg_done (by kernel_rfl) ?_
      have k12 := d1.thenN k2
      have hl4 : (xs.take n).length ≤ 10000000000 := by simp; omega
      obtain ⟨v3, w3, r3, o3, k3⟩ := run_appB_nil (P := Tryd.prog) (ty := 22) w2 Tryd.underlying22 u8info ((h.keepN k12).take n (by omega)) (by omega)
      go_wp2_with (first | (refine app_op r3 rfl rfl ?_) | fail)
      go_ret2
      have hu := HU.out
      rw [if_pos hq] at hu
      exact ⟨v3, by rw [hu]; rfl, by rw [hu]; exact o3.wide (fun k _ hk => ⟨by have := k12.size; have := hk.1; omega, hk.2⟩), k12.thenN k3⟩
    · have hx : ((bs (sl (xs.take n))).toList == (bs (xs.drop n)).toList) = false := by simp only [bs_toList, beq_eq_false_iff_ne]; exact hq
      refine rg_begin 10 (fun _ => False) (by kernel_rfl) (fun w1 d1 => ?_)
      have r1 := h.keepN d1
      have r0 := r1.take n (by omega)
      have rd := r1.drop n (by omega)
      refine rg_take 0 (d := (some 10)) (v := .slice (some ad) xs.length c) (by decide) rfl rfl (by kernel_rfl) (by kernel_rfl) (by kernel_rfl) (fun _ _ _ h => h) rfl (fun W => rfl) ?_
      conv => arg 8; simp only [Act.put, List.setIfInBounds_toArray, List.set_cons_zero, List.set_cons_succ]
      refine rg_take 1 (d := (some 11)) (v := .int .i64 n) (by decide) rfl rfl (by kernel_rfl) (by kernel_rfl) (by kernel_rfl) (fun _ _ _ h => h) rfl (fun W => rfl) ?_
      conv => arg 8; simp only [Act.put, List.setIfInBounds_toArray, List.set_cons_zero, List.set_cons_succ]
      refine rg_take 2 (d := (some 12)) (v := .slice (some ad) n c) (by decide) rfl rfl (by kernel_rfl) (by kernel_rfl) (by kernel_rfl) (fun _ _ _ h => h) rfl (fun W => by go_simp) ?_
      conv => arg 8; simp only [Act.put, List.setIfInBounds_toArray, List.set_cons_zero, List.set_cons_succ]
      refine rg_take 5 (d := (some 15)) (v := .slice (some ad) xs.length c) (by decide) rfl rfl (by kernel_rfl) (by kernel_rfl) (by kernel_rfl) (fun _ _ _ h => h) rfl (fun W => rfl) ?_
      conv => arg 8; simp only [Act.put, List.setIfInBounds_toArray, List.set_cons_zero, List.set_cons_succ]
      refine rg_take 6 (d := (some 16)) (v := .int .i64 n) (by decide) rfl rfl (by kernel_rfl) (by kernel_rfl) (by kernel_rfl) (fun _ _ _ h => h) rfl (fun W => rfl) ?_
      conv => arg 8; simp only [Act.put, List.setIfInBounds_toArray, List.set_cons_zero, List.set_cons_succ]
      refine rg_take 7 (d := (some 17)) (v := .slice (some (ad.add n)) (xs.length - n) (c - n)) (by decide) rfl rfl (by kernel_rfl) (by kernel_rfl) (by kernel_rfl) (fun _ _ _ h => h) rfl (fun W => by go_simp) ?_
      conv => arg 8; simp only [Act.put, List.setIfInBounds_toArray, List.set_cons_zero, List.set_cons_succ]
      refine rg_conv 8 (d := (some 18)) (rd) (fun _ _ x => x) Tryd.underlying22 Tryd.underlying5 Tryd.underlying9 (by decide) (by kernel_rfl) (by kernel_rfl) rfl rfl (by kernel_rfl) (by kernel_rfl) (by kernel_rfl) (fun _ _ _ h => h) rfl rfl ?_
      conv => arg 8; simp only [Act.put, List.setIfInBounds_toArray, List.set_cons_zero, List.set_cons_succ]
      refine rg_call 3 (d := (some 13)) (by kernel_rfl) (refSl_c r0 (by simp; omega)) rfl rfl (by kernel_rfl) rfl rfl ?_
      rintro e w2 ⟨a2, rfl, o2, k2⟩
      refine ⟨_, rfl, k2, ?_⟩
      conv => arg 8; simp only [Act.put, List.setIfInBounds_toArray, List.set_cons_zero, List.set_cons_succ]
      refine rg_conv1 4 (d := (some 14)) (o2.readsB) Tryd.underlying22 Tryd.underlying5 Tryd.underlying9 rfl rfl (by kernel_rfl) rfl rfl ?_
      conv => arg 8; simp only [Act.put, List.setIfInBounds_toArray, List.set_cons_zero, List.set_cons_succ]
      refine rg_take 9 (d := (some 19)) (v := .bool true) (by decide) rfl rfl (by kernel_rfl) (by kernel_rfl) (by kernel_rfl) (fun _ _ _ h => h) rfl (fun W => by go_simp) ?_
      conv => arg 8; simp only [Act.put, List.setIfInBounds_toArray, List.set_cons_zero, List.set_cons_succ]
      refine rg_done (by kernel_rfl) ?_
      have k12 := d1.thenN k2
      go_wp2_with fail
      go_ret2
      have hu := HU.out
      rw [if_neg hq] at hu
      exact ⟨.slice none 0 0, by rw [hu]; rfl, by rw [hu]; exact OwB.nil _ _ _, k12⟩
theorem unsealS_length (xs : List UInt8) : (unsealS xs).1.length ≤ xs.length := by
  unfold unsealS
  split
  · simp
  · split <;> simp
end Go.Proofs.YtjhndppmpldfbaaDoor
