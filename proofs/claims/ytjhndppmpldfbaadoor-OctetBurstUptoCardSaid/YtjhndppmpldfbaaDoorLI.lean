/- OctetSeal: what the call does. -/
import Derived.Test.YtjhndppmpldfbaaDoorOU
import Derived.Test.YtjhndppmpldfbaaDoorOK
namespace Go.Proofs.YtjhndppmpldfbaaDoor
open Go Go.RowKit

theorem unsealS_seal (xs : List UInt8) : unsealS (xs ++ sl xs) = (xs, 0) := by
  have h4 := sl_length xs
  have hl : (xs ++ sl xs).length = xs.length + 4 := by rw [List.length_append, h4]
  rw [unsealS, if_neg (by omega), show (xs ++ sl xs).length - 4 = xs.length by omega, List.take_left, List.drop_left, if_pos rfl]
theorem unsealS_ok {xs y : List UInt8} (h : unsealS xs = (y, 0)) : y ++ sl y = xs := by
  unfold unsealS at h
  split at h
  · simp at h
  · split at h
    · rename_i hq
      obtain ⟨rfl, -⟩ := Prod.mk.inj h
      rw [hq, List.take_append_drop]
    · simp at h
theorem unsealS_bad {xs y : List UInt8} {e : Nat} (h : unsealS xs = (y, e)) (he : e ≠ 0) : y = [] ∧ (e = 13 ∨ (e = 10 ∧ xs.length < 4)) := by
  unfold unsealS at h
  split at h
  · rename_i hs
    obtain ⟨rfl, rfl⟩ := Prod.mk.inj h
    exact ⟨rfl, .inr ⟨rfl, hs⟩⟩
  · split at h
    · obtain ⟨rfl, rfl⟩ := Prod.mk.inj h
      exact absurd rfl he
    · obtain ⟨rfl, rfl⟩ := Prod.mk.inj h
      exact ⟨rfl, .inl rfl⟩
set_option maxHeartbeats 1600000 in
theorem seal_walk {v : Value} {xs : List UInt8} {w : World} (h : RdB w v xs) (ht : TabOk w) (hb : xs.length ≤ 1000000000) :
    Calls Tryd.prog 10 #[v] w fun e w' => e = .returned (.bool true) ∧ KpN w w' := by
  have HL := Lib.hid (sl_length xs)
  obtain ⟨A, c, rfl, hc⟩ := h.form
  go_enter Tryd.func10, Tryd.ntmps10
  go_wp2_with fail
  refine (sealed_c h ht (by omega)).mono ?_
  rintro e w1 ⟨s, rfl, o1, k1⟩
  go_wp2_with fail
  refine (unseal_c o1.readsB (ht.keepN k1) (by rw [List.length_append, HL.out]; omega)).mono ?_
  rintro e w2 ⟨x, rfl, o2, k2⟩
  rw [unsealS_seal] at o2 ⊢
  have k02 := k1.thenN k2
  have e2 := run_toStr (P := Tryd.prog) _ Tryd.underlying22 Tryd.underlying5 Tryd.underlying9 o2.readsB
  have e3 := run_toStr (P := Tryd.prog) _ Tryd.underlying22 Tryd.underlying5 Tryd.underlying9 (h.keepN k02)
  go_wp2_with (first | (refine conv_opg e2 rfl rfl ?_) | (refine conv_opg e3 rfl rfl ?_) | fail)
  refine (knows_c (ht.keepN k02)).mono ?_
  rintro e w3 ⟨rfl, k3⟩
  have k03 := k02.thenN k3
  clear e2 e3
  go_wp2_with fail
  refine (unseal_c (h.keepN k03) (ht.keepN k03) (by omega)).mono ?_
  rintro e w4 ⟨y, rfl, o4, k4⟩
  have k04 := k03.thenN k4
  obtain ⟨ys, ee, hU⟩ : ∃ ys ee, unsealS xs = (ys, ee) := ⟨_, _, rfl⟩
  rw [hU] at o4 ⊢
  by_cases he : ee = 0
  · subst he
    have hx := unsealS_ok hU
    have hyl : ys.length ≤ xs.length := by rw [← hx]; simp
    have HX := Lib.hid hx
    have HU := Lib.hid hU
    clear hx hU
    go_wp2_with fail
    refine rg_begin 7 (fun _ => False) (by kernel_rfl) (fun w5 d5 => ?_)
    have k05 := k04.thenN d5
    refine rg_take 0 (d := (some 33)) (v := y) (by decide) rfl rfl (by kernel_rfl) (by kernel_rfl) (by kernel_rfl) (fun _ _ _ h => h) rfl (fun W => rfl) ?_
    conv => arg 8; simp only [Act.put, List.setIfInBounds_toArray, List.set_cons_zero, List.set_cons_succ]
    refine rg_take 3 (d := (some 36)) (v := .slice A xs.length c) (by decide) rfl rfl (by kernel_rfl) (by kernel_rfl) (by kernel_rfl) (fun _ _ _ h => h) rfl (fun W => rfl) ?_
    conv => arg 8; simp only [Act.put, List.setIfInBounds_toArray, List.set_cons_zero, List.set_cons_succ]
    refine rg_conv 4 (d := (some 37)) (h.keepN k05) (fun _ _ x => x) Tryd.underlying22 Tryd.underlying5 Tryd.underlying9 (by decide) (by kernel_rfl) (by kernel_rfl) rfl rfl (by kernel_rfl) (by kernel_rfl) (by kernel_rfl) (fun _ _ _ h => h) rfl rfl ?_
    conv => arg 8; simp only [Act.put, List.setIfInBounds_toArray, List.set_cons_zero, List.set_cons_succ]
    refine rg_call 1 (d := (some 34)) (by kernel_rfl) (sealed_c (o4.keepN d5).readsB (ht.keepN k05) (by omega)) rfl rfl (by kernel_rfl) rfl rfl ?_
    rintro e w6 ⟨a6, rfl, o6, k6⟩
    refine ⟨_, rfl, k6, ?_⟩
    conv => arg 8; simp only [Act.put, List.setIfInBounds_toArray, List.set_cons_zero, List.set_cons_succ]
    rw [HX.out] at o6
    refine rg_conv1 2 (d := (some 35)) (o6.readsB) Tryd.underlying22 Tryd.underlying5 Tryd.underlying9 rfl rfl (by kernel_rfl) rfl rfl ?_
    conv => arg 8; simp only [Act.put, List.setIfInBounds_toArray, List.set_cons_zero, List.set_cons_succ]
    refine rg_take 5 (d := (some 38)) (v := .bool true) (by decide) rfl rfl (by kernel_rfl) (by kernel_rfl) (by kernel_rfl) (fun _ _ _ h => h) rfl (fun W => by go_simp) ?_
    conv => arg 8; simp only [Act.put, List.setIfInBounds_toArray, List.set_cons_zero, List.set_cons_succ]
    refine rg_take 6 (d := (some 2)) (v := .bool true) (by decide) rfl rfl (by kernel_rfl) (by kernel_rfl) (by kernel_rfl) (fun _ _ _ h => h) rfl (fun W => rfl) ?_
    conv => arg 8; simp only [Act.put, List.setIfInBounds_toArray, List.set_cons_zero, List.set_cons_succ]
    refine rg_done (by kernel_rfl) ?_
    go_wp2
    go_ret
    exact ⟨rfl, k05.thenN k6⟩
  · obtain ⟨rfl, hbad⟩ := unsealS_bad hU he
    obtain ⟨B, d, rfl, hd⟩ := o4.readsB.form
    clear hU
    rcases hbad with rfl | ⟨rfl, hs⟩
    · go_wp2
      go_ret
      exact ⟨rfl, k04⟩
    · have hsi : (xs.length : Int) < 4 := by omega
      go_wp2
      go_ret
      exact ⟨rfl, k04⟩
end Go.Proofs.YtjhndppmpldfbaaDoor
