/- slices.Equal, Unseal. -/
import Derived.Test.YteokkpmndfekoaaDoorOC
import Derived.Test.YteokkpmndfekoaaDoorO2
import Derived.Test.YteokkpmndfekoaaDoorR
namespace Go.Proofs.YteokkpmndfekoaaDoor
open Go Go.RowKit
set_option maxRecDepth 100000

def EqRel (xs ys : List UInt8) (w : World) (i : Value) (wr : World) : Prop :=
  ∃ k : Nat, k ≤ xs.length ∧ i = .int .i64 k ∧ (∀ j (_ : j < k) (h1 : j < xs.length) (h2 : j < ys.length), xs[j] = ys[j]) ∧ KpN w wr
set_option maxHeartbeats 1600000 in
theorem equal_c {u v : Value} {xs ys : List UInt8} {w : World} (hu : RdB w u xs) (hv : RdB w v ys) (hb : xs.length ≤ 1000000000000) :
    Calls Tryd.prog 39 #[u, v] w fun e w' => e = .returned (.bool (decide (xs = ys))) ∧ KpN w w' := by
  obtain ⟨A, c, rfl, hc⟩ := hu.form
  obtain ⟨B, d, rfl, hd⟩ := hv.form
  go_enter Tryd.func39, Tryd.ntmps39
  by_cases hlen : xs.length = ys.length
  · have hlen' : ¬ ((xs.length : Int) ≠ (ys.length : Int)) := by omega
    have hli : (xs.length : Int) = (ys.length : Int) := by omega
    go_wp2_with fail
    go_loopw [13] (fun i wr => EqRel xs ys w i wr) (fun i _ => xs.length - (intOf i).toNat)
    case atStart => exact ⟨0, by omega, rfl, fun j hj => absurd hj (by omega), Kp.refl _ _⟩
    case round =>
      obtain ⟨k, hk, rfl, hall, hkp⟩ := hrel
      by_cases hlt : k < xs.length
      · obtain ⟨a1, rfl, c1⟩ := (hu.keepN hkp).at_ k hlt
        obtain ⟨a2, rfl, c2⟩ := (hv.keepN hkp).at_ k (by omega)
        simp only [bv] at c1 c2
        have HA := Lib.hid hall
        have hkd := hkp.drew
        clear hall
        have hky : k < ys.length := by omega
        by_cases he : xs[k] = ys[k]
        · have HE := Lib.hid he
          have hei : (xs[k].toNat : Int) = (ys[k].toNat : Int) := by rw [he]
          have hnx : ∀ j (_ : j < k + 1) (h1 : j < xs.length) (h2 : j < ys.length), xs[j] = ys[j] := fun j hj h1 h2 => by
            by_cases hjk : j = k
            · subst hjk; exact he
            · exact HA.out j (by omega) h1 h2
          have HX := Lib.hid hnx
          rw [← hei] at c2
          clear he hei hnx
          generalize xs[k].toNat = b1 at *
          go_wp2
          go_region
          go_wp2
          go_roundw
          case rel => exact ⟨k + 1, by omega, by go_num, HX.out, hkd⟩
          case measure => exact meas_up hlt
        · have hei : ¬ ((xs[k].toNat : Int) = (ys[k].toNat : Int)) := fun h => he (UInt8.toNat_inj.1 (by omega))
          have hne : ¬ xs = ys := fun h => by subst h; exact he rfl
          have HN := Lib.hid hne
          clear he hne
          generalize xs[k].toNat = b1 at *
          generalize ys[k].toNat = b2 at *
          go_wp2
          go_region
          go_wp2
          go_ret
          exact ⟨by simp [HN.out], hkd⟩
      · obtain rfl : k = xs.length := by omega
        have hxy : xs = ys := List.ext_getElem hlen fun i h1 h2 => hall i h1 h1 h2
        subst hxy
        go_wp2
        go_ret
        simp
        exact hkp
  · have hlen' : ¬ ((xs.length : Int) = (ys.length : Int)) := by omega
    have hne : ¬ xs = ys := fun h => hlen (by rw [h])
    have HN := Lib.hid hne
    clear hne
    go_wp2_with fail
    go_ret
    exact ⟨by simp [HN.out], Kp.refl _ _⟩
theorem equal_t {u v : Value} {xs ys : List UInt8} {w : World} (hu : RdB w u xs) (hv : RdB w v ys) (hb : xs.length ≤ 1000000000000) (h : xs = ys) :
    Calls Tryd.prog 39 #[u, v] w fun e w' => e = .returned (.bool true) ∧ KpN w w' := by
  have := equal_c hu hv hb
  rwa [show decide (xs = ys) = true by simp [h]] at this
theorem equal_f {u v : Value} {xs ys : List UInt8} {w : World} (hu : RdB w u xs) (hv : RdB w v ys) (hb : xs.length ≤ 1000000000000) (h : ¬ xs = ys) :
    Calls Tryd.prog 39 #[u, v] w fun e w' => e = .returned (.bool false) ∧ KpN w w' := by
  have := equal_c hu hv hb
  rwa [show decide (xs = ys) = false by simp [h]] at this
/-- what Unseal tells: what was sealed, the error -/
def unsealS (xs : List UInt8) : List UInt8 × Nat := if xs.length < 4 then ([], 10) else if sl (xs.take (xs.length - 4)) = xs.drop (xs.length - 4) then (xs.take (xs.length - 4), 0) else ([], 13)
def GotU (e2 : TypeId) (w : World) (r : List UInt8 × Nat) : Ending → World → Prop := fun e w' => ∃ u, e = .returned (.tuple #[u, .int .i64 (r.2 : Int)]) ∧ OwB w' e2 (Iv w.heap.size w'.heap.size) u r.1 ∧ KpN w w'
set_option maxHeartbeats 1600000 in
theorem unseal_c {v : Value} {xs : List UInt8} {w : World} (h : RdB w v xs) (ht : TabOk w) (hb : xs.length ≤ 10000000000) :
    Calls Tryd.prog 22 #[v] w (GotU 5 w (unsealS xs)) := by
  obtain ⟨A, c, rfl, hc⟩ := h.form
  go_enter Tryd.func22, Tryd.ntmps22
  by_cases hs : xs.length < 4
  · have hi : (xs.length : Int) - 4 < 0 := by omega
    go_wp2_with fail
    go_ret2
    exact ⟨.slice none 0 0, by rw [unsealS, if_pos hs]; rfl, by rw [unsealS, if_pos hs]; exact OwB.nil _ _ _, Kp.refl _ _⟩
  · obtain ⟨n, hn⟩ : ∃ n, xs.length = n + 4 := ⟨xs.length - 4, by omega⟩
    have hU : unsealS xs = if sl (xs.take n) = xs.drop n then (xs.take n, 0) else ([], 13) := by
      rw [unsealS, if_neg hs, show xs.length - 4 = n by omega]
    have hi : (xs.length : Int) - 4 = (n : Int) := by omega
    have hnc : n ≤ c := by omega
    have hnl : n ≤ xs.length := by omega
    obtain ⟨ad, rfl, _⟩ := h.at_ 0 (by omega)
    have hle : (n : Int) ≤ n + 4 := by omega
    have hcn : ¬ c = n := by omega
    have HU := Lib.hid hU
    clear hU
    go_wp2_with fail
    by_cases hq : sl (xs.take n) = xs.drop n
    · have k0 := trivial
      refine rg_begin 11 (fun _ => False) (by kernel_rfl) (fun w1 d1 => ?_)
      have r1 := h.keepN d1
      have r0 := r1.take n (by omega)
      refine rg_take 0 (d := (some 10)) (v := .slice (some ad) xs.length c) (by decide) rfl rfl (by kernel_rfl) (by kernel_rfl) (by kernel_rfl) (fun _ _ _ h => h) rfl (fun W => rfl) ?_
      conv => arg 8; simp only [Act.put, List.setIfInBounds_toArray, List.set_cons_zero, List.set_cons_succ]
      refine rg_take 1 (d := (some 11)) (v := .int .i64 n) (by decide) rfl rfl (by kernel_rfl) (by kernel_rfl) (by kernel_rfl) (fun _ _ _ h => h) rfl (fun W => rfl) ?_
      conv => arg 8; simp only [Act.put, List.setIfInBounds_toArray, List.set_cons_zero, List.set_cons_succ]
      refine rg_take 2 (d := (some 12)) (v := .slice (some ad) n c) (by decide) rfl rfl (by kernel_rfl) (by kernel_rfl) (by kernel_rfl) (fun _ _ _ h => h) rfl (fun W => by go_simp) ?_
      conv => arg 8; simp only [Act.put, List.setIfInBounds_toArray, List.set_cons_zero, List.set_cons_succ]
      refine rg_take 4 (d := (some 14)) (v := .int .i64 n) (by decide) rfl rfl (by kernel_rfl) (by kernel_rfl) (by kernel_rfl) (fun _ _ _ h => h) rfl (fun W => rfl) ?_
      conv => arg 8; simp only [Act.put, List.setIfInBounds_toArray, List.set_cons_zero, List.set_cons_succ]
      refine rg_take 6 (d := (some 16)) (v := .slice (some ad) xs.length c) (by decide) rfl rfl (by kernel_rfl) (by kernel_rfl) (by kernel_rfl) (fun _ _ _ h => h) rfl (fun W => rfl) ?_
      conv => arg 8; simp only [Act.put, List.setIfInBounds_toArray, List.set_cons_zero, List.set_cons_succ]
      refine rg_take 7 (d := (some 17)) (v := .int .i64 n) (by decide) rfl rfl (by kernel_rfl) (by kernel_rfl) (by kernel_rfl) (fun _ _ _ h => h) rfl (fun W => rfl) ?_
      conv => arg 8; simp only [Act.put, List.setIfInBounds_toArray, List.set_cons_zero, List.set_cons_succ]
      refine rg_take 8 (d := (some 18)) (v := .slice (some (ad.add n)) (xs.length - n) (c - n)) (by decide) rfl rfl (by kernel_rfl) (by kernel_rfl) (by kernel_rfl) (fun _ _ _ h => h) rfl (fun W => by go_simp) ?_
      conv => arg 8; simp only [Act.put, List.setIfInBounds_toArray, List.set_cons_zero, List.set_cons_succ]
      refine rg_call 3 (d := (some 13)) (by kernel_rfl) (sealed_c r0 (ht.keepN d1) (by simp; omega)) rfl rfl (by kernel_rfl) rfl rfl ?_
      rintro e w2 ⟨a2, rfl, o2, k2⟩
      refine ⟨_, rfl, k2, ?_⟩
      conv => arg 8; simp only [Act.put, List.setIfInBounds_toArray, List.set_cons_zero, List.set_cons_succ]
      have hl2 : (xs.take n ++ sl (xs.take n)).length = n + 4 := by rw [List.length_append, sl_length]; simp; omega
      obtain ⟨g, cap, he, hg, hcap⟩ := o2.form (by omega)
      rw [hl2] at he hcap
      subst he
      have hncap : n ≤ cap := by omega
      have hcn2 : ¬ cap = n := by omega
      have q1 := o2.readsB.drop n (by omega)
      rw [List.drop_append_of_le_length (by simp; omega), List.drop_eq_nil_of_le (by simp; omega), List.nil_append] at q1
      refine rg_take 5 (d := (some 15)) (v := .slice (some ((⟨g, 0, none⟩ : Addr).add n)) (n + 4 - n) (cap - n)) (by decide) rfl rfl (by kernel_rfl) (by kernel_rfl) (by kernel_rfl) (fun _ _ _ h => h) rfl (fun W => by go_simp) ?_
      conv => arg 8; simp only [Act.put, List.setIfInBounds_toArray, List.set_cons_zero, List.set_cons_succ]
      refine rg_call 9 (d := (some 19)) (by kernel_rfl) (equal_t q1 ((r1.keepN k2).drop n (by omega)) (by rw [sl_length]; omega) hq) rfl rfl (by kernel_rfl) rfl rfl ?_
      rintro e w3 ⟨rfl, k3⟩
      refine ⟨_, rfl, k3, ?_⟩
      conv => arg 8; simp only [Act.put, List.setIfInBounds_toArray, List.set_cons_zero, List.set_cons_succ]
      refine rg_take 10 (d := (some 20)) (v := .bool false) (by decide) rfl rfl (by kernel_rfl) (by kernel_rfl) (by kernel_rfl) (fun _ _ _ h => h) rfl (fun W => rfl) ?_
      conv => arg 8; simp only [Act.put, List.setIfInBounds_toArray, List.set_cons_zero, List.set_cons_succ]
      refine rg_done (by kernel_rfl) ?_
      have k13 := (d1.thenN k2).thenN k3
      go_wp2_with fail
      refine (clone_c ((h.keepN k13).take n (by omega)) (by simp; omega)).mono ?_
      rintro e w4 ⟨a4, rfl, o4, k4⟩
      go_wp2_with fail
      go_ret2
      have hu := HU.out
      rw [if_pos hq] at hu
      exact ⟨a4, by rw [hu]; rfl, by rw [hu]; exact o4.wide (fun k _ hk => ⟨by have := k13.size; have := hk.1; omega, hk.2⟩), k13.thenN k4⟩
    · have k0 := trivial
      refine rg_begin 11 (fun _ => False) (by kernel_rfl) (fun w1 d1 => ?_)
      have r1 := h.keepN d1
      have r0 := r1.take n (by omega)
      refine rg_take 0 (d := (some 10)) (v := .slice (some ad) xs.length c) (by decide) rfl rfl (by kernel_rfl) (by kernel_rfl) (by kernel_rfl) (fun _ _ _ h => h) rfl (fun W => rfl) ?_
      conv => arg 8; simp only [Act.put, List.setIfInBounds_toArray, List.set_cons_zero, List.set_cons_succ]
      refine rg_take 1 (d := (some 11)) (v := .int .i64 n) (by decide) rfl rfl (by kernel_rfl) (by kernel_rfl) (by kernel_rfl) (fun _ _ _ h => h) rfl (fun W => rfl) ?_
      conv => arg 8; simp only [Act.put, List.setIfInBounds_toArray, List.set_cons_zero, List.set_cons_succ]
      refine rg_take 2 (d := (some 12)) (v := .slice (some ad) n c) (by decide) rfl rfl (by kernel_rfl) (by kernel_rfl) (by kernel_rfl) (fun _ _ _ h => h) rfl (fun W => by go_simp) ?_
      conv => arg 8; simp only [Act.put, List.setIfInBounds_toArray, List.set_cons_zero, List.set_cons_succ]
      refine rg_take 4 (d := (some 14)) (v := .int .i64 n) (by decide) rfl rfl (by kernel_rfl) (by kernel_rfl) (by kernel_rfl) (fun _ _ _ h => h) rfl (fun W => rfl) ?_
      conv => arg 8; simp only [Act.put, List.setIfInBounds_toArray, List.set_cons_zero, List.set_cons_succ]
      refine rg_take 6 (d := (some 16)) (v := .slice (some ad) xs.length c) (by decide) rfl rfl (by kernel_rfl) (by kernel_rfl) (by kernel_rfl) (fun _ _ _ h => h) rfl (fun W => rfl) ?_
      conv => arg 8; simp only [Act.put, List.setIfInBounds_toArray, List.set_cons_zero, List.set_cons_succ]
      refine rg_take 7 (d := (some 17)) (v := .int .i64 n) (by decide) rfl rfl (by kernel_rfl) (by kernel_rfl) (by kernel_rfl) (fun _ _ _ h => h) rfl (fun W => rfl) ?_
      conv => arg 8; simp only [Act.put, List.setIfInBounds_toArray, List.set_cons_zero, List.set_cons_succ]
      refine rg_take 8 (d := (some 18)) (v := .slice (some (ad.add n)) (xs.length - n) (c - n)) (by decide) rfl rfl (by kernel_rfl) (by kernel_rfl) (by kernel_rfl) (fun _ _ _ h => h) rfl (fun W => by go_simp) ?_
      conv => arg 8; simp only [Act.put, List.setIfInBounds_toArray, List.set_cons_zero, List.set_cons_succ]
      refine rg_call 3 (d := (some 13)) (by kernel_rfl) (sealed_c r0 (ht.keepN d1) (by simp; omega)) rfl rfl (by kernel_rfl) rfl rfl ?_
      rintro e w2 ⟨a2, rfl, o2, k2⟩
      refine ⟨_, rfl, k2, ?_⟩
      conv => arg 8; simp only [Act.put, List.setIfInBounds_toArray, List.set_cons_zero, List.set_cons_succ]
      have hl2 : (xs.take n ++ sl (xs.take n)).length = n + 4 := by rw [List.length_append, sl_length]; simp; omega
      obtain ⟨g, cap, he, hg, hcap⟩ := o2.form (by omega)
      rw [hl2] at he hcap
      subst he
      have hncap : n ≤ cap := by omega
      have hcn2 : ¬ cap = n := by omega
      have q1 := o2.readsB.drop n (by omega)
      rw [List.drop_append_of_le_length (by simp; omega), List.drop_eq_nil_of_le (by simp; omega), List.nil_append] at q1
      refine rg_take 5 (d := (some 15)) (v := .slice (some ((⟨g, 0, none⟩ : Addr).add n)) (n + 4 - n) (cap - n)) (by decide) rfl rfl (by kernel_rfl) (by kernel_rfl) (by kernel_rfl) (fun _ _ _ h => h) rfl (fun W => by go_simp) ?_
      conv => arg 8; simp only [Act.put, List.setIfInBounds_toArray, List.set_cons_zero, List.set_cons_succ]
      refine rg_call 9 (d := (some 19)) (by kernel_rfl) (equal_f q1 ((r1.keepN k2).drop n (by omega)) (by rw [sl_length]; omega) hq) rfl rfl (by kernel_rfl) rfl rfl ?_
      rintro e w3 ⟨rfl, k3⟩
      refine ⟨_, rfl, k3, ?_⟩
      conv => arg 8; simp only [Act.put, List.setIfInBounds_toArray, List.set_cons_zero, List.set_cons_succ]
      refine rg_take 10 (d := (some 20)) (v := .bool true) (by decide) rfl rfl (by kernel_rfl) (by kernel_rfl) (by kernel_rfl) (fun _ _ _ h => h) rfl (fun W => rfl) ?_
      conv => arg 8; simp only [Act.put, List.setIfInBounds_toArray, List.set_cons_zero, List.set_cons_succ]
      refine rg_done (by kernel_rfl) ?_
      have k13 := (d1.thenN k2).thenN k3
      go_wp2_with fail
      go_ret2
      have hu := HU.out
      rw [if_neg hq] at hu
      exact ⟨.slice none 0 0, by rw [hu]; rfl, by rw [hu]; exact OwB.nil _ _ _, k13⟩
end Go.Proofs.YteokkpmndfekoaaDoor
