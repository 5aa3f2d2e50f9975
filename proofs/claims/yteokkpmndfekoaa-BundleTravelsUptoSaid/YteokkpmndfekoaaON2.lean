/- The document's Number. -/
import Derived.Test.YteokkpmndfekoaaON
namespace Go.Proofs.Yteokkpmndfekoaa
open Go Go.RowKit
set_option maxRecDepth 100000
theorem byte_lt (b : UInt8) : b < 128 ↔ ((b.toNat : Int) < 128) := by rw [UInt8.lt_iff_toNat_lt]; simp; omega
set_option maxRecDepth 100000 in
set_option maxHeartbeats 1600000 in
theorem refNum_c {v : Value} {xs : List UInt8} {w : World} (h : RdB w v xs) (hb : xs.length ≤ 1000000000000) :
    Calls Try.prog 80 #[v] w fun e w' => e = .returned (num3 (numS xs)) ∧ w = w' := by
  obtain ⟨A, c, rfl, hc⟩ := h.form
  go_enter Try.func80, Try.ntmps80
  go_wp2_with fail
  go_loop [5] (fun i => ∃ k : Nat, k ≤ xs.length ∧ k ≤ 10 ∧ i = .int .i64 k ∧ ∀ j (_ : j < k) (hl : j < xs.length), ¬ xs[j] < 128) (fun i => 10 - (intOf i).toNat)
  case atStart => exact ⟨0, by omega, by omega, rfl, fun j hj => absurd hj (by omega)⟩
  case round =>
    obtain ⟨k, hk, hk10, rfl, hall⟩ := hrel
    have HA := Lib.hid hall
    clear hall
    by_cases hlt : k < xs.length
    · obtain ⟨ad, rfl, hcell⟩ := h.at_ k hlt
      simp only [bv] at hcell
      by_cases h10 : k < 10
      · have hu := byte_lt xs[k]
        by_cases hx : (xs[k].toNat : Int) < 128
        · have HX := Lib.hid (hu.2 hx)
          obtain ⟨ad0, had, hcell0⟩ := h.at_ 0 (by omega)
          injection had with had
          subst had
          have e0 : ad.add 0 = ad := rfl
          rw [e0] at hcell0
          simp only [bv] at hcell0
          have hhead : xs.headD 0 = xs[0] := by
            rcases xs with _ | ⟨x, r⟩
            · simp at hlt
            · rfl
          have hlen0 : 0 < xs.length := by omega
          clear e0 hu
          by_cases h128 : xs.headD 0 = 128
          · have H1 := Lib.hid (num3_mk 0 0 12 (numS_128 xs k h10 hlt HA.out HX.out h128))
            have t2 : ((xs[0].toNat : Int) == 128) = true := by rw [← hhead, h128]; rfl
            have t3 : ((k : Int) == 10) = false := by simp; omega
            clear h128 hhead HX
            generalize xs[k].toNat = b at *
            generalize xs[0].toNat = b0 at *
            go_wp2
            all_goals go_ret3
            all_goals exact ⟨by rw [H1.out]; rfl, rfl⟩
          · have t2 : ((xs[0].toNat : Int) == 128) = false := by
              rw [← hhead]
              simp only [beq_eq_false_iff_ne]
              intro hh
              exact h128 (UInt8.toNat_inj.1 (by rw [show (128 : UInt8).toNat = 128 from rfl]; omega))
            have t3 : ((k : Int) == 10) = false := by simp; omega
            have H128 := Lib.hid h128
            clear h128 hhead
            generalize xs[k].toNat = b at *
            generalize xs[0].toNat = b0 at *
            go_wp2_with fail
            go_loop [6, 7] (fun n i => ∃ m z : Nat, z ≤ k + 1 ∧ i = .int .i64 z ∧ n = .int .u64 m ∧ m < 18446744073709551616 ∧ (z ≤ k → numS xs = numGo (xs.headD 0) z m (xs.drop z)) ∧ (z = k + 1 → numS xs = (m, k + 1, 0))) (fun _ i => k + 1 - (intOf i).toNat)
            case atStart => exact ⟨0, 0, by omega, rfl, rfl, by omega, fun _ => by rw [List.drop_zero]; rfl, fun hh => absurd hh (by omega)⟩
            case round =>
              obtain ⟨m, z, hz, rfl, rfl, hm, hS1, hS2⟩ := hrel
              by_cases hzk : z ≤ k
              · have HS := Lib.hid (hS1 hzk)
                clear hS1 hS2
                by_cases h57 : m < 144115188075855872
                · obtain ⟨ad2, had, hcz⟩ := h.at_ z (by omega)
                  injection had with had
                  subst had
                  simp only [bv] at hcz
                  have hno : ¬ (z = 10 ∨ 144115188075855872 ≤ m) := by omega
                  have hnx : (z < k → numS xs = numGo (xs.headD 0) (z + 1) (m * 128 + xs[z].toNat % 128) (xs.drop (z + 1))) ∧ (z = k → numS xs = (m * 128 + xs[z].toNat % 128, z + 1, 0)) :=
                    ⟨fun hh => by rw [HS.out]; exact numGo_next _ _ _ _ (by omega) hno (HA.out z hh (by omega)), fun hh => by
                      rw [HS.out]
                      refine numGo_ok _ _ _ _ (by omega) hno ?_ H128.out
                      subst hh
                      exact HX.out⟩
                  have HN := Lib.hid hnx
                  have hz256 := xs[z].toNat_lt
                  clear hnx hno
                  generalize xs[z].toNat = bz at *
                  clear hcell
                  go_wp2
                  all_goals exact ⟨⟨m * 128 + bz % 128, z + 1, by omega, by go_num, by go_num, by omega, fun hh => HN.out.1 (by omega), fun hh => by have h1 := HN.out.2 (by omega); rw [h1]; congr 2⟩, meas_up (n := k + 1) (by omega)⟩
                · have H1 := Lib.hid (num3_mk (r := numS xs) 0 0 12 (by rw [HS.out]; exact numGo_wrong _ _ _ _ (by omega) (.inr (by omega))))
                  clear hcell
                  go_wp2
                  all_goals go_ret3
                  all_goals exact ⟨by rw [H1.out]; rfl, rfl⟩
              · obtain rfl : z = k + 1 := by omega
                have H1 := Lib.hid (num3_mk _ _ _ (hS2 rfl))
                clear hS1 hS2 hcell
                go_wp2
                all_goals go_ret3
                all_goals exact ⟨by rw [H1.out]; simp, rfl⟩
        · have hnx : ¬ xs[k] < 128 := fun hh => hx (hu.1 hh)
          have HX := Lib.hid hnx
          clear hnx hu
          generalize xs[k].toNat = b at *
          go_wp2
          all_goals exact ⟨⟨k + 1, by omega, by omega, by go_num, fun j hj hl => by
            by_cases hjk : j = k
            · subst hjk; exact HX.out
            · exact HA.out j (by omega) hl⟩, meas_up (n := 10) (by omega)⟩
      · obtain rfl : k = 10 := by omega
        have H1 := Lib.hid (num3_mk 0 0 12 (numS_ten xs (by omega) HA.out))
        clear hcell
        go_wp2
        all_goals go_ret3
        all_goals exact ⟨by rw [H1.out]; rfl, rfl⟩
    · obtain rfl : k = xs.length := by omega
      by_cases h10 : xs.length < 10
      · have H1 := Lib.hid (num3_mk 0 0 10 (numS_short xs h10 HA.out))
        go_wp2
        all_goals go_ret3
        all_goals exact ⟨by rw [H1.out]; rfl, rfl⟩
      · have H1 := Lib.hid (num3_mk 0 0 12 (numS_ten xs (by omega) (fun j hj hl => HA.out j hl hl)))
        obtain ⟨ad0, had, hcell0⟩ := h.at_ 0 (by omega)
        subst had
        have t3 : ((xs.length : Int) == 10) = true := by simp; omega
        clear hcell0
        go_wp2
        all_goals go_ret3
        all_goals exact ⟨by rw [H1.out]; rfl, rfl⟩
end Go.Proofs.Yteokkpmndfekoaa
