/- octet.Number and the document's. -/
import Derived.Test.YteokkpmndfekoaaO3
import Derived.Test.YteokkpmndfekoaaP3
import Derived.ScopeJumps
namespace Go.Proofs.Yteokkpmndfekoaa
open Go Go.RowKit
set_option maxRecDepth 100000

/-- the three results -/
def num3 (r : Nat × Nat × Nat) : Value := .tuple #[.int .u64 (r.1 : Int), .int .i64 (r.2.1 : Int), .int .i64 (r.2.2 : Int)]
theorem num3_mk (n k e : Nat) {r : Nat × Nat × Nat} (h : r = (n, k, e)) : num3 r = .tuple #[.int .u64 (n : Int), .int .i64 (k : Int), .int .i64 (e : Int)] := by subst h; rfl
theorem small_c (b : Int) (w : World) : Calls Try.prog 91 #[.int .u8 b] w fun e w' => e = .returned (.bool (decide (b < 128))) ∧ w = w' := by
  go_enter Try.func91, Try.ntmps91
  go_wp2
  go_ret
  exact ⟨rfl, rfl⟩
/-- an index, not below 0 just if a byte below 128 is there -/
def IdxP (xs : List UInt8) (w : World) (e : Ending) (w' : World) : Prop := ∃ r : Int, e = .returned (.int .i64 r) ∧ (0 ≤ r ↔ ∃ x ∈ xs, x < 128) ∧ w = w'
theorem index_c {v : Value} {xs : List UInt8} {w : World} (h : RdB w v xs) (hb : xs.length ≤ 1000000000000) :
    Calls Try.prog 98 #[v, .func (.func 91) #[] #[]] w (IdxP xs w) := by
  obtain ⟨A, c, rfl, hc⟩ := h.form
  go_enter Try.func98, Try.ntmps98
  go_wp2_with fail
  go_loop [8] (fun i => ∃ k : Nat, k ≤ xs.length ∧ i = .int .i64 k ∧ ∀ j (hj : j < k) (hl : j < xs.length), ¬ xs[j] < 128) (fun i => xs.length - (intOf i).toNat)
  case atStart => exact ⟨0, Nat.zero_le _, rfl, fun j hj => absurd hj (by omega)⟩
  case round =>
    obtain ⟨k, hk, rfl, hall⟩ := hrel
    have HA := Lib.hid hall
    clear hall
    by_cases hlt : k < xs.length
    · obtain ⟨ad, rfl, hcell⟩ := h.at_ k hlt
      simp only [bv] at hcell
      go_wp2_with fail
      refine (small_c _ _).mono ?_
      rintro e w' ⟨rfl, rfl⟩
      have hu : xs[k] < 128 ↔ ((xs[k].toNat : Int) < 128) := by rw [UInt8.lt_iff_toNat_lt]; simp; omega
      by_cases hx : (xs[k].toNat : Int) < 128
      · have hd : decide ((xs[k].toNat : Int) < 128) = true := by simpa using hx
        have HX := Lib.hid (hu.2 hx)
        clear hu hx
        go_wp2
        go_ret
        exact ⟨k, rfl, ⟨fun _ => ⟨xs[k], List.getElem_mem hlt, HX.out⟩, fun _ => by omega⟩, rfl⟩
      · have hd : decide ((xs[k].toNat : Int) < 128) = false := by simpa using hx
        have HX := Lib.hid (fun hh => hx (hu.1 hh))
        clear hu hx
        go_wp2
        go_round
        case rel =>
          refine ⟨k + 1, by omega, by go_num, fun j hj hl => ?_⟩
          by_cases hjk : j = k
          · subst hjk
            exact HX.out
          · exact HA.out j (by omega) hl
        case measure => exact meas_up hlt
    · obtain rfl : k = xs.length := by omega
      go_wp2
      go_ret
      refine ⟨-1, rfl, ⟨fun hh => absurd hh (by omega), fun ⟨x, hx, h2⟩ => ?_⟩, rfl⟩
      obtain ⟨j, hj, rfl⟩ := List.mem_iff_getElem.1 hx
      exact absurd h2 (HA.out j hj hj)
theorem contains_c {v : Value} {xs : List UInt8} {w : World} (h : RdB w v xs) (hb : xs.length ≤ 1000000000000) (hx : ∃ x ∈ xs, x < 128) :
    Calls Try.prog 90 #[v, .func (.func 91) #[] #[]] w fun e w' => e = .returned (.bool true) ∧ w = w' := by
  obtain ⟨A, c, rfl, hc⟩ := h.form
  go_enter Try.func90, Try.ntmps90
  go_wp2_with fail
  refine (index_c h hb).mono ?_
  rintro e w' ⟨r, rfl, hr, rfl⟩
  have h0 := hr.2 hx
  clear hr hx
  go_wp2
  go_ret
  exact ⟨rfl, rfl⟩
/-- what the code behind 'wrong' finds -/
def WrongOk (xs : List UInt8) : Prop := numS xs = (0, 0, 12) ∧ (xs.length < 10 → ∃ x ∈ xs, x < 128)
set_option maxRecDepth 100000 in
set_option maxHeartbeats 1600000 in
theorem num_c {v : Value} {xs : List UInt8} {w : World} (h : RdB w v xs) (hb : xs.length ≤ 1000000000000) :
    Calls Try.prog 75 #[v] w fun e w' => e = .returned (num3 (numS xs)) ∧ w = w' := by
  obtain ⟨A, c, rfl, hc⟩ := h.form
  go_enter Try.func75, Try.ntmps75
  go_wp2_with fail
  refine wp_scope_jumps 0 (fun a' w' => w' = w ∧ WrongOk xs ∧ ∃ u1 u2 u3 u4 u5 u6 u7 u8 u9 u10 u11 u12 u13 u14 u15 u16 u17 u18 u19 u20 u21 u22 u23 u24 u25 u26 u27 u28 u29 u30 u31 u32 u33 u34 u35 u36 u37 u38 u39 u40 u41 u42 u43 u44 u45 u46 u47 u48 u49 u50 u51 u52 : Value, a' = { tmps := #[.slice A xs.length c, u1, u2, u3, u4, u5, u6, u7, u8, u9, u10, u11, u12, u13, u14, u15, u16, u17, u18, u19, u20, u21, u22, u23, u24, u25, u26, u27, u28, u29, u30, u31, u32, u33, u34, u35, u36, u37, u38, u39, u40, u41, u42, u43, u44, u45, u46, u47, u48, u49, u50, u51, u52], defers := [] }) (fun _ _ => 0) rfl ?_ ?_
  · go_wp2_with fail
    go_loop [5, 10] (fun n i => ∃ k m : Nat, k ≤ xs.length ∧ k ≤ 10 ∧ i = .int .i64 k ∧ n = .int .u64 m ∧ m < 128 ^ k ∧ numS xs = numGo (xs.headD 0) k m (xs.drop k)) (fun _ i => xs.length - (intOf i).toNat)
    case atStart => exact ⟨0, 0, by omega, by omega, rfl, rfl, by omega, by rw [List.drop_zero]; rfl⟩
    case round =>
      obtain ⟨k, m, hk, hk10, rfl, rfl, hm, hS⟩ := hrel
      have hpow : m < 144115188075855872 ∨ 9 ≤ k := by
        rcases Nat.lt_or_ge k 9 with h9 | h9
        · have : (128 : Nat) ^ k ≤ 128 ^ 8 := Nat.pow_le_pow_right (by omega) (by omega)
          exact .inl (by omega)
        · exact .inr h9
      have HM := Lib.hid hm
      have HS := Lib.hid hS
      clear hm hS
      by_cases hlt : k < xs.length
      · obtain ⟨ad, rfl, hcell⟩ := h.at_ k hlt
        simp only [bv] at hcell
        by_cases h10 : k = 10
        · have hw : WrongOk xs := ⟨by rw [HS.out]; exact numGo_wrong _ _ _ _ hlt (.inl h10), fun hh => absurd hh (by omega)⟩
          have HW := Lib.hid hw
          have t1 : ((k : Int) == 10) = true := by simp; omega
          clear hw h10 hpow
          go_wp2
          go_step3
          exact ⟨rfl, rfl, HW.out, _, _, _, _, _, _, _, _, _, _, _, _, _, _, _, _, _, _, _, _, _, _, _, _, _, _, _, _, _, _, _, _, _, _, _, _, _, _, _, _, _, _, _, _, _, _, _, _, _, _, _, _, rfl⟩
        · have t1 : ((k : Int) == 10) = false := by simp; omega
          have hk9 : k ≤ 9 := by omega
          by_cases hb57 : m < 144115188075855872
          · have hor : ((m : Int) * 128) < 18446744073709551616 := by omega
            have hno : ¬ (k = 10 ∨ 144115188075855872 ≤ m) := by omega
            have hx256 := xs[k].toNat_lt
            have e1 : bits .and .u8 (xs[k].toNat : Int) 127 = ((xs[k].toNat % 128 : Nat) : Int) := by
              have := u8_and_nat xs[k].toNat 127 (by omega) (by omega)
              rwa [nat_mask7] at this
            have e2 : bits .or .u64 ((m : Int) * 128) ((xs[k].toNat : Int) % 128) = ((m * 128 + xs[k].toNat % 128 : Nat) : Int) := by
              have := u64_or_nat (m * 128) (xs[k].toNat % 128) (by omega) (by omega)
              rw [nat_join 7 (m * 128) (xs[k].toNat % 128) (by omega) (by omega)] at this
              rw [← this]
              congr 1
            have hu : xs[k] < 128 ↔ ((xs[k].toNat : Int) < 128) := by rw [UInt8.lt_iff_toNat_lt]; simp; omega
            by_cases hx : (xs[k].toNat : Int) < 128
            · obtain ⟨ad0, had, hcell0⟩ := h.at_ 0 (by omega)
              injection had with had
              subst had
              have e0 : ad.add 0 = ad := rfl
              rw [e0] at hcell0
              simp only [bv] at hcell0
              clear e0
              have hhead : xs.headD 0 = xs[0] := by
                rcases xs with _ | ⟨x, r⟩
                · simp at hlt
                · rfl
              have hlen0 : 0 < xs.length := by omega
              by_cases h128 : xs.headD 0 = 128
              · have hw : WrongOk xs := ⟨by rw [HS.out]; exact numGo_first _ _ _ _ hlt (hu.2 hx) h128, fun _ => ⟨xs[k], List.getElem_mem hlt, hu.2 hx⟩⟩
                have HW := Lib.hid hw
                have t2 : ((xs[0].toNat : Int) == 128) = true := by rw [← hhead, h128]; rfl
                clear hw h128 hhead hu hno h10 hpow hor
                generalize xs[k].toNat = b at *
                generalize xs[0].toNat = b0 at *
                go_wp2
                all_goals go_step3
                all_goals exact ⟨rfl, rfl, HW.out, _, _, _, _, _, _, _, _, _, _, _, _, _, _, _, _, _, _, _, _, _, _, _, _, _, _, _, _, _, _, _, _, _, _, _, _, _, _, _, _, _, _, _, _, _, _, _, _, _, _, _, _, rfl⟩
              · have hr := numGo_ok (xs.headD 0) k m xs hlt hno (hu.2 hx) h128
                rw [← HS.out] at hr
                have H1 := Lib.hid (num3_mk _ _ _ hr)
                have t2 : ((xs[0].toNat : Int) == 128) = false := by
                  rw [← hhead]
                  simp only [beq_eq_false_iff_ne]
                  intro hh
                  exact h128 (UInt8.toNat_inj.1 (by rw [show (128 : UInt8).toNat = 128 from rfl]; omega))
                clear hr h128 hhead hu hno h10 hpow hor
                generalize xs[k].toNat = b at *
                generalize xs[0].toNat = b0 at *
                go_wp2
                all_goals simp only [Exit.jump]
                all_goals go_ret3
                all_goals exact ⟨by rw [H1.out]; rfl, rfl⟩
            · have hr := numGo_next (xs.headD 0) k m xs hlt hno (fun hh => hx (hu.1 hh))
              rw [← HS.out] at hr
              have HR := Lib.hid hr
              have hpw : m * 128 + xs[k].toNat % 128 < 128 ^ (k + 1) := by
                have h3 := HM.out
                rw [Nat.pow_succ]
                generalize 128 ^ k = pk at *
                have h4 : xs[k].toNat % 128 < 128 := Nat.mod_lt _ (by omega)
                omega
              have HP := Lib.hid hpw
              clear hr hpw hu hno h10 hpow hor
              generalize xs[k].toNat = b at *
              go_wp2
              all_goals exact ⟨⟨k + 1, m * 128 + b % 128, by omega, by omega, by go_num, by go_num, HP.out, HR.out⟩, meas_up hlt⟩
          · have hw : WrongOk xs := ⟨by rw [HS.out]; exact numGo_wrong _ _ _ _ hlt (.inr (by omega)), fun hh => absurd hh (by omega)⟩
            have HW := Lib.hid hw
            clear hw h10
            go_wp2
            go_step3
            exact ⟨rfl, rfl, HW.out, _, _, _, _, _, _, _, _, _, _, _, _, _, _, _, _, _, _, _, _, _, _, _, _, _, _, _, _, _, _, _, _, _, _, _, _, _, _, _, _, _, _, _, _, _, _, _, _, _, _, _, _, rfl⟩
      · obtain rfl : k = xs.length := by omega
        have hS := HS.out
        rw [List.drop_length, numGo_nil] at hS
        by_cases hlen : xs.length < 10
        · rw [if_pos hlen] at hS
          have H1 := Lib.hid (num3_mk 0 0 10 hS)
          clear hS hpow
          go_wp2
          simp only [Exit.jump]
          go_ret3
          exact ⟨by rw [H1.out]; rfl, rfl⟩
        · rw [if_neg hlen] at hS
          have H1 := Lib.hid (num3_mk 0 0 12 hS)
          clear hS hpow
          go_wp2
          go_step3
          go_wp2
          simp only [Exit.jump]
          go_ret3
          exact ⟨by rw [H1.out]; rfl, rfl⟩
  · rintro a' w' ⟨rfl, hw, u1, u2, u3, u4, u5, u6, u7, u8, u9, u10, u11, u12, u13, u14, u15, u16, u17, u18, u19, u20, u21, u22, u23, u24, u25, u26, u27, u28, u29, u30, u31, u32, u33, u34, u35, u36, u37, u38, u39, u40, u41, u42, u43, u44, u45, u46, u47, u48, u49, u50, u51, u52, rfl⟩
    have e1 := num3_mk 0 0 12 hw.1
    have H1 := Lib.hid e1
    by_cases hlen : xs.length < 10
    · have hx := hw.2 hlen
      have HX := Lib.hid hx
      clear hw e1 hx
      go_wp2_with fail
      refine (contains_c h hb HX.out).mono ?_
      rintro e w1 ⟨rfl, rfl⟩
      go_wp2
      simp only [Exit.jump]
      go_ret3
      exact ⟨by rw [H1.out]; rfl, rfl⟩
    · clear hw e1
      go_wp2
      simp only [Exit.jump]
      go_ret3
      exact ⟨by rw [H1.out]; rfl, rfl⟩
end Go.Proofs.Yteokkpmndfekoaa
