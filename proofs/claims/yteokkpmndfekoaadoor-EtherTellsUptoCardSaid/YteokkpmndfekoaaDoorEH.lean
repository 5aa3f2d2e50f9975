/- The document's way: New, at, copied, within, Look, Put. -/
import Derived.Test.YteokkpmndfekoaaDoorEG
import Derived.Test.YteokkpmndfekoaaDoorOB2
namespace Go.Proofs.YteokkpmndfekoaaDoor
open Go Go.RowKit
set_option maxRecDepth 100000

theorem dgInfoR : (Tryd.prog.info? 81).map (fun i => (i.zero, i.size, i.bytes)) = some (some (.agg #[.slice none 0 0, .bool false]), 2, 32) := by kernel_rfl
theorem ecopied_c {w : World} {v : Value} {xs : List UInt8} (h : RdB w v xs) (hl : xs.length ≤ 1000000000) : Calls Tryd.prog 40 #[v] w (GotB 5 w xs) := by
  obtain ⟨v1, w1, r1, o1, k1⟩ := run_appB_nil (P := Tryd.prog) (ty := 26) w Tryd.underlying26 u8info h (by omega)
  obtain ⟨A, c, rfl, -⟩ := h.form
  clear h
  go_enter Tryd.func40, Tryd.ntmps40
  go_wp2_with (first | (refine app_op r1 rfl rfl ?_) | fail)
  go_ret
  exact got_of o1 k1
set_option maxHeartbeats 3200000 in
theorem within_c {n mask : Nat} {at_ : Int} {w : World} (hn : n ≤ 1000000000) (ha : -9223372036854775808 ≤ at_ ∧ at_ ≤ 9223372036854775807) (hm : mask < 4294967296) :
    Calls Tryd.prog 42 #[.int .i64 (n : Int), .int .i64 at_, .int .u32 (mask : Int)] w fun e w' => e = .returned (.bool (insideB n at_ mask)) ∧ w = w' := by
  have HI := Lib.hid (inside_iff n at_ mask)
  go_enter Tryd.func42, Tryd.ntmps42
  go_wp2_with fail
  go_loop [7] (fun j => ∃ q : Nat, q ≤ 32 ∧ j = .int .i64 q ∧ ∀ i : Nat, i < q → mask / 2 ^ i % 2 = 1 → -(i : Int) ≤ at_ ∧ at_ < 8 * (n : Int) - i) (fun j => 32 - (intOf j).toNat)
  case atStart => exact ⟨0, Nat.zero_le _, rfl, fun i hi => by omega⟩
  case round =>
    obtain ⟨q, hq, rfl, hall⟩ := hrel
    have HA := Lib.hid hall
    clear hall
    by_cases hlt : q < 32
    · have hmb := maskBit mask q hm
      by_cases b1 : mask / 2 ^ q % 2 = 1
      · rw [b1] at hmb
        by_cases c1 : at_ < -(q : Int)
        · have hb : insideB n at_ mask = false := by
            rcases Bool.eq_false_or_eq_true (insideB n at_ mask) with e | e
            · have := (HI.out.1 e q hlt b1).1
              omega
            · exact e
          have HB := Lib.hid hb
          clear hb
          go_wp2
          go_ret
          exact ⟨by rw [HB.out]; rfl, rfl⟩
        · by_cases c2 : 8 * (n : Int) - q ≤ at_
          · have hb : insideB n at_ mask = false := by
              rcases Bool.eq_false_or_eq_true (insideB n at_ mask) with e | e
              · have := (HI.out.1 e q hlt b1).2
                omega
              · exact e
            have HB := Lib.hid hb
            clear hb
            go_wp2
            go_ret
            exact ⟨by rw [HB.out]; rfl, rfl⟩
          · go_wp2
            go_round
            case rel =>
              refine ⟨q + 1, by omega, by go_num, fun i hi hbi => ?_⟩
              by_cases he : i = q
              · subst he
                omega
              · exact HA.out i (by omega) hbi
            case measure => exact meas_up hlt
      · have hb0 : mask / 2 ^ q % 2 = 0 := by omega
        rw [hb0] at hmb
        go_wp2
        go_round
        case rel =>
          refine ⟨q + 1, by omega, by go_num, fun i hi hbi => ?_⟩
          by_cases he : i = q
          · subst he
            omega
          · exact HA.out i (by omega) hbi
        case measure => exact meas_up hlt
    · obtain rfl : q = 32 := by omega
      have hb := HI.out.2 HA.out
      have HB := Lib.hid hb
      clear hb
      go_wp2
      go_ret
      exact ⟨by rw [HB.out]; rfl, rfl⟩
section
variable {T : Nat} {w : World} {F : Nat → Prop} {g n : Nat} {v : Value} {ls : List Dg}
/-- is there such a place? -/
def hasW (m : Nat) (i : Int) : Bool := decide (0 ≤ i) && decide (i < m)
theorem eat_c {i : Int} {m : Nat} (h : WayM false T w F g n v ls) (hm : ls.length = m) : Calls Tryd.prog 41 #[.pointer (some ⟨g, 0, none⟩), .int .i64 i] w fun e w' => e = .returned (.bool (hasW m i)) ∧ w = w' := by
  obtain ⟨A, c, rfl, hc⟩ := h.r.shape
  have c1 := h.c1
  rw [hm] at c1
  have hh : hasW m i = (decide (0 ≤ i) && decide (i < m)) := rfl
  have HH := Lib.hid hh
  clear h hh hm hc
  by_cases h0 : 0 ≤ i
  · by_cases h1 : i < (m : Int)
    · go_enter Tryd.func41, Tryd.ntmps41
      go_wp2
      go_ret
      exact ⟨by rw [HH.out]; simp [h0, h1], rfl⟩
    · have h1' : decide (i < (m : Int)) = false := by simpa using h1
      go_enter Tryd.func41, Tryd.ntmps41
      go_wp2
      go_ret
      exact ⟨by rw [HH.out]; simp [h1], rfl⟩
  · have h0' : i < 0 := by omega
    go_enter Tryd.func41, Tryd.ntmps41
    go_wp2
    go_ret
    refine ⟨?_, rfl⟩
    rw [HH.out, show decide (0 ≤ i) = false from decide_eq_false (by omega)]
    rfl
theorem hasW_at {st : List (List UInt8 × Bool)} {i : Int} {m : Nat} (hm : st.length = m) : hasW m i = (atS st i).isSome := by
  unfold hasW atS
  by_cases h0 : i < 0
  · rw [if_pos h0, show decide (0 ≤ i) = false from decide_eq_false (by omega)]; rfl
  · rw [if_neg h0, show decide (0 ≤ i) = true from decide_eq_true (by omega), Bool.true_and]
    by_cases h1 : i < (m : Int)
    · rw [List.getElem?_eq_getElem (by omega)]; simpa using h1
    · rw [List.getElem?_eq_none (by omega)]; simpa using h1
theorem eat_no {st : List (List UInt8 × Bool)} {i : Int} (hX : WayX false T w F g n st) (hi : atS st i = none) : Calls Tryd.prog 41 #[.pointer (some ⟨g, 0, none⟩), .int .i64 i] w fun e w' => e = .returned (.bool false) ∧ w = w' := by
  obtain ⟨v, ls, h, rfl⟩ := hX
  have := eat_c (i := i) h rfl
  rwa [hasW_at (stOf_len ls), hi] at this
theorem eat_yes {j : Nat} (h : WayM false T w F g n v ls) (hj : j < ls.length) : Calls Tryd.prog 41 #[.pointer (some ⟨g, 0, none⟩), .int .i64 (j : Int)] w fun e w' => e = .returned (.bool true) ∧ w = w' := by
  have := eat_c (i := (j : Int)) h rfl
  rwa [hasW_at (stOf_len ls), atS_in (by rw [stOf_len]; exact hj)] at this
theorem elook_no {st : List (List UInt8 × Bool)} {i : Int} (hX : WayX false T w F g n st) (hi : atS st i = none) : Calls Tryd.prog 32 #[.pointer (some ⟨g, 0, none⟩), .int .i64 i] w (BnoP w 4) := by
  have hM := eat_no hX hi
  clear hX hi
  go_enter Tryd.func32, Tryd.ntmps32
  go_wp2_with fail
  refine hM.mono ?_
  rintro e w2 ⟨rfl, rfl⟩
  go_wp2
  go_ret2
  exact ⟨rfl, Kp.refl _ _⟩
theorem elook_yes {j : Nat} (h : WayM false 81 w F g n v ls) (hj : j < ls.length) : Calls Tryd.prog 32 #[.pointer (some ⟨g, 0, none⟩), .int .i64 (j : Int)] w (BokP w ls[j].b) := by
  obtain ⟨gr, cap, rfl, -, hcap⟩ := h.r.form (by omega)
  have hM := eat_yes h hj
  have c1 := h.c1
  have hc := h.r.r0 j hj
  have hb := (h.r.all.each _ (List.getElem_mem hj)).readsB
  have hs := h.sm _ (List.getElem_mem hj)
  generalize ls[j] = d at *
  obtain ⟨A, c, hv, -⟩ := hb.form
  rw [hv] at hc hb
  have hC := ecopied_c hb (by omega)
  have HC := Lib.hid hC
  clear hC hb hv hs h
  generalize d.b.length = L at *
  generalize ls.length = m at *
  go_enter Tryd.func32, Tryd.ntmps32
  go_wp2_with fail
  refine hM.mono ?_
  rintro e w2 ⟨rfl, rfl⟩
  go_wp2_with fail
  refine HC.out.mono ?_
  rintro e w2 ⟨u, rfl, o2, k2⟩
  go_wp2
  go_ret2
  exact ⟨u, rfl, o2, k2⟩
end
theorem enew_c {n : Nat} {w : World} (h1 : 1 ≤ n) (h2 : n ≤ 1024) (T : Nat) : Calls Tryd.prog 17 #[.int .i64 (n : Int)] w fun e w' => ∃ g, e = .returned (.tuple #[.pointer (some ⟨g, 0, none⟩), .int .i64 0]) ∧ WayM false T w' (Iv w.heap.size w'.heap.size) g n (.slice none 0 0) [] ∧ KpN w w' := by
  have k1 := (Kp.refl (fun _ => False) w).alloc (.cells #[.int .i64 (n : Int), .slice none 0 0] 52)
  have hz : (w.alloc (.cells #[.int .i64 (n : Int), .slice none 0 0] 52)).heap.size = w.heap.size + 1 := by simp
  have hm : WayM false T (w.alloc (.cells #[.int .i64 (n : Int), .slice none 0 0] 52)) (Iv w.heap.size (w.heap.size + 1)) w.heap.size n (.slice none 0 0) [] :=
    ⟨h1, h2, ⟨Nat.le_refl _, by omega⟩, by rw [hz]; omega, by simp, by simp, fun j => frozen_of_row _ _ j _ _ (heap_alloc_new _ _), DgR.nil _ _ _ _, by simp [Value.ownBlock], fun d hd => (List.not_mem_nil hd).elim, Nat.zero_le _, fun d hd => (List.not_mem_nil hd).elim⟩
  rw [← hz] at hm
  have HM := Lib.hid hm
  clear hm hz
  go_enter Tryd.func17, Tryd.ntmps17
  go_wp2
  go_ret2
  exact ⟨_, rfl, HM.out, k1⟩
theorem enew_no {n : Int} {w : World} (h : n < 1 ∨ 1024 < n) : Calls Tryd.prog 17 #[.int .i64 n] w fun e w' => e = .returned (.tuple #[.pointer none, .int .i64 1]) ∧ w = w' := by
  by_cases h1 : n < 1
  · go_enter Tryd.func17, Tryd.ntmps17
    go_wp2
    go_ret2
    exact ⟨rfl, rfl⟩
  · have h2 : 1024 < n := by omega
    go_enter Tryd.func17, Tryd.ntmps17
    go_wp2
    go_ret2
    exact ⟨rfl, rfl⟩
end Go.Proofs.YteokkpmndfekoaaDoor
