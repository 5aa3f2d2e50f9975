/- No disk, and one that nobody made: DiskNil. -/
import Derived.Test.YthkbgbbejgpeaaaJD
namespace Go.Proofs.Ythkbgbbejgpeaaa
open Go Go.RowKit
set_option maxRecDepth 100000

/-- no disk, or one that nobody made -/
def NoD (w : World) (p : Value) : Prop := p = .pointer none ∨ ∃ g, p = .pointer (some ⟨g, 0, none⟩) ∧ w.cell? ⟨g, 2, none⟩ = some (.map none)
theorem NoD.keepN {w w' : World} {p : Value} (h : NoD w p) (k : KpN w w') : NoD w' p := by
  rcases h with h | ⟨g, h, hc⟩
  · exact .inl h
  · exact .inr ⟨g, h, by rw [k.cell (World.block_lt_of_cell? w _ hc) (fun x => x)]; exact hc⟩
section
variable {w : World} {p : Value}
theorem made_no (h : NoD w p) : Calls Try.prog 48 #[p] w fun e w' => e = .returned (.bool false) ∧ w = w' := by
  rcases h with rfl | ⟨g, rfl, hc⟩
  · go_enter Try.func48, Try.ntmps48
    go_wp2
    go_ret
    exact ⟨rfl, rfl⟩
  · go_enter Try.func48, Try.ntmps48
    have hm := run_neq_map_nil (P := Try.prog) w _ _ _ none Try.underlying77
    go_wp2
    go_ret
    exact ⟨rfl, rfl⟩
theorem has_no {i : Int} (h : NoD w p) : Calls Try.prog 49 #[p, .int .i64 i] w fun e w' => e = .returned (.bool false) ∧ w = w' := by
  go_enter Try.func49, Try.ntmps49
  go_wp2_with fail
  refine (made_no h).mono ?_
  rintro e w1 ⟨rfl, rfl⟩
  go_wp2
  go_ret
  exact ⟨rfl, rfl⟩
theorem sectors_no (h : NoD w p) : Calls Try.prog 21 #[p] w fun e w' => e = .returned (.int .i64 0) ∧ w = w' := by
  go_enter Try.func21, Try.ntmps21
  go_wp2_with fail
  refine (made_no h).mono ?_
  rintro e w1 ⟨rfl, rfl⟩
  go_wp2
  go_ret
  exact ⟨rfl, rfl⟩
theorem down_no (h : NoD w p) : Calls Try.prog 32 #[p] w fun e w' => e = .returned (.bool false) ∧ w = w' := by
  go_enter Try.func32, Try.ntmps32
  go_wp2_with fail
  refine (made_no h).mono ?_
  rintro e w1 ⟨rfl, rfl⟩
  go_wp2
  go_ret
  exact ⟨rfl, rfl⟩
theorem flush_no (h : NoD w p) : Calls Try.prog 40 #[p] w fun e w' => e = .returned (.int .i64 1) ∧ w = w' := by
  go_enter Try.func40, Try.ntmps40
  go_wp2_with fail
  refine (made_no h).mono ?_
  rintro e w1 ⟨rfl, rfl⟩
  go_wp2
  go_ret
  exact ⟨rfl, rfl⟩
theorem image_no (h : NoD w p) : Calls Try.prog 24 #[p] w fun e w' => e = .returned (.slice none 0 0) ∧ w = w' := by
  go_enter Try.func24, Try.ntmps24
  go_wp2_with fail
  refine (made_no h).mono ?_
  rintro e w1 ⟨rfl, rfl⟩
  go_wp2
  go_ret
  exact ⟨rfl, rfl⟩
theorem dirty_no (h : NoD w p) : Calls Try.prog 30 #[p] w fun e w' => e = .returned (.tuple #[.slice none 0 0, .slice none 0 0]) ∧ w = w' := by
  go_enter Try.func30, Try.ntmps30
  go_wp2_with fail
  refine (made_no h).mono ?_
  rintro e w1 ⟨rfl, rfl⟩
  go_wp2
  go_ret2
  exact ⟨rfl, rfl⟩
theorem cut_no {i : Int} (h : NoD w p) : Calls Try.prog 45 #[p, .int .i64 i] w fun e w' => (∃ u, e = .returned u) ∧ w = w' := by
  go_enter Try.func45, Try.ntmps45
  go_wp2_with fail
  refine (made_no h).mono ?_
  rintro e w1 ⟨rfl, rfl⟩
  go_wp2
  go_end0
  exact ⟨⟨_, rfl⟩, rfl⟩
theorem crash_no {v : Value} (h : NoD w p) : Calls Try.prog 39 #[p, v] w fun e w' => (∃ u, e = .returned u) ∧ w = w' := by
  go_enter Try.func39, Try.ntmps39
  go_wp2_with fail
  refine (made_no h).mono ?_
  rintro e w1 ⟨rfl, rfl⟩
  go_wp2
  (try simp only [Exit.inBlock, Exit.then])
  exact bodyPost_ret (results_none rfl _ _ _) rfl ⟨⟨_, rfl⟩, rfl⟩
theorem read_no {i : Int} (h : NoD w p) : Calls Try.prog 26 #[p, .int .i64 i] w fun e w' => e = .returned (.tuple #[.slice none 0 0, .int .i64 1]) ∧ w = w' := by
  go_enter Try.func26, Try.ntmps26
  go_wp2_with fail
  refine (has_no h).mono ?_
  rintro e w1 ⟨rfl, rfl⟩
  go_wp2
  go_ret2
  exact ⟨rfl, rfl⟩
theorem write_none {i : Int} {v : Value} (h : NoD w p) : Calls Try.prog 27 #[p, .int .i64 i, v] w fun e w' => e = .returned (.int .i64 1) ∧ w = w' := by
  go_enter Try.func27, Try.ntmps27
  go_wp2_with fail
  refine (has_no h).mono ?_
  rintro e w1 ⟨rfl, rfl⟩
  go_wp2
  go_ret
  exact ⟨rfl, rfl⟩
end
set_option maxHeartbeats 3200000 in
theorem dnil_walk {w : World} : Calls Try.prog 14 #[] w fun e w' => e = .returned (.bool true) ∧ KpN w w' := by
  go_enter Try.func14, Try.ntmps14
  go_wp2_with fail
  refine (new_x (n := 2) (by omega) (by omega)).mono ?_
  rintro e w1 ⟨g, rfl, hd, k1⟩
  obtain ⟨d2, d3, hw, hf, h3n, h3len, hrd⟩ : ∃ d2 d3, writeD (newD 2) (1 : Int) (fillB 5) = (0, d2) ∧ flushD d2 = (0, d3) ∧ d3.n = 2 ∧ True ∧ readD d3 (1 : Int) = (fillB 5, 0) := by
    refine ⟨_, _, write_yes (newD 2) 1 (fillB 5) (by simp [newD]) (fillB_len 5) rfl rfl, rfl, rfl, trivial, ?_⟩
    refine (read_plain _ 1 (by show 1 < 2; omega) rfl rfl).trans ?_
    rfl
  have HD := Lib.hid hd
  clear hd h3len
  go_wp2_with fail
  refine (fill_c (n := 5) (by omega)).mono ?_
  rintro e w2 ⟨vf, rfl, of, k2⟩
  have hof := of.fit
  go_wp2_with fail
  refine (write_x (i := 1) (xs := fillB 5) (HD.out.keepN k2) of.readsB (fun b hb hF => iv_apart (Nat.le_refl _) b hF (hof b hb)) ⟨by omega, by omega⟩ (by omega)).mono ?_
  rw [hw]
  rintro e w3 ⟨rfl, F3, k3', hk3, hd3, hG3, k3⟩
  have HD3 := Lib.hid hd3
  clear hd3 hw
  go_wp2_with fail
  refine (flush_x HD3.out).mono ?_
  rw [hf]
  rintro e w4 ⟨rfl, F4, k4', hk4, hd4, hG4, k4⟩
  have himl := image_len d3 hd4.len
  rw [h3n] at himl
  obtain ⟨im, him⟩ : ∃ im, imageD d3 = im := ⟨_, rfl⟩
  rw [him] at himl
  have HD4 := Lib.hid hd4
  have HIM := Lib.hid (And.intro him himl)
  clear hd4 hf him himl
  go_wp2_with fail
  refine (image_x HD4.out).mono ?_
  rw [HIM.out.1]
  rintro e w5 ⟨v5, rfl, o5, k5⟩
  obtain ⟨A5, c5, rfl, -⟩ := o5.readsB.form
  rw [HIM.out.2]
  go_wp2_with fail
  have k6 : KpN w5 ((w5.alloc (.cells #[.slice none 0 0, .slice none 0 0, .map none, .bool false, .int .i64 0] 79)).alloc (.cells #[.pointer none, .pointer (some ⟨w5.heap.size, 0, none⟩)] 22)) := ((Kp.refl _ _).alloc _).alloc _
  have c0 : ((w5.alloc (.cells #[.slice none 0 0, .slice none 0 0, .map none, .bool false, .int .i64 0] 79)).alloc (.cells #[.pointer none, .pointer (some ⟨w5.heap.size, 0, none⟩)] 22)).cell? ⟨w5.heap.size + 1, 0, none⟩ = some (.pointer none) := by
    rw [cell_of_row _ _ _ _ _ _ (by rw [show w5.heap.size + 1 = (w5.alloc (.cells #[.slice none 0 0, .slice none 0 0, .map none, .bool false, .int .i64 0] 79)).heap.size by simp]; exact heap_alloc_new _ _)]
    rfl
  have c1 : ((w5.alloc (.cells #[.slice none 0 0, .slice none 0 0, .map none, .bool false, .int .i64 0] 79)).alloc (.cells #[.pointer none, .pointer (some ⟨w5.heap.size, 0, none⟩)] 22)).cell? ⟨w5.heap.size + 1, 1, none⟩ = some (.pointer (some ⟨w5.heap.size, 0, none⟩)) := by
    rw [cell_of_row _ _ _ _ _ _ (by rw [show w5.heap.size + 1 = (w5.alloc (.cells #[.slice none 0 0, .slice none 0 0, .map none, .bool false, .int .i64 0] 79)).heap.size by simp]; exact heap_alloc_new _ _)]
    rfl
  have hnd : NoD ((w5.alloc (.cells #[.slice none 0 0, .slice none 0 0, .map none, .bool false, .int .i64 0] 79)).alloc (.cells #[.pointer none, .pointer (some ⟨w5.heap.size, 0, none⟩)] 22)) (.pointer (some ⟨w5.heap.size, 0, none⟩)) := by
    refine NoD.keepN (w := w5.alloc (.cells #[.slice none 0 0, .slice none 0 0, .map none, .bool false, .int .i64 0] 79)) (.inr ⟨_, rfl, ?_⟩) ((Kp.refl _ _).alloc _)
    rw [cell_of_row _ _ _ _ _ _ (heap_alloc_new _ _)]
    rfl
  generalize ((w5.alloc (.cells #[.slice none 0 0, .slice none 0 0, .map none, .bool false, .int .i64 0] 79)).alloc (.cells #[.pointer none, .pointer (some ⟨w5.heap.size, 0, none⟩)] 22)) = W6 at *
  generalize w5.heap.size = S at *
  have C0 := Lib.hid c0
  have C1 := Lib.hid c1
  clear c0 c1
  go_loopw [6] (fun j wr => ∃ q : Nat, q ≤ 2 ∧ j = .int .i64 q ∧ KpN W6 wr) (fun j _ => 2 - (intOf j).toNat)
  case atStart => exact ⟨0, by omega, rfl, Kp.refl _ _⟩
  case round =>
    obtain ⟨q, hq, rfl, hk⟩ := hrel
    by_cases hlt : q < 2
    · have hp : ∃ p, NoD wr p ∧ wr.cell? ⟨S + 1, q, none⟩ = some p := by
        obtain hq0 | hq1 : q = 0 ∨ q = 1 := by omega
        · subst hq0
          exact ⟨_, .inl rfl, by rw [hk.cell (World.block_lt_of_cell? _ _ C0.out) (fun x => x)]; exact C0.out⟩
        · subst hq1
          exact ⟨_, hnd.keepN hk, by rw [hk.cell (World.block_lt_of_cell? _ _ C1.out) (fun x => x)]; exact C1.out⟩
      obtain ⟨p, hp, hc⟩ := hp
      go_wp2_with fail
      refine (cut_no hp).mono ?_
      rintro e wa ⟨⟨ua, rfl⟩, rfl⟩
      have ka := (Kp.refl (fun _ => False) wr).alloc (.cells #[.int .i64 1] 3)
      go_wp2_with fail
      refine (crash_no (hp.keepN ka)).mono ?_
      rintro e wb ⟨⟨ub, rfl⟩, rfl⟩
      have hp2 := hp.keepN ka
      have hk2 := hk.thenN ka
      generalize wr.alloc (.cells #[.int .i64 1] 3) = wb at *
      clear hc
      go_wp2_with fail
      refine (read_no hp2).mono ?_
      rintro e wc ⟨rfl, rfl⟩
      go_wp2_with fail
      refine (dirty_no hp2).mono ?_
      rintro e wc ⟨rfl, rfl⟩
      go_wp2_with fail
      refine (fill_c (n := 1) (by omega)).mono ?_
      rintro e wd ⟨vd, rfl, -, kd⟩
      have hp3 := hp2.keepN kd
      go_wp2_with fail
      refine (write_none hp3).mono ?_
      rintro e we ⟨rfl, rfl⟩
      go_wp2_with fail
      refine (flush_no hp3).mono ?_
      rintro e we ⟨rfl, rfl⟩
      go_wp2_with fail
      refine (image_no hp3).mono ?_
      rintro e we ⟨rfl, rfl⟩
      go_wp2_with fail
      refine (sectors_no hp3).mono ?_
      rintro e we ⟨rfl, rfl⟩
      go_wp2_with fail
      refine (down_no hp3).mono ?_
      rintro e we ⟨rfl, rfl⟩
      go_wp2_with fail
      go_roundw
      case rel => exact ⟨q + 1, by omega, by go_num, hk2.thenN kd⟩
      case measure => exact meas_up hlt
    · have hq2 : q = 2 := by omega
      subst hq2
      have hd7 := ((HD4.out.keepN k5).keepN k6).keepN hk
      have k0 : KpN w w4 := ((k1.thenN k2).fresh k3 (fun i hi => hi.1)).fresh k4 (fun i hi => by
        rcases hG3 i hi with h | h
        · exact h.1
        · have := h.1; have := k1.size; have := k2.size; omega)
      go_wp2_with fail
      refine (read_x (i := 1) hd7 ⟨by omega, by omega⟩).mono ?_
      rw [hrd]
      rintro e wa ⟨ua, rfl, oa, ka⟩
      go_wp2_with fail
      refine (fill_c (n := 5) (by omega)).mono ?_
      rintro e wb ⟨vb, rfl, ob, kb⟩
      go_wp2_with fail
      refine (Bytes_c (oa.readsB.keepN kb) ob.readsB (by rw [fillB_len]; omega)).mono ?_
      rintro e wc ⟨rfl, kc⟩
      rw [show decide (fillB 5 = fillB 5) = true by simp]
      go_wp2_with fail
      go_ret
      exact ⟨rfl, (((((k0.thenN k5).thenN k6).thenN hk).thenN ka).thenN kb).thenN kc⟩
end Go.Proofs.Ythkbgbbejgpeaaa
