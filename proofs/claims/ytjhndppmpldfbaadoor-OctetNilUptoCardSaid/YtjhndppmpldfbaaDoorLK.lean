/- OctetNil: what the call does. -/
import Derived.Test.YtjhndppmpldfbaaDoorOR2
import Derived.Test.YtjhndppmpldfbaaDoorOK
namespace Go.Proofs.YtjhndppmpldfbaaDoor
open Go Go.RowKit

/-- no Reader, or one that New did not make -/
def NoRdr (w : World) (p : Value) : Prop := p = .pointer none ∨ ∃ g, p = .pointer (some ⟨g, 0, none⟩) ∧ g < w.heap.size ∧ w.cell? ⟨g, 0, none⟩ = some (.slice none 0 0) ∧ w.cell? ⟨g, 1, none⟩ = some (.int .i64 0) ∧ w.cell? ⟨g, 2, none⟩ = some (.bool false)
theorem NoRdr.keepN {w w' : World} {p : Value} (h : NoRdr w p) (k : KpN w w') : NoRdr w' p := by
  rcases h with rfl | ⟨g, rfl, hg, h0, h1, h2⟩
  · exact .inl rfl
  · exact .inr ⟨g, rfl, Nat.lt_of_lt_of_le hg k.size, by rw [k.cell hg (fun x => x)]; exact h0, by rw [k.cell hg (fun x => x)]; exact h1, by rw [k.cell hg (fun x => x)]; exact h2⟩
theorem nbad_c {w : World} {p : Value} (h : NoRdr w p) : Calls Tryd.prog 54 #[p] w fun e w' => e = .returned (.bool true) ∧ w = w' := by
  go_enter Tryd.func54, Tryd.ntmps54
  rcases h with rfl | ⟨g, rfl, hg, h0, h1, h2⟩
  all_goals go_wp2
  all_goals go_ret
  all_goals exact ⟨rfl, rfl⟩
theorem nfail_c {w : World} {p : Value} {z : Int} (h : NoRdr w p) : Calls Tryd.prog 55 #[p, .int .i64 z] w fun e w' => (∃ u, e = .returned u) ∧ w = w' := by
  go_enter Tryd.func55, Tryd.ntmps55
  go_wp2_with fail
  refine (nbad_c h).mono ?_
  rintro e w2 ⟨rfl, rfl⟩
  go_wp2
  go_end0
  exact ⟨⟨_, rfl⟩, rfl⟩
theorem nnum_c {w : World} {p : Value} {z : Int} (h : NoRdr w p) : Calls Tryd.prog 36 #[p, .int .u64 z] w fun e w' => e = .returned (.int .u64 0) ∧ w = w' := by
  go_enter Tryd.func36, Tryd.ntmps36
  go_wp2_with fail
  refine (nbad_c h).mono ?_
  rintro e w2 ⟨rfl, rfl⟩
  go_wp2
  go_ret
  exact ⟨rfl, rfl⟩
theorem nbytes_c {w : World} {p : Value} {z : Int} (h : NoRdr w p) : Calls Tryd.prog 38 #[p, .int .i64 z] w fun e w' => e = .returned (.slice none 0 0) ∧ w = w' := by
  go_enter Tryd.func38, Tryd.ntmps38
  go_wp2_with fail
  refine (nbad_c h).mono ?_
  rintro e w2 ⟨rfl, rfl⟩
  go_wp2
  go_ret
  exact ⟨rfl, rfl⟩
theorem ntake_c {w : World} {p : Value} {z : Int} (h : NoRdr w p) : Calls Tryd.prog 40 #[p, .int .i64 z] w fun e w' => e = .returned (.slice none 0 0) ∧ w = w' := by
  go_enter Tryd.func40, Tryd.ntmps40
  go_wp2_with fail
  refine (nbad_c h).mono ?_
  rintro e w2 ⟨rfl, rfl⟩
  go_wp2
  go_ret
  exact ⟨rfl, rfl⟩
theorem nleft_c {w : World} {p : Value} (h : NoRdr w p) : Calls Tryd.prog 35 #[p] w fun e w' => e = .returned (.int .i64 0) ∧ KpN w w' := by
  go_enter Tryd.func35, Tryd.ntmps35
  rcases h with rfl | ⟨g, rfl, hg, h0, h1, h2⟩
  · go_wp2
    go_ret
    exact ⟨rfl, Kp.refl _ _⟩
  · go_wp2
    go_region
    go_wp2
    go_ret
    exact ⟨rfl, (Kp.refl _ _).drew⟩
theorem nerr_c {w : World} {p : Value} (h : NoRdr w p) : Calls Tryd.prog 37 #[p] w fun e w' => e = .returned (.int .i64 1) ∧ w = w' := by
  go_enter Tryd.func37, Tryd.ntmps37
  rcases h with rfl | ⟨g, rfl, hg, h0, h1, h2⟩
  all_goals go_wp2
  all_goals go_ret
  all_goals exact ⟨rfl, rfl⟩
theorem nend_c {w : World} {p : Value} (h : NoRdr w p) : Calls Tryd.prog 42 #[p] w fun e w' => e = .returned (.int .i64 1) ∧ w = w' := by
  go_enter Tryd.func42, Tryd.ntmps42
  go_wp2_with fail
  refine (nbad_c h).mono ?_
  rintro e w2 ⟨rfl, rfl⟩
  go_wp2_with fail
  refine (nerr_c h).mono ?_
  rintro e w2 ⟨rfl, rfl⟩
  go_wp2
  go_ret
  exact ⟨rfl, rfl⟩
set_option maxHeartbeats 1600000 in
theorem nothing_c {w : World} {p : Value} {n i : Int} (h : NoRdr w p) : Calls Tryd.prog 43 #[p, .int .u64 n, .int .i64 i] w fun e w' => e = .returned (.bool true) ∧ KpN w w' := by
  go_enter Tryd.func43, Tryd.ntmps43
  go_wp2_with fail
  refine (nfail_c h).mono ?_
  rintro e w2 ⟨⟨u, rfl⟩, rfl⟩
  go_wp2_with fail
  refine (nnum_c h).mono ?_
  rintro e w2 ⟨rfl, rfl⟩
  go_wp2_with fail
  refine (nbytes_c h).mono ?_
  rintro e w2 ⟨rfl, rfl⟩
  go_wp2_with fail
  refine (ntake_c h).mono ?_
  rintro e w2 ⟨rfl, rfl⟩
  go_wp2_with fail
  refine (nleft_c h).mono ?_
  rintro e w2 ⟨rfl, k2⟩
  have h2 := h.keepN k2
  go_wp2_with fail
  refine (nerr_c h2).mono ?_
  rintro e w3 ⟨rfl, rfl⟩
  go_wp2_with fail
  refine (nend_c h2).mono ?_
  rintro e w3 ⟨rfl, rfl⟩
  go_wp2
  go_ret
  exact ⟨rfl, k2⟩
theorem rNum_56 : rNum [5, 6] 0 0 9 = (5, 1, 0) := by decide
set_option maxHeartbeats 1600000 in
theorem nil_walk {w : World} {n i : Int} (ht : TabOk w) : Calls Tryd.prog 14 #[.int .u64 n, .int .i64 i] w fun e w' => e = .returned (.bool true) ∧ KpN w w' := by
  have hd := rNum_56
  have HD := Lib.hid hd
  clear hd
  have o0 := OwB.lit w 5 [5, 6] _ rfl (by simp)
  have k0 : KpN w (w.alloc (.cells (bvs [5, 6]).toArray 5)) := (Kp.refl _ _).alloc _
  go_enter Tryd.func14, Tryd.ntmps14
  go_wp2_with fail
  refine (new_c o0.readsB (by simp)).mono ?_
  rintro e w1 ⟨g, u, rfl, r1, k1⟩
  have k01 := k0.thenN k1
  go_wp2_with fail
  refine (knows_c (ht.keepN k01)).mono ?_
  rintro e w2 ⟨rfl, k2⟩
  have k02 := k01.thenN k2
  go_wp2_with fail
  refine (left_c (r1.keepN k2)).mono ?_
  rintro e w3 ⟨rfl, k3⟩
  have k03 := k02.thenN k3
  have r3 := (r1.keepN k2).keepN k3
  go_wp2_with fail
  have hN := rdNumber_c (most := 9) r3 (by omega)
  rw [HD.out] at hN
  refine hN.mono ?_
  rintro e w4 ⟨rfl, r4, k4⟩
  clear hN
  have k04 : KpN w w4 := k03.fresh k4 (fun i h1 => by have := h1.1; have := k0.size; omega)
  go_wp2_with fail
  refine (err_c r4).mono ?_
  rintro e w5 ⟨rfl, rfl⟩
  go_wp2_with fail
  refine (nothing_c (.inl rfl)).mono ?_
  rintro e w5 ⟨rfl, k5⟩
  have k05 := k04.thenN k5
  have k6 := (Kp.refl (fun _ => False) w5).alloc (.cells #[.slice none 0 0, .int .i64 0, .bool false, .int .i64 0] 59)
  have nr : NoRdr (w5.alloc (.cells #[.slice none 0 0, .int .i64 0, .bool false, .int .i64 0] 59)) (.pointer (some ⟨w5.heap.size, 0, none⟩)) := .inr ⟨_, rfl, by simp, by simp, by simp, by simp⟩
  go_wp2_with fail
  refine (nothing_c nr).mono ?_
  rintro e w7 ⟨rfl, k7⟩
  go_wp2
  go_ret
  exact ⟨rfl, (k05.thenN k6).thenN k7⟩
end Go.Proofs.YtjhndppmpldfbaaDoor
