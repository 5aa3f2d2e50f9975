/- EtherCalls: a step: Drop, Double, Turn, Len. -/
import Derived.Test.YteokkpmndfekoaaDoorEL
namespace Go.Proofs.YteokkpmndfekoaaDoor
open Go Go.RowKit
set_option maxRecDepth 100000

/-- the step's own copy of the call -/
structure OpBox (w : World) (o : Nat) (k : Int) (bv : Value) (i at_ m : Int) : Prop where
  lt : o < w.heap.size
  c0 : w.cell? ⟨o, 0, none⟩ = some (.int .i64 k)
  c1 : w.cell? ⟨o, 1, none⟩ = some bv
  c2 : w.cell? ⟨o, 2, none⟩ = some (.int .i64 i)
  c3 : w.cell? ⟨o, 3, none⟩ = some (.int .i64 at_)
  c4 : w.cell? ⟨o, 4, none⟩ = some (.int .u32 m)
theorem OpBox.keep {w w' : World} {o : Nat} {k : Int} {bv : Value} {i at_ m : Int} (h : OpBox w o k bv i at_ m) {S : Nat → Prop} (kp : Kp S w w') (hs : ¬ S o) : OpBox w' o k bv i at_ m :=
  ⟨Nat.lt_of_lt_of_le h.lt kp.size, by rw [kp.cell h.lt hs]; exact h.c0, by rw [kp.cell h.lt hs]; exact h.c1, by rw [kp.cell h.lt hs]; exact h.c2, by rw [kp.cell h.lt hs]; exact h.c3, by rw [kp.cell h.lt hs]; exact h.c4⟩
theorem OpBox.made (w : World) (k : Int) (bv : Value) (i at_ m : Int) (T : Nat) : OpBox (w.alloc (.cells #[.int .i64 k, bv, .int .i64 i, .int .i64 at_, .int .u32 m] T)) w.heap.size k bv i at_ m := by
  have hbx : ∀ j v, #[Value.int .i64 k, bv, .int .i64 i, .int .i64 at_, .int .u32 m][j]? = some v → (w.alloc (.cells #[.int .i64 k, bv, .int .i64 i, .int .i64 at_, .int .u32 m] T)).cell? ⟨w.heap.size, j, none⟩ = some v := fun j v hj => by
    rw [cell_of_row _ _ _ _ _ _ (heap_alloc_new _ _)]
    exact hj
  exact ⟨by simp, hbx 0 _ rfl, hbx 1 _ rfl, hbx 2 _ rfl, hbx 3 _ rfl, hbx 4 _ rfl⟩
set_option maxHeartbeats 3200000 in
theorem step_drop {w0 w : World} {F G : Nat → Prop} {g r n : Nat} {st : List (List UInt8 × Bool)} (h : TwoW w0 w F G g r n st st) {A : Option Addr} {L c : Nat} {i at_ : Int} {m : Int} :
    Calls Tryd.prog 18 #[.pointer (some ⟨g, 0, none⟩), .pointer (some ⟨r, 0, none⟩), .agg #[.int .i64 4, .slice A L c, .int .i64 i, .int .i64 at_, .int .u32 m]] w (StepP w0 w g r n) := by
  have kb := (Kp.refl (fun _ => False) w).alloc (.cells #[.int .i64 4, .slice A L c, .int .i64 i, .int .i64 at_, .int .u32 m] 49)
  have bx := OpBox.made w 4 (.slice A L c) i at_ m 49
  have b0 := bx.c0
  have H1 := Lib.hid (h.keepN kb)
  have hoS : ¬ (F w.heap.size ∨ G w.heap.size) := fun e => by
    rcases e with e | e
    · have := (h.fl _ e).2; omega
    · have := (h.gl _ e).2; omega
  have BX := Lib.hid bx
  clear h bx
  obtain ⟨o, ho⟩ : ∃ o, w.heap.size = o := ⟨_, rfl⟩
  rw [ho] at hoS BX b0
  obtain ⟨w1, hw1⟩ : ∃ w1, w.alloc (.cells #[.int .i64 4, .slice A L c, .int .i64 i, .int .i64 at_, .int .u32 m] 49) = w1 := ⟨_, rfl⟩
  have HW1 := Lib.hid hw1
  have HO := Lib.hid ho
  rw [hw1] at kb H1 BX b0
  clear hw1 ho
  go_enter Tryd.func18, Tryd.ntmps18
  go_wp2_with (first | ((with_reducible show wpList _ _ _ _ _ (World.alloc w _)); rw [HW1.out, HO.out]) | fail)
  refine rg_begin 10 (fun b => F b ∨ G b) (by kernel_rfl) (fun w2 d2 => ?_)
  have h2 := H1.out.keepN d2
  have bx2 := BX.out.keep d2 (fun x => x)
  refine rg_take 0 (d := (some 105)) (v := .pointer (some ⟨g, 0, none⟩)) (by decide) rfl rfl (by kernel_rfl) (by kernel_rfl) (by kernel_rfl) (fun _ _ _ h => h) rfl (fun W => rfl) ?_
  conv => arg 8; simp only [Act.put, List.setIfInBounds_toArray, List.set_cons_zero, List.set_cons_succ]
  refine rg_take 1 (d := (some 106)) (v := .pointer (some ⟨o, 2, none⟩)) (by decide) rfl rfl (by kernel_rfl) (by kernel_rfl) (by kernel_rfl) (fun _ _ _ h => h) rfl (fun W => by go_simp) ?_
  conv => arg 8; simp only [Act.put, List.setIfInBounds_toArray, List.set_cons_zero, List.set_cons_succ]
  refine rg_read 2 (d := (some 107)) (v := .int .i64 i) (by decide) (by kernel_rfl) (by kernel_rfl) rfl rfl (by kernel_rfl) (by kernel_rfl) (by kernel_rfl) (fun _ _ _ h => h) rfl (fun W hW => by have hc := (hW.cell (p := ⟨o, 2, none⟩) (bx2.lt) hoS).trans (bx2.c2); go_simp) ?_
  conv => arg 8; simp only [Act.put, List.setIfInBounds_toArray, List.set_cons_zero, List.set_cons_succ]
  refine rg_take 4 (d := (some 109)) (v := .pointer (some ⟨r, 0, none⟩)) (by decide) rfl rfl (by kernel_rfl) (by kernel_rfl) (by kernel_rfl) (fun _ _ _ h => h) rfl (fun W => rfl) ?_
  conv => arg 8; simp only [Act.put, List.setIfInBounds_toArray, List.set_cons_zero, List.set_cons_succ]
  refine rg_take 5 (d := (some 110)) (v := .pointer (some ⟨o, 2, none⟩)) (by decide) rfl rfl (by kernel_rfl) (by kernel_rfl) (by kernel_rfl) (fun _ _ _ h => h) rfl (fun W => by go_simp) ?_
  conv => arg 8; simp only [Act.put, List.setIfInBounds_toArray, List.set_cons_zero, List.set_cons_succ]
  refine rg_read 6 (d := (some 111)) (v := .int .i64 i) (by decide) (by kernel_rfl) (by kernel_rfl) rfl rfl (by kernel_rfl) (by kernel_rfl) (by kernel_rfl) (fun _ _ _ h => h) rfl (fun W hW => by have hc := (hW.cell (p := ⟨o, 2, none⟩) (bx2.lt) hoS).trans (bx2.c2); go_simp) ?_
  conv => arg 8; simp only [Act.put, List.setIfInBounds_toArray, List.set_cons_zero, List.set_cons_succ]
  refine rg_call 3 (d := (some 108)) (by kernel_rfl) (wdrop_x h2.p) rfl rfl (by kernel_rfl) rfl rfl ?_
  rintro e w3 ⟨rfl, F3, hX3, hG3, k3⟩
  refine ⟨_, rfl, k3.mono (fun _ _ x => .inl x), ?_⟩
  conv => arg 8; simp only [Act.put, List.setIfInBounds_toArray, List.set_cons_zero, List.set_cons_succ]
  have h3 := h2.left hX3 hG3 k3
  have bx3 := bx2.keep k3 (fun e => hoS (.inl e))
  refine rg_call 7 (d := (some 112)) (by kernel_rfl) (edrop_x h3.q) rfl rfl (by kernel_rfl) rfl rfl ?_
  rintro e w4 ⟨rfl, G4, hX4, hG4, k4⟩
  refine ⟨_, rfl, k4.mono (fun _ _ x => .inr x), ?_⟩
  conv => arg 8; simp only [Act.put, List.setIfInBounds_toArray, List.set_cons_zero, List.set_cons_succ]
  have h4 := h3.right hX4 hG4 k4
  refine rg_take 8 (d := (some 113)) (v := .bool true) (by decide) rfl rfl (by kernel_rfl) (by kernel_rfl) (by kernel_rfl) (fun _ _ _ h => h) rfl (fun W => by go_simp) ?_
  conv => arg 8; simp only [Act.put, List.setIfInBounds_toArray, List.set_cons_zero, List.set_cons_succ]
  refine rg_take 9 (d := (some 6)) (v := .bool true) (by decide) rfl rfl (by kernel_rfl) (by kernel_rfl) (by kernel_rfl) (fun _ _ _ h => h) rfl (fun W => rfl) ?_
  conv => arg 8; simp only [Act.put, List.setIfInBounds_toArray, List.set_cons_zero, List.set_cons_succ]
  refine rg_done (by kernel_rfl) ?_
  go_wp2
  go_ret
  exact ⟨rfl, by have := kb.size; have := d2.size; have := k3.size; have := k4.size; omega, F3, G4, _, h4⟩
set_option maxHeartbeats 3200000 in
theorem step_double {w0 w : World} {F G : Nat → Prop} {g r n : Nat} {st : List (List UInt8 × Bool)} (h : TwoW w0 w F G g r n st st) {A : Option Addr} {L c : Nat} {i at_ : Int} {m : Int} :
    Calls Tryd.prog 18 #[.pointer (some ⟨g, 0, none⟩), .pointer (some ⟨r, 0, none⟩), .agg #[.int .i64 5, .slice A L c, .int .i64 i, .int .i64 at_, .int .u32 m]] w (StepP w0 w g r n) := by
  have kb := (Kp.refl (fun _ => False) w).alloc (.cells #[.int .i64 5, .slice A L c, .int .i64 i, .int .i64 at_, .int .u32 m] 49)
  have bx := OpBox.made w 5 (.slice A L c) i at_ m 49
  have b0 := bx.c0
  have H1 := Lib.hid (h.keepN kb)
  have hoS : ¬ (F w.heap.size ∨ G w.heap.size) := fun e => by
    rcases e with e | e
    · have := (h.fl _ e).2; omega
    · have := (h.gl _ e).2; omega
  have BX := Lib.hid bx
  clear h bx
  obtain ⟨o, ho⟩ : ∃ o, w.heap.size = o := ⟨_, rfl⟩
  rw [ho] at hoS BX b0
  obtain ⟨w1, hw1⟩ : ∃ w1, w.alloc (.cells #[.int .i64 5, .slice A L c, .int .i64 i, .int .i64 at_, .int .u32 m] 49) = w1 := ⟨_, rfl⟩
  have HW1 := Lib.hid hw1
  have HO := Lib.hid ho
  rw [hw1] at kb H1 BX b0
  clear hw1 ho
  go_enter Tryd.func18, Tryd.ntmps18
  go_wp2_with (first | ((with_reducible show wpList _ _ _ _ _ (World.alloc w _)); rw [HW1.out, HO.out]) | fail)
  refine rg_begin 10 (fun b => F b ∨ G b) (by kernel_rfl) (fun w2 d2 => ?_)
  have h2 := H1.out.keepN d2
  have bx2 := BX.out.keep d2 (fun x => x)
  refine rg_take 0 (d := (some 116)) (v := .pointer (some ⟨g, 0, none⟩)) (by decide) rfl rfl (by kernel_rfl) (by kernel_rfl) (by kernel_rfl) (fun _ _ _ h => h) rfl (fun W => rfl) ?_
  conv => arg 8; simp only [Act.put, List.setIfInBounds_toArray, List.set_cons_zero, List.set_cons_succ]
  refine rg_take 1 (d := (some 117)) (v := .pointer (some ⟨o, 2, none⟩)) (by decide) rfl rfl (by kernel_rfl) (by kernel_rfl) (by kernel_rfl) (fun _ _ _ h => h) rfl (fun W => by go_simp) ?_
  conv => arg 8; simp only [Act.put, List.setIfInBounds_toArray, List.set_cons_zero, List.set_cons_succ]
  refine rg_read 2 (d := (some 118)) (v := .int .i64 i) (by decide) (by kernel_rfl) (by kernel_rfl) rfl rfl (by kernel_rfl) (by kernel_rfl) (by kernel_rfl) (fun _ _ _ h => h) rfl (fun W hW => by have hc := (hW.cell (p := ⟨o, 2, none⟩) (bx2.lt) hoS).trans (bx2.c2); go_simp) ?_
  conv => arg 8; simp only [Act.put, List.setIfInBounds_toArray, List.set_cons_zero, List.set_cons_succ]
  refine rg_take 4 (d := (some 120)) (v := .pointer (some ⟨r, 0, none⟩)) (by decide) rfl rfl (by kernel_rfl) (by kernel_rfl) (by kernel_rfl) (fun _ _ _ h => h) rfl (fun W => rfl) ?_
  conv => arg 8; simp only [Act.put, List.setIfInBounds_toArray, List.set_cons_zero, List.set_cons_succ]
  refine rg_take 5 (d := (some 121)) (v := .pointer (some ⟨o, 2, none⟩)) (by decide) rfl rfl (by kernel_rfl) (by kernel_rfl) (by kernel_rfl) (fun _ _ _ h => h) rfl (fun W => by go_simp) ?_
  conv => arg 8; simp only [Act.put, List.setIfInBounds_toArray, List.set_cons_zero, List.set_cons_succ]
  refine rg_read 6 (d := (some 122)) (v := .int .i64 i) (by decide) (by kernel_rfl) (by kernel_rfl) rfl rfl (by kernel_rfl) (by kernel_rfl) (by kernel_rfl) (fun _ _ _ h => h) rfl (fun W hW => by have hc := (hW.cell (p := ⟨o, 2, none⟩) (bx2.lt) hoS).trans (bx2.c2); go_simp) ?_
  conv => arg 8; simp only [Act.put, List.setIfInBounds_toArray, List.set_cons_zero, List.set_cons_succ]
  refine rg_call 3 (d := (some 119)) (by kernel_rfl) (way_double h2.p) rfl rfl (by kernel_rfl) rfl rfl ?_
  rintro e w3 ⟨rfl, F3, hX3, hG3, k3⟩
  refine ⟨_, rfl, k3.mono (fun _ _ x => .inl x), ?_⟩
  conv => arg 8; simp only [Act.put, List.setIfInBounds_toArray, List.set_cons_zero, List.set_cons_succ]
  have h3 := h2.left hX3 hG3 k3
  have bx3 := bx2.keep k3 (fun e => hoS (.inl e))
  refine rg_call 7 (d := (some 123)) (by kernel_rfl) (edouble_c h3.q) rfl rfl (by kernel_rfl) rfl rfl ?_
  rintro e w4 ⟨rfl, G4, hX4, hG4, k4⟩
  refine ⟨_, rfl, k4.mono (fun _ _ x => .inr x), ?_⟩
  conv => arg 8; simp only [Act.put, List.setIfInBounds_toArray, List.set_cons_zero, List.set_cons_succ]
  have h4 := h3.right hX4 hG4 k4
  refine rg_take 8 (d := (some 124)) (v := .bool true) (by decide) rfl rfl (by kernel_rfl) (by kernel_rfl) (by kernel_rfl) (fun _ _ _ h => h) rfl (fun W => by go_simp) ?_
  conv => arg 8; simp only [Act.put, List.setIfInBounds_toArray, List.set_cons_zero, List.set_cons_succ]
  refine rg_take 9 (d := (some 6)) (v := .bool true) (by decide) rfl rfl (by kernel_rfl) (by kernel_rfl) (by kernel_rfl) (fun _ _ _ h => h) rfl (fun W => rfl) ?_
  conv => arg 8; simp only [Act.put, List.setIfInBounds_toArray, List.set_cons_zero, List.set_cons_succ]
  refine rg_done (by kernel_rfl) ?_
  go_wp2
  go_ret
  exact ⟨rfl, by have := kb.size; have := d2.size; have := k3.size; have := k4.size; omega, F3, G4, _, h4⟩
set_option maxHeartbeats 3200000 in
theorem step_turn {w0 w : World} {F G : Nat → Prop} {g r n : Nat} {st : List (List UInt8 × Bool)} (h : TwoW w0 w F G g r n st st) {A : Option Addr} {L c : Nat} {i at_ : Int} {m : Nat} (hbo : BitsOk w) (ha : -9223372036854775808 ≤ at_ ∧ at_ ≤ 9223372036854775807) (hm : m < 4294967296) :
    Calls Tryd.prog 18 #[.pointer (some ⟨g, 0, none⟩), .pointer (some ⟨r, 0, none⟩), .agg #[.int .i64 6, .slice A L c, .int .i64 i, .int .i64 at_, .int .u32 (m : Int)]] w (StepP w0 w g r n) := by
  have kb := (Kp.refl (fun _ => False) w).alloc (.cells #[.int .i64 6, .slice A L c, .int .i64 i, .int .i64 at_, .int .u32 (m : Int)] 49)
  have bx := OpBox.made w 6 (.slice A L c) i at_ (m : Int) 49
  have b0 := bx.c0
  have H1 := Lib.hid (h.keepN kb)
  have hoS : ¬ (F w.heap.size ∨ G w.heap.size) := fun e => by
    rcases e with e | e
    · have := (h.fl _ e).2; omega
    · have := (h.gl _ e).2; omega
  have BX := Lib.hid bx
  clear h bx
  obtain ⟨o, ho⟩ : ∃ o, w.heap.size = o := ⟨_, rfl⟩
  rw [ho] at hoS BX b0
  obtain ⟨w1, hw1⟩ : ∃ w1, w.alloc (.cells #[.int .i64 6, .slice A L c, .int .i64 i, .int .i64 at_, .int .u32 (m : Int)] 49) = w1 := ⟨_, rfl⟩
  have HW1 := Lib.hid hw1
  have HO := Lib.hid ho
  rw [hw1] at kb H1 BX b0
  clear hw1 ho
  go_enter Tryd.func18, Tryd.ntmps18
  go_wp2_with (first | ((with_reducible show wpList _ _ _ _ _ (World.alloc w _)); rw [HW1.out, HO.out]) | fail)
  refine rg_begin 18 (fun b => F b ∨ G b) (by kernel_rfl) (fun w2 d2 => ?_)
  have h2 := H1.out.keepN d2
  have bx2 := BX.out.keep d2 (fun x => x)
  refine rg_take 0 (d := (some 127)) (v := .pointer (some ⟨g, 0, none⟩)) (by decide) rfl rfl (by kernel_rfl) (by kernel_rfl) (by kernel_rfl) (fun _ _ _ h => h) rfl (fun W => rfl) ?_
  conv => arg 8; simp only [Act.put, List.setIfInBounds_toArray, List.set_cons_zero, List.set_cons_succ]
  refine rg_take 1 (d := (some 128)) (v := .pointer (some ⟨o, 2, none⟩)) (by decide) rfl rfl (by kernel_rfl) (by kernel_rfl) (by kernel_rfl) (fun _ _ _ h => h) rfl (fun W => by go_simp) ?_
  conv => arg 8; simp only [Act.put, List.setIfInBounds_toArray, List.set_cons_zero, List.set_cons_succ]
  refine rg_read 2 (d := (some 129)) (v := .int .i64 i) (by decide) (by kernel_rfl) (by kernel_rfl) rfl rfl (by kernel_rfl) (by kernel_rfl) (by kernel_rfl) (fun _ _ _ h => h) rfl (fun W hW => by have hc := (hW.cell (p := ⟨o, 2, none⟩) (bx2.lt) hoS).trans (bx2.c2); go_simp) ?_
  conv => arg 8; simp only [Act.put, List.setIfInBounds_toArray, List.set_cons_zero, List.set_cons_succ]
  refine rg_take 3 (d := (some 130)) (v := .pointer (some ⟨o, 3, none⟩)) (by decide) rfl rfl (by kernel_rfl) (by kernel_rfl) (by kernel_rfl) (fun _ _ _ h => h) rfl (fun W => by go_simp) ?_
  conv => arg 8; simp only [Act.put, List.setIfInBounds_toArray, List.set_cons_zero, List.set_cons_succ]
  refine rg_read 4 (d := (some 131)) (v := .int .i64 at_) (by decide) (by kernel_rfl) (by kernel_rfl) rfl rfl (by kernel_rfl) (by kernel_rfl) (by kernel_rfl) (fun _ _ _ h => h) rfl (fun W hW => by have hc := (hW.cell (p := ⟨o, 3, none⟩) (bx2.lt) hoS).trans (bx2.c3); go_simp) ?_
  conv => arg 8; simp only [Act.put, List.setIfInBounds_toArray, List.set_cons_zero, List.set_cons_succ]
  refine rg_take 5 (d := (some 132)) (v := .pointer (some ⟨o, 4, none⟩)) (by decide) rfl rfl (by kernel_rfl) (by kernel_rfl) (by kernel_rfl) (fun _ _ _ h => h) rfl (fun W => by go_simp) ?_
  conv => arg 8; simp only [Act.put, List.setIfInBounds_toArray, List.set_cons_zero, List.set_cons_succ]
  refine rg_read 6 (d := (some 133)) (v := .int .u32 m) (by decide) (by kernel_rfl) (by kernel_rfl) rfl rfl (by kernel_rfl) (by kernel_rfl) (by kernel_rfl) (fun _ _ _ h => h) rfl (fun W hW => by have hc := (hW.cell (p := ⟨o, 4, none⟩) (bx2.lt) hoS).trans (bx2.c4); go_simp) ?_
  conv => arg 8; simp only [Act.put, List.setIfInBounds_toArray, List.set_cons_zero, List.set_cons_succ]
  refine rg_take 8 (d := (some 135)) (v := .pointer (some ⟨r, 0, none⟩)) (by decide) rfl rfl (by kernel_rfl) (by kernel_rfl) (by kernel_rfl) (fun _ _ _ h => h) rfl (fun W => rfl) ?_
  conv => arg 8; simp only [Act.put, List.setIfInBounds_toArray, List.set_cons_zero, List.set_cons_succ]
  refine rg_take 9 (d := (some 136)) (v := .pointer (some ⟨o, 2, none⟩)) (by decide) rfl rfl (by kernel_rfl) (by kernel_rfl) (by kernel_rfl) (fun _ _ _ h => h) rfl (fun W => by go_simp) ?_
  conv => arg 8; simp only [Act.put, List.setIfInBounds_toArray, List.set_cons_zero, List.set_cons_succ]
  refine rg_read 10 (d := (some 137)) (v := .int .i64 i) (by decide) (by kernel_rfl) (by kernel_rfl) rfl rfl (by kernel_rfl) (by kernel_rfl) (by kernel_rfl) (fun _ _ _ h => h) rfl (fun W hW => by have hc := (hW.cell (p := ⟨o, 2, none⟩) (bx2.lt) hoS).trans (bx2.c2); go_simp) ?_
  conv => arg 8; simp only [Act.put, List.setIfInBounds_toArray, List.set_cons_zero, List.set_cons_succ]
  refine rg_take 11 (d := (some 138)) (v := .pointer (some ⟨o, 3, none⟩)) (by decide) rfl rfl (by kernel_rfl) (by kernel_rfl) (by kernel_rfl) (fun _ _ _ h => h) rfl (fun W => by go_simp) ?_
  conv => arg 8; simp only [Act.put, List.setIfInBounds_toArray, List.set_cons_zero, List.set_cons_succ]
  refine rg_read 12 (d := (some 139)) (v := .int .i64 at_) (by decide) (by kernel_rfl) (by kernel_rfl) rfl rfl (by kernel_rfl) (by kernel_rfl) (by kernel_rfl) (fun _ _ _ h => h) rfl (fun W hW => by have hc := (hW.cell (p := ⟨o, 3, none⟩) (bx2.lt) hoS).trans (bx2.c3); go_simp) ?_
  conv => arg 8; simp only [Act.put, List.setIfInBounds_toArray, List.set_cons_zero, List.set_cons_succ]
  refine rg_take 13 (d := (some 140)) (v := .pointer (some ⟨o, 4, none⟩)) (by decide) rfl rfl (by kernel_rfl) (by kernel_rfl) (by kernel_rfl) (fun _ _ _ h => h) rfl (fun W => by go_simp) ?_
  conv => arg 8; simp only [Act.put, List.setIfInBounds_toArray, List.set_cons_zero, List.set_cons_succ]
  refine rg_read 14 (d := (some 141)) (v := .int .u32 m) (by decide) (by kernel_rfl) (by kernel_rfl) rfl rfl (by kernel_rfl) (by kernel_rfl) (by kernel_rfl) (fun _ _ _ h => h) rfl (fun W hW => by have hc := (hW.cell (p := ⟨o, 4, none⟩) (bx2.lt) hoS).trans (bx2.c4); go_simp) ?_
  conv => arg 8; simp only [Act.put, List.setIfInBounds_toArray, List.set_cons_zero, List.set_cons_succ]
  refine rg_call 7 (d := (some 134)) (by kernel_rfl) (way_turn h2.p (hbo.keepN (kb.thenN d2)) ha hm) rfl rfl (by kernel_rfl) rfl rfl ?_
  rintro e w3 ⟨rfl, F3, hX3, hG3, k3⟩
  refine ⟨_, rfl, k3.mono (fun _ _ x => .inl x), ?_⟩
  conv => arg 8; simp only [Act.put, List.setIfInBounds_toArray, List.set_cons_zero, List.set_cons_succ]
  have h3 := h2.left hX3 hG3 k3
  have bx3 := bx2.keep k3 (fun e => hoS (.inl e))
  refine rg_call 15 (d := (some 142)) (by kernel_rfl) (eturn_c h3.q ha hm) rfl rfl (by kernel_rfl) rfl rfl ?_
  rintro e w4 ⟨rfl, G4, hX4, hG4, k4⟩
  refine ⟨_, rfl, k4.mono (fun _ _ x => .inr x), ?_⟩
  conv => arg 8; simp only [Act.put, List.setIfInBounds_toArray, List.set_cons_zero, List.set_cons_succ]
  have h4 := h3.right hX4 hG4 k4
  refine rg_take 16 (d := (some 143)) (v := .bool true) (by decide) rfl rfl (by kernel_rfl) (by kernel_rfl) (by kernel_rfl) (fun _ _ _ h => h) rfl (fun W => by go_simp) ?_
  conv => arg 8; simp only [Act.put, List.setIfInBounds_toArray, List.set_cons_zero, List.set_cons_succ]
  refine rg_take 17 (d := (some 6)) (v := .bool true) (by decide) rfl rfl (by kernel_rfl) (by kernel_rfl) (by kernel_rfl) (fun _ _ _ h => h) rfl (fun W => rfl) ?_
  conv => arg 8; simp only [Act.put, List.setIfInBounds_toArray, List.set_cons_zero, List.set_cons_succ]
  refine rg_done (by kernel_rfl) ?_
  go_wp2
  go_ret
  exact ⟨rfl, by have := kb.size; have := d2.size; have := k3.size; have := k4.size; omega, F3, G4, _, h4⟩
end Go.Proofs.YteokkpmndfekoaaDoor
