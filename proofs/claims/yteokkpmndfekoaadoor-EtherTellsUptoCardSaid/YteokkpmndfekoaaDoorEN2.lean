/- EtherCalls: a step: Len, Look, Take. -/
import Derived.Test.YteokkpmndfekoaaDoorEM
namespace Go.Proofs.YteokkpmndfekoaaDoor
open Go Go.RowKit
set_option maxRecDepth 100000

theorem wlen_x {w : World} {F : Nat → Prop} {g n : Nat} {st : List (List UInt8 × Bool)} (h : WayX true PT w F g n st) : Calls Tryd.prog 9 #[.pointer (some ⟨g, 0, none⟩)] w fun e w' => e = .returned (.int .i64 (st.length : Int)) ∧ w = w' := by
  obtain ⟨v, ls, h, rfl⟩ := h
  rw [stOf_len]
  exact way_len h
set_option maxHeartbeats 3200000 in
theorem step_len {w0 w : World} {F G : Nat → Prop} {g r n : Nat} {st : List (List UInt8 × Bool)} (h : TwoW w0 w F G g r n st st) {A : Option Addr} {L c : Nat} {k i at_ m : Int}  (h1 : (k == 1) = false) (h2 : (k == 2) = false) (h3 : (k == 3) = false) (h4 : (k == 4) = false) (h5 : (k == 5) = false) (h6 : (k == 6) = false):
    Calls Tryd.prog 18 #[.pointer (some ⟨g, 0, none⟩), .pointer (some ⟨r, 0, none⟩), .agg #[.int .i64 k, .slice A L c, .int .i64 i, .int .i64 at_, .int .u32 m]] w (StepP w0 w g r n) := by
  have kb := (Kp.refl (fun _ => False) w).alloc (.cells #[.int .i64 k, .slice A L c, .int .i64 i, .int .i64 at_, .int .u32 m] 49)
  have bx := OpBox.made w k (.slice A L c) i at_ m 49
  have b0 := bx.c0
  have H1 := Lib.hid (h.keepN kb)
  have hoS : ¬ (F w.heap.size ∨ G w.heap.size) := fun e => by
    rcases e with e | e
    · have := (h.fl _ e).2; omega
    · have := (h.gl _ e).2; omega
  have BX := Lib.hid bx
  clear h bx
  obtain ⟨o, ho⟩ : ∃ o, w.heap.size = o := ⟨_, rfl⟩
  rw [ho] at hoS BX b0
  obtain ⟨w1, hw1⟩ : ∃ w1, w.alloc (.cells #[.int .i64 k, .slice A L c, .int .i64 i, .int .i64 at_, .int .u32 m] 49) = w1 := ⟨_, rfl⟩
  have HW1 := Lib.hid hw1
  have HO := Lib.hid ho
  rw [hw1] at kb H1 BX b0
  clear hw1 ho
  go_enter Tryd.func18, Tryd.ntmps18
  go_wp2_with (first | ((with_reducible show wpList _ _ _ _ _ (World.alloc w _)); rw [HW1.out, HO.out]) | fail)
  refine rg_begin 9 (fun _ => False) (by kernel_rfl) (fun w2 d2 => ?_)
  have hh2 := H1.out.keepN d2
  obtain ⟨A2, c2, hrow⟩ := hh2.q.row
  obtain ⟨q, hq⟩ : ∃ q, st.length = q := ⟨_, rfl⟩
  have hlen := wlen_x hh2.p
  rw [hq] at hrow hlen
  refine rg_take 0 (d := (some 144)) (v := .pointer (some ⟨g, 0, none⟩)) (by decide) rfl rfl (by kernel_rfl) (by kernel_rfl) (by kernel_rfl) (fun _ _ _ h => h) rfl (fun W => rfl) ?_
  conv => arg 8; simp only [Act.put, List.setIfInBounds_toArray, List.set_cons_zero, List.set_cons_succ]
  refine rg_take 2 (d := (some 146)) (v := .pointer (some ⟨r, 0, none⟩)) (by decide) rfl rfl (by kernel_rfl) (by kernel_rfl) (by kernel_rfl) (fun _ _ _ h => h) rfl (fun W => rfl) ?_
  conv => arg 8; simp only [Act.put, List.setIfInBounds_toArray, List.set_cons_zero, List.set_cons_succ]
  refine rg_take 3 (d := (some 147)) (v := .pointer (some ⟨r, 0, none⟩)) (by decide) rfl rfl (by kernel_rfl) (by kernel_rfl) (by kernel_rfl) (fun _ _ _ h => h) rfl (fun W => by go_simp) ?_
  conv => arg 8; simp only [Act.put, List.setIfInBounds_toArray, List.set_cons_zero, List.set_cons_succ]
  refine rg_take 4 (d := (some 148)) (v := .pointer (some ⟨r, 1, none⟩)) (by decide) rfl rfl (by kernel_rfl) (by kernel_rfl) (by kernel_rfl) (fun _ _ _ h => h) rfl (fun W => by go_simp) ?_
  conv => arg 8; simp only [Act.put, List.setIfInBounds_toArray, List.set_cons_zero, List.set_cons_succ]
  refine rg_read 5 (d := (some 149)) (v := .slice A2 q c2) (by decide) (by kernel_rfl) (by kernel_rfl) rfl rfl (by kernel_rfl) (by kernel_rfl) (by kernel_rfl) (fun _ _ _ h => h) rfl (fun W hW => by have hc := (hW.cell (p := ⟨r, 1, none⟩) (hh2.q.lt) (fun x => x)).trans (hrow); go_simp) ?_
  conv => arg 8; simp only [Act.put, List.setIfInBounds_toArray, List.set_cons_zero, List.set_cons_succ]
  refine rg_take 6 (d := (some 150)) (v := .int .i64 q) (by decide) rfl rfl (by kernel_rfl) (by kernel_rfl) (by kernel_rfl) (fun _ _ _ h => h) rfl (fun W => by go_simp) ?_
  conv => arg 8; simp only [Act.put, List.setIfInBounds_toArray, List.set_cons_zero, List.set_cons_succ]
  refine rg_call 1 (d := (some 145)) (by kernel_rfl) (hlen) rfl rfl (by kernel_rfl) rfl rfl ?_
  rintro e w3 ⟨rfl, rfl⟩
  refine ⟨_, rfl, Kp.refl _ _, ?_⟩
  conv => arg 8; simp only [Act.put, List.setIfInBounds_toArray, List.set_cons_zero, List.set_cons_succ]
  refine rg_take 7 (d := (some 151)) (v := .bool true) (by decide) rfl rfl (by kernel_rfl) (by kernel_rfl) (by kernel_rfl) (fun _ _ _ h => h) rfl (fun W => by go_simp) ?_
  conv => arg 8; simp only [Act.put, List.setIfInBounds_toArray, List.set_cons_zero, List.set_cons_succ]
  refine rg_take 8 (d := (some 6)) (v := .bool true) (by decide) rfl rfl (by kernel_rfl) (by kernel_rfl) (by kernel_rfl) (fun _ _ _ h => h) rfl (fun W => rfl) ?_
  conv => arg 8; simp only [Act.put, List.setIfInBounds_toArray, List.set_cons_zero, List.set_cons_succ]
  refine rg_done (by kernel_rfl) ?_
  go_wp2
  go_ret
  exact ⟨rfl, by have := kb.size; have := d2.size; omega, F, G, st, hh2⟩
set_option maxHeartbeats 3200000 in
theorem step_look {w0 w : World} {F G : Nat → Prop} {g r n : Nat} {st : List (List UInt8 × Bool)} (h : TwoW w0 w F G g r n st st) {A : Option Addr} {L c : Nat} {i at_ m : Int} :
    Calls Tryd.prog 18 #[.pointer (some ⟨g, 0, none⟩), .pointer (some ⟨r, 0, none⟩), .agg #[.int .i64 2, .slice A L c, .int .i64 i, .int .i64 at_, .int .u32 m]] w (StepP w0 w g r n) := by
  have kb := (Kp.refl (fun _ => False) w).alloc (.cells #[.int .i64 2, .slice A L c, .int .i64 i, .int .i64 at_, .int .u32 m] 49)
  have bx := OpBox.made w 2 (.slice A L c) i at_ m 49
  have b0 := bx.c0
  have H1 := Lib.hid (h.keepN kb)
  have hoS : ¬ (F w.heap.size ∨ G w.heap.size) := fun e => by
    rcases e with e | e
    · have := (h.fl _ e).2; omega
    · have := (h.gl _ e).2; omega
  have BX := Lib.hid bx
  clear h bx
  obtain ⟨o, ho⟩ : ∃ o, w.heap.size = o := ⟨_, rfl⟩
  rw [ho] at hoS BX b0
  obtain ⟨w1, hw1⟩ : ∃ w1, w.alloc (.cells #[.int .i64 2, .slice A L c, .int .i64 i, .int .i64 at_, .int .u32 m] 49) = w1 := ⟨_, rfl⟩
  have HW1 := Lib.hid hw1
  have HO := Lib.hid ho
  rw [hw1] at kb H1 BX b0
  clear hw1 ho
  have b2 := BX.out.c2
  go_enter Tryd.func18, Tryd.ntmps18
  go_wp2_with (first | ((with_reducible show wpList _ _ _ _ _ (World.alloc w _)); rw [HW1.out, HO.out]) | fail)
  refine (wlook_x H1.out.p).mono ?_
  rintro e w2 h2
  rcases hx : atS st i with _ | d
  · rw [hx] at h2
    obtain ⟨rfl, k2⟩ := h2
    have t2 := H1.out.keepN k2
    have b22 := (BX.out.keep k2 (fun x => x)).c2
    have hL := elook_x (i := i) t2.q
    rw [hx] at hL
    have HT := Lib.hid t2
    clear t2 b2
    go_wp2_with fail
    refine hL.mono ?_
    rintro e w3 ⟨rfl, k3⟩
    have r1 := run_toStr (P := Tryd.prog) (w := w3) Tryd.underlying26 Tryd.underlying5 Tryd.underlying9 (RdB.nil w3)
    go_wp2_with (first | ((with_reducible show wpList _ _ _ (Oper.mk _ (Op.convert _ _ _) _ _ _ _ :: _) _ _); refine conv_opg r1 rfl rfl ?_) | fail)
    go_ret
    exact ⟨rfl, by have := kb.size; have := k2.size; have := k3.size; omega, F, G, st, HT.out.keepN k3⟩
  · rw [hx] at h2
    obtain ⟨u, rfl, ou, k2⟩ := h2
    have t2 := H1.out.keepN k2
    have b22 := (BX.out.keep k2 (fun x => x)).c2
    have hL := elook_x (i := i) t2.q
    rw [hx] at hL
    have HT := Lib.hid t2
    have HU := Lib.hid ou.readsB
    clear t2 b2 ou
    go_wp2_with fail
    refine hL.mono ?_
    rintro e w3 ⟨u3, rfl, ou3, k3⟩
    have r1 := run_toStr (P := Tryd.prog) (w := w3) Tryd.underlying26 Tryd.underlying5 Tryd.underlying9 (HU.out.keepN k3)
    have r2 := run_toStr (P := Tryd.prog) (w := w3) Tryd.underlying26 Tryd.underlying5 Tryd.underlying9 ou3.readsB
    clear ou3
    go_wp2_with (first | ((with_reducible show wpList _ _ _ (Oper.mk _ (Op.convert _ _ _) _ _ _ _ :: _) _ _); first | refine conv_opg r1 rfl rfl ?_ | refine conv_opg r2 rfl rfl ?_) | fail)
    go_ret
    exact ⟨rfl, by have := kb.size; have := k2.size; have := k3.size; omega, F, G, st, HT.out.keepN k3⟩
set_option maxHeartbeats 3200000 in
theorem step_take {w0 w : World} {F G : Nat → Prop} {g r n : Nat} {st : List (List UInt8 × Bool)} (h : TwoW w0 w F G g r n st st) {A : Option Addr} {L c : Nat} {i at_ m : Int} :
    Calls Tryd.prog 18 #[.pointer (some ⟨g, 0, none⟩), .pointer (some ⟨r, 0, none⟩), .agg #[.int .i64 3, .slice A L c, .int .i64 i, .int .i64 at_, .int .u32 m]] w (StepP w0 w g r n) := by
  have kb := (Kp.refl (fun _ => False) w).alloc (.cells #[.int .i64 3, .slice A L c, .int .i64 i, .int .i64 at_, .int .u32 m] 49)
  have bx := OpBox.made w 3 (.slice A L c) i at_ m 49
  have b0 := bx.c0
  have H1 := Lib.hid (h.keepN kb)
  have hoS : ¬ (F w.heap.size ∨ G w.heap.size) := fun e => by
    rcases e with e | e
    · have := (h.fl _ e).2; omega
    · have := (h.gl _ e).2; omega
  have BX := Lib.hid bx
  clear h bx
  obtain ⟨o, ho⟩ : ∃ o, w.heap.size = o := ⟨_, rfl⟩
  rw [ho] at hoS BX b0
  obtain ⟨w1, hw1⟩ : ∃ w1, w.alloc (.cells #[.int .i64 3, .slice A L c, .int .i64 i, .int .i64 at_, .int .u32 m] 49) = w1 := ⟨_, rfl⟩
  have HW1 := Lib.hid hw1
  have HO := Lib.hid ho
  rw [hw1] at kb H1 BX b0
  clear hw1 ho
  have b2 := BX.out.c2
  go_enter Tryd.func18, Tryd.ntmps18
  go_wp2_with (first | ((with_reducible show wpList _ _ _ _ _ (World.alloc w _)); rw [HW1.out, HO.out]) | fail)
  rcases hx : atS st i with _ | d
  · refine (way_take_out H1.out.p hx).mono ?_
    rintro e w2 ⟨rfl, k2⟩
    have t2 := H1.out.keepN k2
    have b22 := (BX.out.keep k2 (fun x => x)).c2
    have hL := etake_x (i := i) t2.q
    rw [hx] at hL
    have HT := Lib.hid t2
    clear t2 b2
    go_wp2_with fail
    refine hL.mono ?_
    rintro e w3 ⟨rfl, k3⟩
    have r1 := run_toStr (P := Tryd.prog) (w := w3) Tryd.underlying26 Tryd.underlying5 Tryd.underlying9 (RdB.nil w3)
    go_wp2_with (first | ((with_reducible show wpList _ _ _ (Oper.mk _ (Op.convert _ _ _) _ _ _ _ :: _) _ _); refine conv_opg r1 rfl rfl ?_) | fail)
    go_ret
    exact ⟨rfl, by have := kb.size; have := k2.size; have := k3.size; omega, F, G, st, HT.out.keepN k3⟩
  · obtain ⟨j, rfl, hj, rfl⟩ := atS_some hx
    refine (way_take H1.out.p hj).mono ?_
    rintro e w2 ⟨u, rfl, ou, hX2, k2⟩
    have t2 := H1.out.left hX2 (Gr.refl _ _ _) k2
    have b22 := (BX.out.keep k2 (fun e => hoS (.inl e))).c2
    have hL := etake_x (i := (j : Int)) t2.q
    rw [hx, Int.toNat_natCast] at hL
    have hgu : ∀ b, u.ownBlock = some b → ¬ G b := fun b hb hG => by
      have := (ou.fit b hb).1
      have := (H1.out.gl b hG).2
      omega
    have HT := Lib.hid t2
    have HU := Lib.hid (And.intro ou.readsB hgu)
    clear t2 b2 ou hgu hX2 hx
    generalize st[j] = d at *
    go_wp2_with fail
    refine hL.mono ?_
    rintro e w3 ⟨u3, rfl, ou3, F3, hX3, hG3, k3⟩
    have r1 := run_toStr (P := Tryd.prog) (w := w3) Tryd.underlying26 Tryd.underlying5 Tryd.underlying9 (HU.out.1.keep k3 HU.out.2)
    have r2 := run_toStr (P := Tryd.prog) (w := w3) Tryd.underlying26 Tryd.underlying5 Tryd.underlying9 ou3
    have HF := Lib.hid (HT.out.right hX3 hG3 k3)
    clear ou3 hX3 hG3
    go_wp2_with (first | ((with_reducible show wpList _ _ _ (Oper.mk _ (Op.convert _ _ _) _ _ _ _ :: _) _ _); first | refine conv_opg r1 rfl rfl ?_ | refine conv_opg r2 rfl rfl ?_) | fail)
    go_ret
    exact ⟨rfl, by have := kb.size; have := k2.size; have := k3.size; omega, F, F3, _, HF.out⟩
end Go.Proofs.YteokkpmndfekoaaDoor
