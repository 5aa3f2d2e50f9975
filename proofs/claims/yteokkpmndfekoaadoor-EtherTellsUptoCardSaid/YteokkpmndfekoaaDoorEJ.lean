/- The document's way: Take, Drop, Turn. -/
import Derived.Test.YteokkpmndfekoaaDoorEI
namespace Go.Proofs.YteokkpmndfekoaaDoor
open Go Go.RowKit
set_option maxRecDepth 100000
-- %lastw

theorem etake_no {T : Nat} {w : World} {F : Nat → Prop} {g n : Nat} {st : List (List UInt8 × Bool)} {i : Int} (hX : WayX false T w F g n st) (hi : atS st i = none) :
    Calls Tryd.prog 33 #[.pointer (some ⟨g, 0, none⟩), .int .i64 i] w (BnoP w 4) := by
  have hM := elook_no hX hi
  clear hX hi
  go_enter Tryd.func33, Tryd.ntmps33
  go_wp2_with fail
  refine hM.mono ?_
  rintro e w2 ⟨rfl, k2⟩
  go_wp2
  go_ret2
  exact ⟨rfl, k2⟩
theorem edrop_no {T : Nat} {w : World} {F : Nat → Prop} {g n : Nat} {st : List (List UInt8 × Bool)} {i : Int} (hX : WayX false T w F g n st) (hi : atS st i = none) :
    Calls Tryd.prog 34 #[.pointer (some ⟨g, 0, none⟩), .int .i64 i] w fun e w' => e = .returned (.int .i64 4) ∧ KpN w w' := by
  have hM := etake_no hX hi
  clear hX hi
  go_enter Tryd.func34, Tryd.ntmps34
  go_wp2_with fail
  refine hM.mono ?_
  rintro e w2 ⟨rfl, k2⟩
  go_wp2
  go_ret
  exact ⟨rfl, k2⟩
/-- a datagram is handed out, and is there no more -/
def ETakeP (w : World) (F : Nat → Prop) (g n : Nat) (xs : List UInt8) (st : List (List UInt8 × Bool)) (e : Ending) (w' : World) : Prop :=
  ∃ u, e = .returned (.tuple #[u, .int .i64 0]) ∧ RdB w' u xs ∧ ∃ F', WayX false 81 w' F' g n st ∧ Gr w w' F F' ∧ Kp F w w'
theorem RdC.dropR {w : World} {size n c g : Nat} {cs : List Value} (h : RdC w size (.slice (some ⟨g, 0, none⟩) n c) n cs) (k : Nat) (hk : k ≤ n) {A : Addr} (hA : A = ⟨g, k * size, none⟩ ∨ n = k) : RdC w size (.slice (some A) (n - k) (c - k)) (n - k) (cs.drop (k * size)) := by
  obtain ⟨hl, A', c', hv, hc, hr⟩ := h
  injection hv with h1 h2 h3
  subst h1 h3
  refine ⟨by rw [List.length_drop, hl, Nat.sub_mul], some A, c - k, rfl, by omega, fun j u hu => ⟨A, rfl, ?_⟩⟩
  have hj := (List.getElem?_eq_some_iff.1 hu).1
  rw [List.length_drop, hl] at hj
  rcases hA with rfl | rfl
  · rw [List.getElem?_drop] at hu
    obtain ⟨ad', he, hcell⟩ := hr (k * size + j) u hu
    injection he with he
    subst he
    rw [show (⟨g, k * size, none⟩ : Addr).add j = (⟨g, 0, none⟩ : Addr).add (k * size + j) by rw [add_plain']; unfold Addr.add; split <;> simp_all]
    exact hcell
  · omega
set_option maxHeartbeats 3200000 in
theorem etake_yes {w : World} {F : Nat → Prop} {g n : Nat} {st : List (List UInt8 × Bool)} {j : Nat} (hX : WayX false 81 w F g n st) (hj : j < st.length) :
    Calls Tryd.prog 33 #[.pointer (some ⟨g, 0, none⟩), .int .i64 (j : Int)] w (ETakeP w F g n st[j].1 (st.eraseIdx j)) := by
  obtain ⟨v, ls, h0, rfl⟩ := hX
  have h := h0.wide (G := fun k => F k ∧ k < w.heap.size) (fun k hk hf => ⟨hf, hk⟩)
  rw [stOf_len] at hj
  have hM := elook_yes h hj
  rw [stOf_get ls j hj]
  generalize ls[j].b = xs at *
  obtain ⟨gr, vc, rfl, hFg, hvc⟩ := h.r.form (by omega)
  obtain ⟨m, hm⟩ : ∃ m, ls.length = m := ⟨_, rfl⟩
  have hgr : gr < w.heap.size := h.r.row.lt gr rfl
  have c1 := h.c1
  have hn2 := h.n2
  have hle := h.le
  rw [hm] at c1 h h0 hj hvc hle
  have HH := Lib.hid (And.intro h hm)
  have HF0 := Lib.hid (And.intro h0.fit (h0.r.row.fit gr rfl))
  have hgl := h.lt
  have hne : gr ≠ g := fun e => h.ne (by rw [e]; rfl)
  have hfg : w.frozen? ⟨g, 1, none⟩ = false := h.fz 1
  clear h h0
  go_enter Tryd.func33, Tryd.ntmps33
  go_wp2_with fail
  refine hM.mono ?_
  rintro e w2 ⟨u, rfl, ou, k2⟩
  have c12 : w2.cell? ⟨g, 1, none⟩ = some (.slice (some ⟨gr, 0, none⟩) m vc) := by rw [k2.cell hgl (fun x => x)]; exact c1
  have h2 := HH.out.1.keepN k2
  have hrow := h2.r.row
  rw [HH.out.2] at hrow
  have hone := dgCs_one_cell false ls h2.r.all.each
  obtain ⟨v3, w3, r3, o3, k3, e3⟩ := run_app (P := Tryd.prog) w2 (ty := 50) Tryd.underlying50 dgInfoR rfl (by omega) (F := fun _ => False) (OwC.nil w2 81 2 _) (hrow.reads.take j (by omega)) (fun u hu => hone u (List.mem_of_mem_take hu)) (by omega) (by omega)
  rw [List.nil_append] at o3
  have k3 : KpN w2 w3 := k3.mono (fun i _ hi => by simp [Value.ownBlock] at hi)
  have hrow3 := hrow.keepN k3
  obtain ⟨A, hA, hA2⟩ : ∃ A, (if vc = j + 1 then some (⟨gr, 0, none⟩ : Addr) else some ⟨gr, (j + 1) * 2, none⟩) = some A ∧ (A = ⟨gr, (j + 1) * 2, none⟩ ∨ m = j + 1) := by
    split
    · exact ⟨_, rfl, .inr (by omega)⟩
    · exact ⟨_, rfl, .inl rfl⟩
  have hrd4 := hrow3.reads.dropR (j + 1) (by omega) hA2
  obtain ⟨v4, w4, r4, o4, k4, e4⟩ := run_app (P := Tryd.prog) w3 (ty := 50) Tryd.underlying50 dgInfoR rfl (by omega) o3 hrd4 (fun u hu => hone u (List.mem_of_mem_drop hu)) (by omega) (by omega)
  have hb3 : ∀ i, v3.ownBlock = some i → w2.heap.size ≤ i := fun i hi => by
    rcases o3.fit i hi with hf | hf
    · exact hf.elim
    · exact hf.1
  have hz2 := k2.size
  have hz3 := k3.size
  have hz4 := k4.size
  have k24 : KpN w2 w4 := k3.fresh k4 (fun i hi => hb3 i hi)
  have hcs : (dgCs false ls).take (j * 2) ++ (dgCs false ls).drop ((j + 1) * 2) = dgCs false (ls.eraseIdx j) := by rw [List.eraseIdx_eq_take_drop_succ, dgCs_app, ← dgCs_take, ← dgCs_drop]
  have hle2 : (ls.eraseIdx j).length = m - 1 := by rw [List.length_eraseIdx_of_lt (by rw [HH.out.2]; exact hj), HH.out.2]
  have hR : DgR false 81 w4 (fun k => (F k ∧ k < w.heap.size) ∨ Iv w2.heap.size w4.heap.size k) v4 (ls.eraseIdx j) := by
    refine h2.r.part _ (List.eraseIdx_sublist ls j) ?_ k24 (fun _ _ _ _ x => x) (fun _ x => .inl x)
    rw [hle2, ← hcs, show m - 1 = 0 + j + (m - (j + 1)) by omega]
    refine o4.wide (fun k _ hk => .inr ?_)
    rcases hk with (hk | hk) | hk
    · exact hk.elim
    · exact ⟨hk.1, by have := hk.2; omega⟩
    · exact ⟨by have := hk.1; omega, hk.2⟩
  have hb4 : ∀ i, v4.ownBlock = some i → w2.heap.size ≤ i := fun i hi => by
    rcases e4 with e4 | e4
    · exact hb3 i (by rw [← e4]; exact hi)
    · rw [e4] at hi; injection hi with hi; omega
  have hW := h2.setRow k24 (fun x => x) hR (.inl h2.fit) (fun e => by have := hb4 g e; omega) (fun d hd => h2.nes d ((List.eraseIdx_sublist ls j).subset hd)) (by omega) (fun d hd => h2.sm d ((List.eraseIdx_sublist ls j).subset hd))
  have ks : Kp (fun k => k = g) w4 (w4.setCell ⟨g, 1, none⟩ v4) := (Kp.refl (fun k => k = g) w4).setCell (p := ⟨g, 1, none⟩) (.inl rfl) v4
  have hsz : (w4.setCell ⟨g, 1, none⟩ v4).heap.size = w4.heap.size := by simp
  have ou4 := (ou.readsB.keepN k24).keep ks (fun i hi e => by have := (ou.fit i hi).1; omega)
  have hall : Kp F w (w4.setCell ⟨g, 1, none⟩ v4) := Kp.after (k2.thenN k24) (ks.mono (fun i _ e => by rw [e]; exact HF0.out.1))
  have hfin : ETakeP w F g n xs ((stOf ls).eraseIdx j) (.returned (.tuple #[u, .int .i64 0])) (w4.setCell ⟨g, 1, none⟩ v4) := by
    refine ⟨u, rfl, ou4, _, ⟨_, _, hW, stOf_erase ls j⟩, fun b hb => ?_, hall⟩
    rw [hsz]
    rcases hb with hb | hb
    · exact .inl hb.1
    · exact .inr ⟨by have := hb.1; omega, hb.2⟩
  have HFIN := Lib.hid hfin
  obtain ⟨A4, c4, hv4, -⟩ := hR.shape
  have c14 : w4.cell? ⟨g, 1, none⟩ = some (.slice (some ⟨gr, 0, none⟩) m vc) := by rw [k24.cell (show g < w2.heap.size by omega) (fun x => x)]; exact c12
  have c13 : w3.cell? ⟨g, 1, none⟩ = some (.slice (some ⟨gr, 0, none⟩) m vc) := by rw [k3.cell (show g < w2.heap.size by omega) (fun x => x)]; exact c12
  have f14 : w4.frozen? ⟨g, 1, none⟩ = false := by rw [k24.frozen (show g < w2.heap.size by omega) (fun x => x), k2.frozen hgl (fun x => x)]; exact hfg
  have hjm : j ≤ vc := by omega
  have hjm1 : j + 1 ≤ vc := by omega
  have hjm2 : j + 1 ≤ m := by omega
  rw [hv4] at r4 HFIN
  clear hfin hall ou4 ks hW hb4 hR hle2 hcs k24 hb3 o4 k4 e4 hrd4 hrow3 k3 o3 e3 hone hrow h2 ou k2 hsz hv4
  go_wp2_with (first | ((with_reducible show wpList _ _ _ (Oper.mk _ (Op.call _) _ _ _ _ :: _) _ w2); refine app_op r3 rfl rfl ?_) | ((with_reducible show wpList _ _ _ (Oper.mk _ (Op.call _) _ _ _ _ :: _) _ w3); refine app_op r4 rfl rfl ?_) | fail)
  go_ret2
  exact HFIN.out
theorem edrop_yes {w : World} {F : Nat → Prop} {g n : Nat} {st : List (List UInt8 × Bool)} {j : Nat} (hX : WayX false 81 w F g n st) (hj : j < st.length) :
    Calls Tryd.prog 34 #[.pointer (some ⟨g, 0, none⟩), .int .i64 (j : Int)] w (WOpP false 81 w F g n (.int .i64 0) (st.eraseIdx j)) := by
  have hM := etake_yes hX hj
  go_enter Tryd.func34, Tryd.ntmps34
  go_wp2_with fail
  refine hM.mono ?_
  rintro e w2 ⟨u, rfl, ou, F', hX2, hg2, k2⟩
  go_wp2
  go_ret
  exact ⟨rfl, F', hX2, hg2, k2⟩
theorem rgSz (v : Value) (t : Bool) : (Tryd.prog.info? 81).map (·.size) = some [v, .bool t].length := by kernel_rfl
set_option maxHeartbeats 6400000 in
theorem eturn_c {w : World} {F : Nat → Prop} {g n : Nat} {st : List (List UInt8 × Bool)} {i at_ : Int} {mask : Nat} (hX : WayX false 81 w F g n st) (ha : -9223372036854775808 ≤ at_ ∧ at_ ≤ 9223372036854775807) (hmk : mask < 4294967296) :
    Calls Tryd.prog 36 #[.pointer (some ⟨g, 0, none⟩), .int .i64 i, .int .i64 at_, .int .u32 (mask : Int)] w (WOpP false 81 w F g n (.int .i64 ((turnS st i at_ mask).1 : Int)) (turnS st i at_ mask).2) := by
  by_cases hat0 : atS st i = none
  · have hM := eat_no hX hat0
    have hfin : WOpP false 81 w F g n (.int .i64 ((turnS st i at_ mask).1 : Int)) (turnS st i at_ mask).2 (.returned (.int .i64 4)) w := by
      rw [show turnS st i at_ mask = (4, st) by unfold turnS; rw [hat0]]
      exact ⟨rfl, F, hX, Gr.refl _ _ _, Kp.refl _ _⟩
    have HF := Lib.hid hfin
    clear hfin hX hat0
    go_enter Tryd.func36, Tryd.ntmps36
    go_wp2_with fail
    refine hM.mono ?_
    rintro e w2 ⟨rfl, rfl⟩
    go_wp2
    go_ret
    exact HF.out
  · obtain ⟨v, ls, h, rfl⟩ := hX
    have hij : 0 ≤ i ∧ i < (ls.length : Int) := by
      refine ⟨?_, ?_⟩
      · apply Int.not_lt.1
        exact fun e => hat0 (atS_out (.inl e))
      · apply Int.not_le.1
        exact fun e => hat0 (atS_out (.inr (by rw [stOf_len]; exact e)))
    obtain ⟨j, rfl⟩ := Int.eq_ofNat_of_zero_le hij.1
    have hj : j < ls.length := by omega
    have hat := atS_in (st := stOf ls) (j := j) (by rw [stOf_len]; exact hj)
    rw [stOf_get ls j hj] at hat
    obtain ⟨gr, vc, rfl, hFg, hvc⟩ := h.r.form (by omega)
    have hM := eat_yes h hj
    have hb := (h.r.all.each _ (List.getElem_mem hj)).readsB
    have hp0 := h.r.r0 j hj
    have hp1 := h.r.r1 j hj
    have hsm := h.sm _ (List.getElem_mem hj)
    have hgr : gr < w.heap.size := h.r.row.lt gr rfl
    have c1 := h.c1
    obtain ⟨m, hm⟩ : ∃ m, ls.length = m := ⟨_, rfl⟩
    rw [hm] at h hj hvc c1
    have HH := Lib.hid (And.intro h hm)
    have hgl := h.lt
    have hne : ¬ g = gr := fun e => h.ne (by rw [e]; rfl)
    clear h hij hat0
    generalize ls[j] = d at *
    obtain ⟨dv, xs, t⟩ := d
    dsimp only at hp0 hp1 hsm hb hat
    obtain ⟨A, c, rfl, -⟩ := hb.form
    obtain ⟨L, hL⟩ : ∃ L, xs.length = L := ⟨_, rfl⟩
    rw [hL] at hb hp0 hsm
    have HB := Lib.hid (And.intro hb hL)
    have hwi := within_c (n := L) (w := w) (by omega) ha hmk
    clear hb
    have hjm : ¬ m ≤ j := by omega
    have hno : (mask = 0 ∨ insideB xs.length at_ mask = false) → WOpP false 81 w F g n (.int .i64 ((turnS (stOf ls) (j : Int) at_ mask).1 : Int)) (turnS (stOf ls) (j : Int) at_ mask).2 (.returned (.int .i64 1)) w := by
      intro hh
      rw [show turnS (stOf ls) (j : Int) at_ mask = (1, stOf ls) by unfold turnS; rw [hat]; exact if_pos hh]
      exact ⟨rfl, F, ⟨_, ls, HH.out.1, rfl⟩, Gr.refl _ _ _, Kp.refl _ _⟩
    by_cases hm0 : mask = 0
    · subst hm0
      have HF := Lib.hid (hno (.inl rfl))
      clear hno hat hwi
      go_enter Tryd.func36, Tryd.ntmps36
      go_wp2_with fail
      refine hM.mono ?_
      rintro e w2 ⟨rfl, rfl⟩
      go_wp2
      go_ret
      exact HF.out
    · have hmz : ((mask : Int) == 0) = false := by simp; omega
      rcases Bool.eq_false_or_eq_true (insideB L at_ mask) with hin | hin
      · have hcond : ¬ (mask = 0 ∨ insideB xs.length at_ mask = false) := by
          rw [hL, hin]
          rintro (e | e)
          · exact hm0 e
          · cases e
        rw [hin] at hwi
        cases t with
        | true =>
          have hfin : WOpP false 81 w F g n (.int .i64 ((turnS (stOf ls) (j : Int) at_ mask).1 : Int)) (turnS (stOf ls) (j : Int) at_ mask).2 (.returned (.int .i64 3)) w := by
            rw [show turnS (stOf ls) (j : Int) at_ mask = (3, stOf ls) by unfold turnS; rw [hat]; dsimp only; rw [if_neg hcond]; rfl]
            exact ⟨rfl, F, ⟨_, ls, HH.out.1, rfl⟩, Gr.refl _ _ _, Kp.refl _ _⟩
          have HF := Lib.hid hfin
          clear hno hat hin hcond hfin hm0
          go_enter Tryd.func36, Tryd.ntmps36
          go_wp2_with fail
          refine hM.mono ?_
          rintro e w2 ⟨rfl, rfl⟩
          go_wp2_with fail
          refine hwi.mono ?_
          rintro e w2 ⟨rfl, rfl⟩
          go_wp2
          go_ret
          exact HF.out
        | false =>
          have hres : turnS (stOf ls) (j : Int) at_ mask = (0, (stOf ls).set j (burst xs at_ mask, true)) := by unfold turnS; rw [hat]; dsimp only; rw [if_neg hcond]; rfl
          have HR := Lib.hid hres
          clear hno hat hin hcond hres hm0
          go_enter Tryd.func36, Tryd.ntmps36
          go_wp2_with fail
          refine hM.mono ?_
          rintro e w2 ⟨rfl, rfl⟩
          go_wp2_with fail
          refine hwi.mono ?_
          rintro e w2 ⟨rfl, rfl⟩
          go_wp2_with fail
          refine rg_begin 18 (fun _ => False) (by kernel_rfl) (fun w1 d1 => ?_)
          have hh1 := (HH.out.1.wide (G := fun k => F k ∧ k < w.heap.size) (fun k hk hf => ⟨hf, hk⟩)).keepN d1
          have hz1 := d1.size
          have hp01 : w1.cell? ⟨gr, j * 2, none⟩ = some (.slice A L c) := by rw [d1.cell hgr (fun x => x)]; exact hp0
          have hgr1 : gr < w1.heap.size := by omega
          refine rg_take 0 (d := (some 38)) (v := .pointer (some ⟨g, 0, none⟩)) (by decide) rfl rfl (by kernel_rfl) (by kernel_rfl) (by kernel_rfl) (fun _ _ _ h => h) rfl (fun W => rfl) ?_
          conv => arg 8; simp only [Act.put, List.setIfInBounds_toArray, List.set_cons_zero, List.set_cons_succ]
          refine rg_take 1 (d := (some 39)) (v := .pointer (some ⟨g, 0, none⟩)) (by decide) rfl rfl (by kernel_rfl) (by kernel_rfl) (by kernel_rfl) (fun _ _ _ h => h) rfl (fun W => by go_simp) ?_
          conv => arg 8; simp only [Act.put, List.setIfInBounds_toArray, List.set_cons_zero, List.set_cons_succ]
          refine rg_take 2 (d := (some 40)) (v := .pointer (some ⟨g, 1, none⟩)) (by decide) rfl rfl (by kernel_rfl) (by kernel_rfl) (by kernel_rfl) (fun _ _ _ h => h) rfl (fun W => by go_simp) ?_
          conv => arg 8; simp only [Act.put, List.setIfInBounds_toArray, List.set_cons_zero, List.set_cons_succ]
          refine rg_read 3 (d := (some 41)) (v := .slice (some ⟨gr, 0, none⟩) m vc) (by decide) (by kernel_rfl) (by kernel_rfl) rfl rfl (by kernel_rfl) (by kernel_rfl) (by kernel_rfl) (fun _ _ _ h => h) rfl (fun W hW => by have hc := (hW.cell (p := ⟨g, 1, none⟩) (hh1.lt) (fun x => x)).trans (hh1.c1); go_simp) ?_
          conv => arg 8; simp only [Act.put, List.setIfInBounds_toArray, List.set_cons_zero, List.set_cons_succ]
          refine rg_take 4 (d := (some 42)) (v := .int .i64 j) (by decide) rfl rfl (by kernel_rfl) (by kernel_rfl) (by kernel_rfl) (fun _ _ _ h => h) rfl (fun W => rfl) ?_
          conv => arg 8; simp only [Act.put, List.setIfInBounds_toArray, List.set_cons_zero, List.set_cons_succ]
          refine rg_take 5 (d := (some 43)) (v := .pointer (some ⟨g, 0, none⟩)) (by decide) rfl rfl (by kernel_rfl) (by kernel_rfl) (by kernel_rfl) (fun _ _ _ h => h) rfl (fun W => rfl) ?_
          conv => arg 8; simp only [Act.put, List.setIfInBounds_toArray, List.set_cons_zero, List.set_cons_succ]
          refine rg_take 6 (d := (some 44)) (v := .pointer (some ⟨g, 0, none⟩)) (by decide) rfl rfl (by kernel_rfl) (by kernel_rfl) (by kernel_rfl) (fun _ _ _ h => h) rfl (fun W => by go_simp) ?_
          conv => arg 8; simp only [Act.put, List.setIfInBounds_toArray, List.set_cons_zero, List.set_cons_succ]
          refine rg_take 7 (d := (some 45)) (v := .pointer (some ⟨g, 1, none⟩)) (by decide) rfl rfl (by kernel_rfl) (by kernel_rfl) (by kernel_rfl) (fun _ _ _ h => h) rfl (fun W => by go_simp) ?_
          conv => arg 8; simp only [Act.put, List.setIfInBounds_toArray, List.set_cons_zero, List.set_cons_succ]
          refine rg_read 8 (d := (some 46)) (v := .slice (some ⟨gr, 0, none⟩) m vc) (by decide) (by kernel_rfl) (by kernel_rfl) rfl rfl (by kernel_rfl) (by kernel_rfl) (by kernel_rfl) (fun _ _ _ h => h) rfl (fun W hW => by have hc := (hW.cell (p := ⟨g, 1, none⟩) (hh1.lt) (fun x => x)).trans (hh1.c1); go_simp) ?_
          conv => arg 8; simp only [Act.put, List.setIfInBounds_toArray, List.set_cons_zero, List.set_cons_succ]
          refine rg_take 9 (d := (some 47)) (v := .int .i64 j) (by decide) rfl rfl (by kernel_rfl) (by kernel_rfl) (by kernel_rfl) (fun _ _ _ h => h) rfl (fun W => rfl) ?_
          conv => arg 8; simp only [Act.put, List.setIfInBounds_toArray, List.set_cons_zero, List.set_cons_succ]
          refine rg_take 10 (d := (some 48)) (v := .pointer (some ⟨gr, j * 2, none⟩)) (by decide) rfl rfl (by kernel_rfl) (by kernel_rfl) (by kernel_rfl) (fun _ _ _ h => h) rfl (fun W => by go_simp) ?_
          conv => arg 8; simp only [Act.put, List.setIfInBounds_toArray, List.set_cons_zero, List.set_cons_succ]
          refine rg_take 11 (d := (some 49)) (v := .pointer (some ⟨gr, j * 2, none⟩)) (by decide) rfl rfl (by kernel_rfl) (by kernel_rfl) (by kernel_rfl) (fun _ _ _ h => h) rfl (fun W => by go_simp) ?_
          conv => arg 8; simp only [Act.put, List.setIfInBounds_toArray, List.set_cons_zero, List.set_cons_succ]
          refine rg_read 12 (d := (some 50)) (v := .slice A L c) (by decide) (by kernel_rfl) (by kernel_rfl) rfl rfl (by kernel_rfl) (by kernel_rfl) (by kernel_rfl) (fun _ _ _ h => h) rfl (fun W hW => by have hc := (hW.cell (p := ⟨gr, j * 2, none⟩) (hgr1) (fun x => x)).trans (hp01); go_simp) ?_
          conv => arg 8; simp only [Act.put, List.setIfInBounds_toArray, List.set_cons_zero, List.set_cons_succ]
          refine rg_take 13 (d := (some 51)) (v := .int .i64 at_) (by decide) rfl rfl (by kernel_rfl) (by kernel_rfl) (by kernel_rfl) (fun _ _ _ h => h) rfl (fun W => rfl) ?_
          conv => arg 8; simp only [Act.put, List.setIfInBounds_toArray, List.set_cons_zero, List.set_cons_succ]
          refine rg_take 14 (d := (some 52)) (v := .int .u32 mask) (by decide) rfl rfl (by kernel_rfl) (by kernel_rfl) (by kernel_rfl) (fun _ _ _ h => h) rfl (fun W => rfl) ?_
          conv => arg 8; simp only [Act.put, List.setIfInBounds_toArray, List.set_cons_zero, List.set_cons_succ]
          refine rg_call 15 (d := (some 53)) (by kernel_rfl) (refBurst_c (HB.out.1.keepN d1) ha hmk (by rw [HB.out.2]; omega)) rfl rfl (by kernel_rfl) rfl rfl ?_
          rintro e w2 ⟨u, rfl, ou, k2⟩
          refine ⟨_, rfl, k2, ?_⟩
          conv => arg 8; simp only [Act.put, List.setIfInBounds_toArray, List.set_cons_zero, List.set_cons_succ]
          obtain ⟨Au, cu, rfl, -⟩ := ou.readsB.form
          obtain ⟨LB, hLB⟩ : ∃ LB, (burst xs at_ mask).length = LB := ⟨_, rfl⟩
          rw [hLB] at ou
          rw [hLB]
          have hh2 := hh1.keepN k2
          have hp02 : w2.cell? ⟨gr, j * 2, none⟩ = some (.slice A L c) := by rw [k2.cell hgr1 (fun x => x)]; exact hp01
          have hp12 : w2.cell? ⟨gr, j * 2 + 1, none⟩ = some (.bool false) := by rw [k2.cell hgr1 (fun x => x), d1.cell hgr (fun x => x)]; exact hp1
          have hth : w2.there gr (j * 2) 2 := fun i hi => by
            match i, hi with
            | 0, _ => exact ⟨by rw [show j * 2 + 0 = j * 2 from rfl, hp02]; rfl, hh2.r.frozenAt _⟩
            | 1, _ => exact ⟨by rw [hp12]; rfl, hh2.r.frozenAt _⟩
          refine rg_take 16 (d := (some 54)) (v := .agg #[.slice Au LB cu, .bool true]) (by decide) rfl rfl (by kernel_rfl) (by kernel_rfl) (by kernel_rfl) (fun _ _ _ h => h) rfl (fun W => run_rg rfl rfl) ?_
          conv => arg 8; simp only [Act.put, List.setIfInBounds_toArray, List.set_cons_zero, List.set_cons_succ]
          refine rg_take 17 (d := (some 55)) (v := .pointer (some ⟨gr, j * 2, none⟩)) (by decide) rfl rfl (by kernel_rfl) (by kernel_rfl) (by kernel_rfl) (fun _ _ _ h => h) rfl (fun W => by go_simp) ?_
          conv => arg 8; simp only [Act.put, List.setIfInBounds_toArray, List.set_cons_zero, List.set_cons_succ]
          refine rg_lastS (G := fun _ => True) (w2.setCells gr (j * 2) [.slice Au LB cu, .bool true]) (d := none) rfl rfl (by kernel_rfl) rfl (run_store_op (run_storeAt_mid w2 gr (j * 2) 81 #[.slice Au LB cu, .bool true] hth (rgSz _ _) (by kernel_rfl)) rfl rfl) (by kernel_rfl) ?_
          conv => arg 8; simp only [Act.put, List.setIfInBounds_toArray, List.set_cons_zero, List.set_cons_succ]
          refine rg_done (by kernel_rfl) ?_
          have ks2 : Kp (fun k => k = gr) w2 (w2.setCells gr (j * 2) [.slice Au LB cu, .bool true]) := Kp.setCells gr _ _ w2
          have hrow := hh2.r.row
          rw [HH.out.2] at hrow
          have hrow2 : OwC (w2.setCells gr (j * 2) [.slice Au LB cu, .bool true]) 81 2 (fun k => F k ∧ k < w.heap.size) (.slice (some ⟨gr, 0, none⟩) m vc) m (dgCs false (ls.set j ⟨.slice Au LB cu, burst xs at_ mask, true⟩)) := by
            rw [dgCs_setR]
            exact ⟨((hrow.own.stored _ _).1.stored _ _).1, hrow.fit⟩
          have hsmb : (burst xs at_ mask).length ≤ 2048 := by rw [burst_length, HB.out.2]; exact hsm
          have hz2 := k2.size
          have ou' : OwB w2 5 (Iv w1.heap.size w2.heap.size) (.slice Au LB cu) (burst xs at_ mask) := ou
          have hput := hh2.put (j := j) (d := ⟨.slice Au LB cu, burst xs at_ mask, true⟩) (by decide) ou' (fun i h1 h2 => by have := h1.2; have := h2.1; omega) hsmb ks2 hrow2
          have hkk : Kp F w (w2.setCells gr (j * 2) [.slice Au LB cu, .bool true]) := (Kp.after (d1.thenN k2) ks2).mono (fun i _ e => by rw [e]; exact hFg)
          have hsz : (w2.setCells gr (j * 2) [.slice Au LB cu, .bool true]).heap.size = w2.heap.size := by simp [World.setCells]
          have hfin : WOpP false 81 w F g n (.int .i64 ((turnS (stOf ls) (j : Int) at_ mask).1 : Int)) (turnS (stOf ls) (j : Int) at_ mask).2 (.returned (.int .i64 0)) (w2.setCells gr (j * 2) [.slice Au LB cu, .bool true]) := by
            rw [HR.out]
            refine ⟨rfl, _, ⟨_, _, hput, by rw [stOf_set]⟩, fun b hb => ?_, hkk⟩
            rw [hsz]
            rcases hb with hb | hb
            · exact .inl hb.1
            · exact .inr ⟨by have := hb.1; omega, hb.2⟩
          have HF := Lib.hid hfin
          clear hfin hput hrow2 hrow hkk hsz ks2 ou ou' hh2 hsmb hLB hM hwi k2
          generalize w2.setCells gr (j * 2) [.slice Au LB cu, .bool true] = w8 at HF ⊢
          go_wp2
          go_ret
          exact HF.out
      · have HF := Lib.hid (hno (.inr (by rw [hL]; exact hin)))
        rw [hin] at hwi
        clear hno hat hin hm0
        go_enter Tryd.func36, Tryd.ntmps36
        go_wp2_with fail
        refine hM.mono ?_
        rintro e w2 ⟨rfl, rfl⟩
        go_wp2_with fail
        refine hwi.mono ?_
        rintro e w2 ⟨rfl, rfl⟩
        go_wp2
        go_ret
        exact HF.out
end Go.Proofs.YteokkpmndfekoaaDoor
