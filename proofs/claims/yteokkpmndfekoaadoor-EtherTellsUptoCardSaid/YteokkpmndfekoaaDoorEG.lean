/- A way: Turn. -/
import Derived.Test.YteokkpmndfekoaaDoorEF
import Derived.Test.YteokkpmndfekoaaDoorOB
namespace Go.Proofs.YteokkpmndfekoaaDoor
open Go Go.RowKit
set_option maxRecDepth 100000
-- %lastw

theorem stOf_set (ls : List Dg) (j : Nat) (d : Dg) : stOf (ls.set j d) = (stOf ls).set j (d.b, d.t) := by
  unfold stOf
  rw [List.map_set]
def turnS (st : List (List UInt8 × Bool)) (i at_ : Int) (mask : Nat) : Nat × List (List UInt8 × Bool) := match atS st i with
  | none => (4, st)
  | some d => if mask = 0 ∨ insideB d.1.length at_ mask = false then (1, st) else if d.2 then (3, st) else (0, st.set i.toNat (burst d.1 at_ mask, true))
set_option maxHeartbeats 6400000 in
theorem way_turn {w : World} {F : Nat → Prop} {g n : Nat} {st : List (List UInt8 × Bool)} {i at_ : Int} {mask : Nat} (hX : WayX true 68 w F g n st) (ht : BitsOk w) (ha : -9223372036854775808 ≤ at_ ∧ at_ ≤ 9223372036854775807) (hmk : mask < 4294967296) :
    Calls Tryd.prog 13 #[.pointer (some ⟨g, 0, none⟩), .int .i64 i, .int .i64 at_, .int .u32 (mask : Int)] w (WOpP true 68 w F g n (.int .i64 ((turnS st i at_ mask).1 : Int)) (turnS st i at_ mask).2) := by
  obtain ⟨v, ls, h, rfl⟩ := hX
  by_cases hout : i < 0 ∨ (ls.length : Int) ≤ i
  · have hM := way_out h hout
    have hfin : WOpP true 68 w F g n (.int .i64 ((turnS (stOf ls) i at_ mask).1 : Int)) (turnS (stOf ls) i at_ mask).2 (.returned (.int .i64 4)) w := by
      rw [show turnS (stOf ls) i at_ mask = (4, stOf ls) by unfold turnS; rw [atS_out (by rw [stOf_len]; exact hout)]]
      exact ⟨rfl, F, ⟨v, ls, h, rfl⟩, Gr.refl _ _ _, Kp.refl _ _⟩
    have HF := Lib.hid hfin
    clear hfin h hout
    go_enter Tryd.func13, Tryd.ntmps13
    go_wp2_with fail
    refine hM.mono ?_
    rintro e w2 ⟨rfl, rfl⟩
    go_wp2
    go_ret
    exact HF.out
  · obtain ⟨j, rfl⟩ := Int.eq_ofNat_of_zero_le (show 0 ≤ i by omega)
    have hj : j < ls.length := by omega
    have hat := atS_in (st := stOf ls) (j := j) (by rw [stOf_len]; exact hj)
    rw [stOf_get ls j hj] at hat
    obtain ⟨gr, vc, rfl, hFg, hvc⟩ := h.r.form (by omega)
    have hM := way_at h hj
    have hb := (h.r.all.each _ (List.getElem_mem hj)).readsB
    have hp0 := h.r.p0 j hj
    have hp1 := h.r.p1 j hj
    have hsm := h.sm _ (List.getElem_mem hj)
    have hgr : gr < w.heap.size := h.r.row.lt gr rfl
    obtain ⟨m, hm⟩ : ∃ m, ls.length = m := ⟨_, rfl⟩
    rw [hm] at h hj
    have HH := Lib.hid (And.intro h hm)
    clear h hout
    generalize ls[j] = d at *
    obtain ⟨dv, xs, t⟩ := d
    dsimp only at hp0 hp1 hsm hb hat
    obtain ⟨A, c, rfl, -⟩ := hb.form
    obtain ⟨L, hL⟩ : ∃ L, xs.length = L := ⟨_, rfl⟩
    rw [hL] at hb hp1 hsm
    have HB := Lib.hid (And.intro hb hL)
    have htz := tz_c hmk ht
    have hln := len32_c (w := w) hmk
    clear hb
    have hno : (mask = 0 ∨ insideB xs.length at_ mask = false) → WOpP true 68 w F g n (.int .i64 ((turnS (stOf ls) (j : Int) at_ mask).1 : Int)) (turnS (stOf ls) (j : Int) at_ mask).2 (.returned (.int .i64 1)) w := by
      intro hh
      rw [show turnS (stOf ls) (j : Int) at_ mask = (1, stOf ls) by unfold turnS; rw [hat]; exact if_pos hh]
      exact ⟨rfl, F, ⟨_, ls, HH.out.1, rfl⟩, Gr.refl _ _ _, Kp.refl _ _⟩
    by_cases hm0 : mask = 0
    · subst hm0
      have HF := Lib.hid (hno (.inl rfl))
      clear hno hat
      go_enter Tryd.func13, Tryd.ntmps13
      go_wp2_with fail
      refine hM.mono ?_
      rintro e w2 ⟨rfl, rfl⟩
      go_wp2_with fail
      refine htz.mono ?_
      rintro e w2 ⟨rfl, rfl⟩
      go_wp2_with fail
      refine hln.mono ?_
      rintro e w2 ⟨rfl, rfl⟩
      go_wp2
      go_ret
      exact HF.out
    · have hends := inside_ends (n := xs.length) (at_ := at_) hm0 hmk
      have hb1 := bitLen_ends hm0 hmk
      have hc1 : Lib.ctz 32 mask < 32 := (Lib.lowest_bit 32 mask hm0 hmk).2
      have hmz : ((mask : Int) == 0) = false := by simp; omega
      rw [hL] at hends
      obtain ⟨C, hC⟩ : ∃ C, Lib.ctz 32 mask = C := ⟨_, rfl⟩
      obtain ⟨B, hB⟩ : ∃ B, Lib.bitLen mask = B := ⟨_, rfl⟩
      rw [hC] at hends hc1 htz
      rw [hB] at hends hb1 hln
      obtain ⟨b1, b2, -, -⟩ := hb1
      by_cases hA : at_ < -(C : Int)
      · have HF := Lib.hid (hno (.inr (by rw [hL]; rcases Bool.eq_false_or_eq_true (insideB L at_ mask) with e | e; exact absurd hA (hends.1 e).1; exact e)))
        clear hno hat hends hC hB hm0
        go_enter Tryd.func13, Tryd.ntmps13
        go_wp2_with fail
        refine hM.mono ?_
        rintro e w2 ⟨rfl, rfl⟩
        go_wp2_with fail
        refine htz.mono ?_
        rintro e w2 ⟨rfl, rfl⟩
        go_wp2_with fail
        refine hln.mono ?_
        rintro e w2 ⟨rfl, rfl⟩
        go_wp2
        go_ret
        exact HF.out
      · by_cases hD : at_ > 8 * (L : Int) - 1 - ((B : Int) - 1)
        · have HF := Lib.hid (hno (.inr (by rw [hL]; rcases Bool.eq_false_or_eq_true (insideB L at_ mask) with e | e; exact absurd hD (hends.1 e).2; exact e)))
          clear hno hat hends hC hB hm0
          go_enter Tryd.func13, Tryd.ntmps13
          go_wp2_with fail
          refine hM.mono ?_
          rintro e w2 ⟨rfl, rfl⟩
          go_wp2_with fail
          refine htz.mono ?_
          rintro e w2 ⟨rfl, rfl⟩
          go_wp2_with fail
          refine hln.mono ?_
          rintro e w2 ⟨rfl, rfl⟩
          go_wp2
          go_ret
          exact HF.out
        · have hin := hends.2 ⟨hA, hD⟩
          have hcond : ¬ (mask = 0 ∨ insideB xs.length at_ mask = false) := by
            rw [hL, hin]
            rintro (e | e)
            · exact hm0 e
            · cases e
          cases t with
          | true =>
            have hfin : WOpP true 68 w F g n (.int .i64 ((turnS (stOf ls) (j : Int) at_ mask).1 : Int)) (turnS (stOf ls) (j : Int) at_ mask).2 (.returned (.int .i64 3)) w := by
              rw [show turnS (stOf ls) (j : Int) at_ mask = (3, stOf ls) by unfold turnS; rw [hat]; dsimp only; rw [if_neg hcond]; rfl]
              exact ⟨rfl, F, ⟨_, ls, HH.out.1, rfl⟩, Gr.refl _ _ _, Kp.refl _ _⟩
            have HF := Lib.hid hfin
            clear hno hat hends hC hB hm0 hin hcond hfin
            go_enter Tryd.func13, Tryd.ntmps13
            go_wp2_with fail
            refine hM.mono ?_
            rintro e w2 ⟨rfl, rfl⟩
            go_wp2_with fail
            refine htz.mono ?_
            rintro e w2 ⟨rfl, rfl⟩
            go_wp2_with fail
            refine hln.mono ?_
            rintro e w2 ⟨rfl, rfl⟩
            go_wp2
            go_ret
            exact HF.out
          | false =>
            have hres : turnS (stOf ls) (j : Int) at_ mask = (0, (stOf ls).set j (burst xs at_ mask, true)) := by unfold turnS; rw [hat]; dsimp only; rw [if_neg hcond]; rfl
            have HR := Lib.hid hres
            have h10 : (⟨gr, j * 2 + 1, none⟩ : Addr) ≠ ⟨gr, j * 2, none⟩ := fun e => by injection e; omega
            clear hno hat hends hC hB hm0 hin hcond hres
            go_enter Tryd.func13, Tryd.ntmps13
            go_wp2_with fail
            refine hM.mono ?_
            rintro e w2 ⟨rfl, rfl⟩
            go_wp2_with fail
            refine htz.mono ?_
            rintro e w2 ⟨rfl, rfl⟩
            go_wp2_with fail
            refine hln.mono ?_
            rintro e w2 ⟨rfl, rfl⟩
            go_wp2_with fail
            refine (burst_c HB.out.1 ha hmk (by rw [HB.out.2]; omega)).mono ?_
            rintro e w2 ⟨u, rfl, ou, k2⟩
            obtain ⟨Au, cu, rfl, -⟩ := ou.readsB.form
            have hh2 := HH.out.1.keepN k2
            have hp12 : w2.cell? ⟨gr, j * 2 + 1, none⟩ = some (.slice A L c) := by rw [k2.cell hgr (fun x => x)]; exact hp1
            have hp02 : w2.cell? ⟨gr, j * 2, none⟩ = some (.bool false) := by rw [k2.cell hgr (fun x => x)]; exact hp0
            have hf0 := hh2.r.frozenAt (j * 2)
            have hf1 := hh2.r.frozenAt (j * 2 + 1)
            have hz2 := k2.size
            obtain ⟨LB, hLB⟩ : ∃ LB, (burst xs at_ mask).length = LB := ⟨_, rfl⟩
            rw [hLB] at ou ⊢
            have ks2 : Kp (fun k => k = gr) w2 ((w2.setCell ⟨gr, j * 2 + 1, none⟩ (.slice Au LB cu)).setCell ⟨gr, j * 2, none⟩ (.bool true)) := ((Kp.refl (fun k => k = gr) w2).setCell (p := ⟨gr, j * 2 + 1, none⟩) (.inl rfl) _).setCell (p := ⟨gr, j * 2, none⟩) (.inl rfl) _
            have hrow := hh2.r.row
            rw [HH.out.2] at hrow
            have hrow2 : OwC ((w2.setCell ⟨gr, j * 2 + 1, none⟩ (.slice Au LB cu)).setCell ⟨gr, j * 2, none⟩ (.bool true)) 68 2 F (.slice (some ⟨gr, 0, none⟩) m vc) m (dgCs true (ls.set j ⟨.slice Au LB cu, burst xs at_ mask, true⟩)) := by
              rw [dgCs_set]
              exact ⟨((hrow.own.stored _ _).1.stored _ _).1, hrow.fit⟩
            have hsmb : (burst xs at_ mask).length ≤ 2048 := by rw [burst_length, HB.out.2]; exact hsm
            have hput := ((HH.out.1.wide (G := fun k => F k ∧ k < w.heap.size) (fun k hk hf => ⟨hf, hk⟩)).keepN k2).put (j := j) (d := ⟨.slice Au LB cu, burst xs at_ mask, true⟩) (by decide) ou (fun i h1 h2 => by have := h1.2; have := h2.1; omega) hsmb ks2 (by
              exact ⟨hrow2.own, fun k hk => ⟨hrow2.fit k hk, by obtain rfl : gr = k := Option.some.inj hk; exact hgr⟩⟩)
            have hkk : Kp F w ((w2.setCell ⟨gr, j * 2 + 1, none⟩ (.slice Au LB cu)).setCell ⟨gr, j * 2, none⟩ (.bool true)) := (Kp.after k2 ks2).mono (fun i _ e => by rw [e]; exact hFg)
            have hsz : ((w2.setCell ⟨gr, j * 2 + 1, none⟩ (.slice Au LB cu)).setCell ⟨gr, j * 2, none⟩ (.bool true)).heap.size = w2.heap.size := by simp
            have hfin : WOpP true 68 w F g n (.int .i64 ((turnS (stOf ls) (j : Int) at_ mask).1 : Int)) (turnS (stOf ls) (j : Int) at_ mask).2 (.returned (.int .i64 0)) ((w2.setCell ⟨gr, j * 2 + 1, none⟩ (.slice Au LB cu)).setCell ⟨gr, j * 2, none⟩ (.bool true)) := by
              rw [HR.out]
              refine ⟨rfl, _, ⟨_, _, hput, by rw [stOf_set]⟩, fun b hb => ?_, hkk⟩
              rw [hsz]
              rcases hb with hb | hb
              · exact .inl hb.1
              · exact .inr hb
            have HF := Lib.hid hfin
            clear hfin hput hrow2 hrow hkk hsz ks2 ou hh2 hsmb hLB hM htz hln k2
            go_wp2
            go_ret
            exact HF.out
end Go.Proofs.YteokkpmndfekoaaDoor
