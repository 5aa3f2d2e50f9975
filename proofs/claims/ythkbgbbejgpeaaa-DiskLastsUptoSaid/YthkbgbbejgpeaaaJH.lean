/- Steps on a disk: run. -/
import Derived.Test.YthkbgbbejgpeaaaJG
namespace Go.Proofs.Ythkbgbbejgpeaaa
open Go Go.RowKit
set_option maxRecDepth 100000

/-- one step of 'run': its error, the disk behind it -/
def stepD (d : Dk) (s : Stp) (i : Nat) : Nat × Dk :=
  if s.1 = 0 ∨ s.1 = 1 then writeD d (spanZ s.2.1 0 ((d.n : Int) - 1)) (fillB (i + 1)) else if s.1 = 2 then flushD d else if s.1 = 3 then (1, crashD d s.2.2) else (1, d)
def runL (most : Int) : List Stp → Nat → Nat → Dk → Nat × Dk
  | [], _, done, d => (done, d)
  | s :: r, i, done, d => if (done : Int) < most then runL most r (i + 1) (if (stepD d s i).1 = 0 then done + 1 else done) (stepD d s i).2 else (done, d)
def runD (d : Dk) (l : List Stp) (most : Int) : Nat × Dk := runL most l 0 0 d
theorem step_n (d : Dk) (s : Stp) (i : Nat) : (stepD d s i).2.n = d.n := by
  unfold stepD
  split
  · exact write_n d _ _
  · split
    · exact flush_n d
    · split
      · exact crashD_n d _
      · rfl
theorem rdI_blk {w : World} {A : Option Addr} {n c : Nat} {zs : List Int} (h : RdI w (.slice A n c) zs) (hz : zs ≠ []) : ∀ b, (Value.slice A n c).ownBlock = some b → b < w.heap.size := by
  intro b hb
  obtain ⟨ad, rfl, hc⟩ := rdI_at h 0 (List.length_pos_iff.2 hz)
  have := World.block_lt_of_cell? w _ hc
  rw [add_block] at this
  have e : ad.block = b := Option.some.inj hb
  omega
theorem Gr.trans {a b c : World} {F G H : Nat → Prop} (h1 : Gr a b F G) (h2 : Gr b c G H) (hab : a.heap.size ≤ b.heap.size) (hbc : b.heap.size ≤ c.heap.size) : Gr a c F H := fun x hx => by
  rcases h2 x hx with h | h
  · rcases h1 x h with h | h
    · exact .inl h
    · exact .inr ⟨h.1, by have := h.2; omega⟩
  · exact .inr ⟨by have := h.1; omega, h.2⟩
theorem Gr.kp {a b c : World} {F G : Nat → Prop} (h1 : Gr a b F G) (k1 : Kp F a b) (k2 : Kp G b c) : Kp F a c := k1.trans k2 (fun _ _ x => x) (fun x hx hg => by
  rcases h1 x hg with h | h
  · exact h
  · have := h.1; omega)
theorem fill_i {w : World} {q : Nat} (hq : q ≤ 1000000000) : Calls Try.prog 28 #[.int .i64 ((q : Int) + 1)] w (FillP (q + 1) w) := fill_c (n := q + 1) (by omega)
/-- the loop of 'run' -/
def RunRel (w : World) (F : Nat → Prop) (g k : Nat) (d : Dk) (l : List Stp) (most : Int) (x i : Value) (wr : World) : Prop :=
  ∃ (q done k' : Nat) (d' : Dk) (F' : Nat → Prop), q ≤ l.length ∧ done ≤ q ∧ i = .int .i64 q ∧ x = .int .i64 done ∧ k' ≤ k + q ∧ DiskX wr F' g k' d' ∧ d'.n = d.n ∧ runL most (l.drop q) q done d' = runD d l most ∧ Gr w wr F F' ∧ Kp F w wr
def RunP (w : World) (F : Nat → Prop) (g k m : Nat) (r : Nat × Dk) (e : Ending) (w' : World) : Prop := e = .returned (.int .i64 (r.1 : Int)) ∧ ∃ F' k', k' ≤ k + m ∧ DiskX w' F' g k' r.2 ∧ Gr w w' F F' ∧ Kp F w w'
set_option maxHeartbeats 3200000 in
theorem run_c {w0 w : World} {F : Nat → Prop} {g k : Nat} {d : Dk} {v : Value} {l : List Stp} {most : Int} (h : DiskX w F g k d) (hl : RdSteps w0 v l) (hll : stepsSize l ≤ 10000000) (h0 : KpN w0 w) (hF : ∀ x, F x → w0.heap.size ≤ x) (hk : k ≤ 900000000) :
    Calls Try.prog 34 #[.pointer (some ⟨g, 0, none⟩), v, .int .i64 most] w (RunP w F g k l.length (runD d l most)) := by
  obtain ⟨A, c, rfl, hc⟩ := SlAt.form hl
  obtain ⟨L, hL⟩ : ∃ L, l.length = L := ⟨_, rfl⟩
  have hLs := stepsSize_len l
  have HL := Lib.hid hL
  rw [hL] at hl hLs hc ⊢
  have HS := Lib.hid hl
  have HX := Lib.hid h
  clear hl hL h
  go_enter Try.func34, Try.ntmps34
  go_wp2_with fail
  go_loopw [7, 8] (fun x i wr => RunRel w F g k d l most x i wr) (fun _ i _ => L - (intOf i).toNat)
  case atStart => exact ⟨0, 0, k, d, F, Nat.zero_le _, Nat.le_refl _, rfl, rfl, by omega, HX.out, rfl, rfl, Gr.refl _ _ _, Kp.refl _ _⟩
  case round =>
    obtain ⟨q, done, k', d', F', hq, hdq, rfl, rfl, hk', hx, hdn, hrun, hgr, hkp⟩ := hrel
    rw [HL.out] at hq
    by_cases hlt : q < L
    · by_cases hmo : (done : Int) < most
      · have hql : q < l.length := by rw [HL.out]; exact hlt
        have h0r : KpN w0 wr := h0.fresh hkp hF
        obtain ⟨s, hse⟩ : ∃ s, l[q] = s := ⟨_, rfl⟩
        obtain ⟨ad, cs, rfl, hcs, hrow0, hst0⟩ := HS.out.row q hql
        rw [hse] at hst0
        obtain ⟨⟨cv, rfl, hcv0⟩, hs1, hs2, hs3⟩ := hst0
        have hrow := hrow0.keepN h0r
        have hcv : RdI wr cv s.2.2 := RdC.keepN hcv0 h0r
        clear hrow0
        have hstp : runL most (l.drop (q + 1)) (q + 1) (if (stepD d' s q).1 = 0 then done + 1 else done) (stepD d' s q).2 = runD d l most := by
          rw [← hrun, List.drop_eq_getElem_cons hql, hse, runL, if_pos hmo]
        have hsz := stepsSize_mem l s (by rw [← hse]; exact List.getElem_mem hql)
        obtain ⟨Do, At, chs⟩ := s
        simp only at hrow hcv hcv0 hs1 hs2 hs3 hsz
        obtain ⟨Ac, cc, rfl, -⟩ := RdC.form hcv
        obtain ⟨CN, hCN⟩ : ∃ CN, chs.length = CN := ⟨_, rfl⟩
        rw [hCN] at hrow hcv hcv0 hsz
        have HC0 := Lib.hid hcv0
        clear hcv0
        have HCN := Lib.hid hCN
        clear hCN
        have c0 := hrow.c0
        have HC := Lib.hid (And.intro hcv hs3)
        have HST := Lib.hid hstp
        have HX' := Lib.hid hx
        have HG := Lib.hid hgr
        have c1 := hrow.fld 0 rfl
        have c2 := hrow.fld 1 rfl
        clear hcv hs3 hse hstp hx hgr hrun hcs
        obtain ⟨⟨e1, d2⟩, hsd⟩ : ∃ r, stepD d' (Do, At, chs) q = r := ⟨_, rfl⟩
        have hend : ∀ (k2 : Nat) (F2 : Nat → Prop) (w5 : World), k2 ≤ k' + 1 → DiskX w5 F2 g k2 d2 → Gr wr w5 F' F2 → Kp F' wr w5 → RunRel w F g k d l most (.int .i64 ((if e1 = 0 then done + 1 else done : Nat) : Int)) (.int .i64 ((q : Int) + 1)) w5 := by
          intro k2 F2 w5 hk2 hx2 hg2 hkp2
          have hst := HST.out
          rw [hsd] at hst
          have hdn2 : d2.n = d.n := by rw [← hdn, ← step_n d' (Do, At, chs) q, hsd]
          exact ⟨q + 1, _, k2, d2, F2, by rw [HL.out]; omega, by split <;> omega, rfl, rfl, by omega, hx2, hdn2, hst, HG.out.trans hg2 hkp.size hkp2.size, HG.out.kp hkp hkp2⟩
        have hF'lt : ∀ x, F' x → x < wr.heap.size ∨ F x := fun x hx => by
          rcases HG.out x hx with h | h
          · exact .inr h
          · exact .inl h.2
        have HEND := Lib.hid hend
        have HSD := Lib.hid hsd
        have HDN := Lib.hid hdn
        clear hend hsd hdn
        have hT := HX'.out.tight
        by_cases h01 : Do = 0 ∨ Do = 1
        · have hwr : writeD d' (spanZ At 0 ((d'.n : Int) - 1)) (fillB (q + 1)) = (e1, d2) := by
            have := HSD.out
            unfold stepD at this
            rw [if_pos h01] at this
            exact this
          have hn1 := HX'.out.n1
          have hn2 := HX'.out.n2
          have hsp := spanZ_bd At 0 ((d'.n : Int) - 1) (by omega)
          obtain ⟨Z, hZ⟩ : ∃ Z, spanZ At 0 ((d'.n : Int) - 1) = Z := ⟨_, rfl⟩
          rw [hZ] at hwr hsp
          have HZ := Lib.hid hZ
          have HWR := Lib.hid hwr
          clear hZ hwr
          have ka := (Kp.refl (fun _ => False) wr).alloc (.cells #[.int .i64 Do, .int .i64 At, .slice Ac CN cc] 57)
          have hca : (wr.alloc (.cells #[.int .i64 Do, .int .i64 At, .slice Ac CN cc] 57)).cell? ⟨wr.heap.size, 1, none⟩ = some (.int .i64 At) := by
            rw [cell_of_row _ _ _ _ _ _ (heap_alloc_new _ _)]
            rfl
          have hlta : wr.heap.size < (wr.alloc (.cells #[.int .i64 Do, .int .i64 At, .slice Ac CN cc] 57)).heap.size := by simp
          rcases h01 with h01 | h01
          all_goals
            subst h01
            go_wp2_with fail
            generalize wr.alloc (.cells #[_, .int .i64 At, .slice Ac CN cc] 57) = wb at *
            refine rg_begin 12 (fun b => F' b ∧ b < wr.heap.size) (by kernel_rfl) (fun w3 d3 => ?_)
            have hx3 := (hT.keepN ka).keepN d3
            have hc3 : w3.cell? ⟨wr.heap.size, 1, none⟩ = some (.int .i64 At) := by rw [d3.cell hlta (fun e => e)]; exact hca
            have hlt3 : wr.heap.size < w3.heap.size := by have := d3.size; omega
            have hw1 : IntKind.i64.wrap ((q : Int) + 1) = (q : Int) + 1 := IntWalk.i64_in _ (by omega)
            have hw2 : IntKind.i64.wrap ((d'.n : Int) - 1) = (d'.n : Int) - 1 := IntWalk.i64_in _ (by omega)
            refine rg_take 0 (d := (some 31)) (v := .pointer (some ⟨g, 0, none⟩)) (by decide) rfl rfl (by kernel_rfl) (by kernel_rfl) (by kernel_rfl) (fun _ _ _ h => h) rfl (fun W => rfl) ?_
            conv => arg 8; simp only [Act.put, List.setIfInBounds_toArray, List.set_cons_zero, List.set_cons_succ]
            refine rg_take 1 (d := (some 32)) (v := .pointer (some ⟨wr.heap.size, 1, none⟩)) (by decide) rfl rfl (by kernel_rfl) (by kernel_rfl) (by kernel_rfl) (fun _ _ _ h => h) rfl (fun W => by go_simp) ?_
            conv => arg 8; simp only [Act.put, List.setIfInBounds_toArray, List.set_cons_zero, List.set_cons_succ]
            refine rg_read 2 (d := (some 33)) (v := .int .i64 At) (by decide) (by kernel_rfl) (by kernel_rfl) rfl rfl (by kernel_rfl) (by kernel_rfl) (by kernel_rfl) (fun _ _ _ h => h) rfl (fun W hW => by have hc := (hW.cell (p := ⟨wr.heap.size, 1, none⟩) (hlt3) (fun hh => by have := hh.2; dsimp only at this; omega)).trans (hc3); go_simp) ?_
            conv => arg 8; simp only [Act.put, List.setIfInBounds_toArray, List.set_cons_zero, List.set_cons_succ]
            refine rg_take 3 (d := (some 34)) (v := .pointer (some ⟨g, 0, none⟩)) (by decide) rfl rfl (by kernel_rfl) (by kernel_rfl) (by kernel_rfl) (fun _ _ _ h => h) rfl (fun W => rfl) ?_
            conv => arg 8; simp only [Act.put, List.setIfInBounds_toArray, List.set_cons_zero, List.set_cons_succ]
            refine rg_take 7 (d := (some 38)) (v := .int .i64 q) (by decide) rfl rfl (by kernel_rfl) (by kernel_rfl) (by kernel_rfl) (fun _ _ _ h => h) rfl (fun W => rfl) ?_
            conv => arg 8; simp only [Act.put, List.setIfInBounds_toArray, List.set_cons_zero, List.set_cons_succ]
            refine rg_take 8 (d := (some 39)) (v := .int .i64 ((q : Int) + 1)) (by decide) rfl rfl (by kernel_rfl) (by kernel_rfl) (by kernel_rfl) (fun _ _ _ h => h) rfl (fun W => by go_simp) ?_
            conv => arg 8; simp only [Act.put, List.setIfInBounds_toArray, List.set_cons_zero, List.set_cons_succ]
            refine rg_call 4 (d := (some 35)) (by kernel_rfl) (sectors_x hx3) rfl rfl (by kernel_rfl) rfl rfl ?_
            rintro e w4 ⟨rfl, rfl⟩
            refine ⟨_, rfl, Kp.refl _ _, ?_⟩
            conv => arg 8; simp only [Act.put, List.setIfInBounds_toArray, List.set_cons_zero, List.set_cons_succ]
            refine rg_take 5 (d := (some 36)) (v := .int .i64 ((d'.n : Int) - 1)) (by decide) rfl rfl (by kernel_rfl) (by kernel_rfl) (by kernel_rfl) (fun _ _ _ h => h) rfl (fun W => by go_simp) ?_
            conv => arg 8; simp only [Act.put, List.setIfInBounds_toArray, List.set_cons_zero, List.set_cons_succ]
            refine rg_call 6 (d := (some 37)) (by kernel_rfl) (span_c hs2 (by omega) (by omega) (by omega)) rfl rfl (by kernel_rfl) rfl rfl ?_
            rintro e w4 ⟨rfl, rfl⟩
            refine ⟨_, rfl, Kp.refl _ _, ?_⟩
            conv => arg 8; simp only [Act.put, List.setIfInBounds_toArray, List.set_cons_zero, List.set_cons_succ]
            rw [HZ.out]
            refine rg_call 9 (d := (some 40)) (by kernel_rfl) (fill_i (by omega)) rfl rfl (by kernel_rfl) rfl rfl ?_
            rintro e w5 ⟨vf, rfl, of, kf⟩
            refine ⟨_, rfl, kf.mono (fun _ _ x => x.elim), ?_⟩
            conv => arg 8; simp only [Act.put, List.setIfInBounds_toArray, List.set_cons_zero, List.set_cons_succ]
            have hx5 := hx3.keepN kf
            have hof := of.fit
            have hz3 := d3.size
            have hza := ka.size
            have hWr := write_x (i := Z) (xs := fillB (q + 1)) hx5 of.readsB (fun b hb hFb => by have := (hof b hb).1; have := hFb.2; omega) ⟨by omega, by omega⟩ (by omega)
            rw [HWR.out] at hWr
            dsimp only at hWr
            refine rg_call 10 (d := (some 41)) (by kernel_rfl) (hWr) rfl rfl (by kernel_rfl) rfl rfl ?_
            rintro e w6 ⟨rfl, F2, k2, hk2, hx2, hg2, hkp2⟩
            refine ⟨_, rfl, hkp2, ?_⟩
            conv => arg 8; simp only [Act.put, List.setIfInBounds_toArray, List.set_cons_zero, List.set_cons_succ]
            refine rg_take 11 (d := (some 10)) (v := .int .i64 (e1 : Int)) (by decide) rfl rfl (by kernel_rfl) (by kernel_rfl) (by kernel_rfl) (fun _ _ _ h => h) rfl (fun W => rfl) ?_
            conv => arg 8; simp only [Act.put, List.setIfInBounds_toArray, List.set_cons_zero, List.set_cons_succ]
            refine rg_done (by kernel_rfl) ?_
            have hE := HEND.out k2 F2 w6 hk2 hx2 (fun x hx => by
              rcases hg2 x hx with h | h
              · exact .inl h.1
              · exact .inr ⟨by have := h.1; have := kf.size; omega, h.2⟩) ((((Kp.after ka (Kp.refl (fun b => F' b ∧ b < wr.heap.size) _)).thenN d3).thenN kf).trans hkp2 (fun x _ hx => hx.1) (fun x _ hx => hx.1))
            have HE := Lib.hid hE
            clear hE hx2 hg2 hkp2 hWr hx3 hx5 hc3 of hof hw1 hw2 hca
            by_cases he : e1 = 0
            · subst he
              go_wp2_with fail
              exact ⟨HE.out, meas_up hlt⟩
            · have he' : ¬ (e1 : Int) = 0 := by omega
              have h6 := HE.out
              rw [if_neg he] at h6
              have H6 := Lib.hid h6
              clear h6 HE
              go_wp2_with fail
              exact ⟨H6.out, meas_up hlt⟩
        · by_cases h2 : Do = 2
          · subst h2
            have hfl : flushD d' = (e1, d2) := HSD.out
            clear h01
            go_wp2_with fail
            have ka := (Kp.refl (fun _ => False) wr).alloc (.cells #[.int .i64 2, .int .i64 At, .slice Ac CN cc] 57)
            refine (flush_x (hT.keepN ka)).mono ?_
            rw [hfl]
            rintro e w5 ⟨rfl, F2, k2, hk2, hx2, hg2, hkp2⟩
            have hE := HEND.out k2 F2 w5 hk2 hx2 (fun x hx => by
              rcases hg2 x hx with h | h
              · exact .inl h.1
              · exact .inr ⟨by have := h.1; have := ka.size; omega, h.2⟩) ((Kp.after ka hkp2).mono (fun x _ hx => hx.1))
            have HE := Lib.hid hE
            clear hE hx2 hg2 hkp2 hfl
            by_cases he : e1 = 0
            · subst he
              go_wp2_with fail
              exact ⟨HE.out, meas_up hlt⟩
            · have he' : ¬ (e1 : Int) = 0 := by omega
              have h6 := HE.out
              rw [if_neg he] at h6
              have H6 := Lib.hid h6
              clear h6 HE
              go_wp2_with fail
              exact ⟨H6.out, meas_up hlt⟩
          · by_cases h3 : Do = 3
            · subst h3
              have hcr : e1 = 1 ∧ d2 = crashD d' chs := by
                have := HSD.out
                injection this with a b
                exact ⟨a.symm, b.symm⟩
              obtain ⟨rfl, rfl⟩ := hcr
              clear h01 h2
              go_wp2_with fail
              have ka := (Kp.refl (fun _ => False) wr).alloc (.cells #[.int .i64 3, .int .i64 At, .slice Ac CN cc] 57)
              refine (crash_x (ch := chs) (hT.keepN ka) (by omega) (RdC.keepN HC.out.1 ka) ?_ (by omega)).mono ?_
              · intro hne b hb hFb
                have h1 := rdI_blk HC0.out hne b hb
                rcases HG.out b hFb.1 with h | h
                · have := hF b h; omega
                · have := h.1; have := h0.size; omega
              rintro e w5 ⟨⟨u5, rfl⟩, hx2, hkp2⟩
              have hE := HEND.out k' _ w5 (by omega) hx2 (fun x hx => .inl hx.1) ((Kp.after ka hkp2).mono (fun x _ hx => hx.1))
              have HE := Lib.hid hE
              clear hE hx2 hkp2
              go_wp2_with fail
              exact ⟨HE.out, meas_up hlt⟩
            · have hno : e1 = 1 ∧ d2 = d' := by
                have := HSD.out
                unfold stepD at this
                rw [if_neg h01, if_neg h2, if_neg h3] at this
                injection this with a b
                exact ⟨a.symm, b.symm⟩
              obtain ⟨rfl, rfl⟩ := hno
              have h0' : ¬ Do = 0 := fun e => h01 (.inl e)
              have h1' : ¬ Do = 1 := fun e => h01 (.inr e)
              clear h01
              have ka := (Kp.refl (fun _ => False) wr).alloc (.cells #[.int .i64 Do, .int .i64 At, .slice Ac CN cc] 57)
              have hE := HEND.out k' F' _ (by omega) (HX'.out.keepN ka) (Gr.refl _ _ _) (Kp.after ka (Kp.refl F' _))
              have HE := Lib.hid hE
              clear hE
              go_wp2_with fail
              exact ⟨HE.out, meas_up hlt⟩
      · have hfin : runD d l most = (done, d') := by
          rw [← hrun]
          have hql : q < l.length := by rw [HL.out]; exact hlt
          rw [List.drop_eq_getElem_cons hql, runL, if_neg hmo]
        have HFI := Lib.hid hfin
        clear hfin hrun
        go_wp2_with fail
        go_ret
        rw [HFI.out]
        exact ⟨rfl, F', k', by omega, hx, hgr, hkp⟩
    · have hfin : runD d l most = (done, d') := by
        rw [← hrun, List.drop_eq_nil_of_le (by rw [HL.out]; omega)]
        rfl
      have HFI := Lib.hid hfin
      clear hfin hrun
      go_wp2_with fail
      go_ret
      rw [HFI.out]
      exact ⟨rfl, F', k', by omega, hx, hgr, hkp⟩
end Go.Proofs.Ythkbgbbejgpeaaa
