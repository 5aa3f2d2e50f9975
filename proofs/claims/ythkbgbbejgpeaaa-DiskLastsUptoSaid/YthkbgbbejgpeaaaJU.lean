/- A keeper's book in memory: a Flush, a Crash, a step. -/
import Derived.Test.YthkbgbbejgpeaaaJT
namespace Go.Proofs.Ythkbgbbejgpeaaa
open Go Go.RowKit
set_option maxRecDepth 100000

/-- the loop behind a Flush -/
def FlRel (w : World) (B : Nat → Prop) (kb g mb L mc next : Nat) (may : List (List Int)) (i : Value) (wr : World) : Prop :=
  ∃ (q : Nat) (ls : List (Value × List Int)) (B' : Nat → Prop), q ≤ L ∧ i = .int .i64 q ∧ BookM wr B' kb g (.slice (some ⟨mb, 0, none⟩) L mc) ls next ∧ ls.length = L ∧
    (∀ j (h : j < ls.length), ls[j].2 = if j < q then [lastZ (may.getD j [])] else may.getD j []) ∧ Gr w wr B B' ∧ Kp B w wr
/-- behind another form of the book -/
theorem KS.after {w0 w w' : World} {F B B' : Nat → Prop} {kb g k : Nat} {d : Dk} {mv' : Value} {ls' : List (Value × List Int)} {next' : Nat} (h : DiskX w F g k d) (dis : ∀ x, F x → ¬ B x) (fl : ∀ x, F x → w0.heap.size ≤ x ∧ x < w.heap.size) (bl : ∀ x, B x → w0.heap.size ≤ x ∧ x < w.heap.size) (kp0 : KpN w0 w)
    (hb : BookM w' B' kb g mv' ls' next') (hok : BkOk d (ls'.map Prod.snd) next') (hg : Gr w w' B B') (kp : Kp B w w') : KS w0 w' F B' kb g k d mv' ls' next' := by
  refine ⟨h.keep kp dis, hb, hok, fun x h1 h2 => ?_, fun x hx => ⟨(fl x hx).1, by have := (fl x hx).2; have := kp.size; omega⟩, fun x hx => ?_, kp0.fresh kp (fun x hx => (bl x hx).1)⟩
  · rcases hg x h2 with h | h
    · exact dis x h1 h
    · have := (fl x h1).2; have := h.1; omega
  · rcases hg x hx with h | h
    · exact ⟨(bl x h).1, by have := (bl x h).2; have := kp.size; omega⟩
    · exact ⟨by have := h.1; have := kp0.size; omega, h.2⟩
set_option maxHeartbeats 6400000 in
theorem step_flush {w0 w : World} {F B : Nat → Prop} {kb g k : Nat} {d : Dk} {mv : Value} {ls : List (Value × List Int)} {next : Nat} {At : Int} {A : Option Addr} {n c : Nat} (h : KS w0 w F B kb g k d mv ls next) (hk : k ≤ 100000000) :
    Calls Try.prog 38 #[ptrD kb, .agg #[.int .i64 2, .int .i64 At, .slice A n c]] w (StepK w0 kb g k next d.n) := by
  have hll := h.ls_len
  have hn1 := h.dk.n1
  have hn2 := h.dk.n2
  obtain ⟨L, hL⟩ : ∃ L, ls.length = L := ⟨_, rfl⟩
  obtain ⟨mb, mc, hmv, -, -⟩ := h.bk.own.form (by omega)
  rw [hL] at hmv
  subst hmv
  have hLm : L ≤ 65536 := by omega
  have kb1 := (Kp.refl (fun _ => False) w).alloc (.cells #[.int .i64 2, .int .i64 At, .slice A n c] 57)
  have cb0 : (w.alloc (.cells #[.int .i64 2, .int .i64 At, .slice A n c] 57)).cell? ⟨w.heap.size, 0, none⟩ = some (.int .i64 2) := by
    rw [cell_of_row _ _ _ _ _ _ (heap_alloc_new _ _)]
    rfl
  have h1 := h.keepN kb1
  have c10 := h1.bk.c0
  obtain ⟨w1, hw1⟩ : ∃ w1, w.alloc (.cells #[.int .i64 2, .int .i64 At, .slice A n c] 57) = w1 := ⟨_, rfl⟩
  rw [hw1] at kb1 h1
  obtain ⟨d2, hfl, hok2⟩ := h1.ok.flush
  obtain ⟨may, hmay⟩ : ∃ may, ls.map Prod.snd = may := ⟨_, rfl⟩
  rw [hmay] at hok2
  have hdn2 : d2.n = d.n := by have := flush_n d; rwa [hfl] at this
  have hlens : ∀ j, j < L → 0 < (may.getD j []).length ∧ (may.getD j []).length ≤ 200000000 := fun j hj => by
    have hj' : j < (ls.map Prod.snd).length := by simp; omega
    have hE := h1.ok.each j hj'
    have h3 := hE.ca_len
    have h4 := h1.dk.cnt j (by omega)
    have h5 := hE.pos
    have hjl : j < ls.length := by omega
    have e : may.getD j [] = (ls.map Prod.snd)[j] := by rw [← hmay]; simp [hjl]
    rw [e]
    exact ⟨h5, by omega⟩
  have hat : ∀ j (hj : j < ls.length), ls[j].2 = may.getD j [] := fun j hj => by rw [← hmay]; simp [hj]
  have HW1 := Lib.hid hw1
  have H1 := Lib.hid h1
  have HM := Lib.hid (And.intro hok2 (And.intro hdn2 (And.intro hlens (And.intro hat (And.intro hL (show may.length = L by rw [← hmay]; simpa using hL))))))
  have HFL := Lib.hid hfl
  clear h hll hL hw1 h1 hok2 hdn2 hlens hat hmay hfl
  go_enter Try.func38, Try.ntmps38
  go_wp2_with fail
  rw [HW1.out]
  refine (flush_x H1.out.dk).mono ?_
  rw [HFL.out]
  rintro e w2 ⟨rfl, F2, k2, hk2, hx2, hg2, kp2⟩
  have hb2 := H1.out.bk.keep kp2 (fun x hx hF => H1.out.dis x hF hx)
  have hfl2 : ∀ x, F2 x → w0.heap.size ≤ x ∧ x < w2.heap.size := fun x hx => by
    rcases hg2 x hx with hh | hh
    · have := H1.out.fl x hh; exact ⟨this.1, by have := kp2.size; omega⟩
    · exact ⟨by have := hh.1; have := H1.out.kp.size; omega, hh.2⟩
  have hds2 : ∀ x, F2 x → ¬ B x := fun x hx hB => by
    rcases hg2 x hx with hh | hh
    · exact H1.out.dis x hh hB
    · have := hh.1; have := (H1.out.bl x hB).2; omega
  have hbl2 : ∀ x, B x → w0.heap.size ≤ x ∧ x < w2.heap.size := fun x hx => ⟨(H1.out.bl x hx).1, by have := (H1.out.bl x hx).2; have := kp2.size; omega⟩
  have hkp2 : KpN w0 w2 := H1.out.kp.fresh kp2 (fun x hx => (H1.out.fl x hx).1)
  have H2 := Lib.hid (And.intro hx2 (And.intro hds2 (And.intro hfl2 (And.intro hbl2 (And.intro hkp2 hb2)))))
  clear hx2 hg2 kp2 hb2 hfl2 hds2 hbl2 hkp2 c10 cb0
  go_wp2_with fail
  go_loopw [8, 9] (fun i _ wr => FlRel w2 B kb g mb L mc next may i wr) (fun i _ _ => L - (intOf i).toNat)
  case atStart => exact ⟨0, ls, B, Nat.zero_le _, rfl, H2.out.2.2.2.2.2, HM.out.2.2.2.2.1, fun j hj => by rw [if_neg (by omega)]; exact HM.out.2.2.2.1 j hj, Gr.refl _ _ _, Kp.refl _ _⟩
  case round =>
    obtain ⟨q, lq, B', hq, rfl, hb, hll, hls, hgr, hkp⟩ := hrel
    have c1 := hb.c1
    by_cases hlt : q < L
    · have hql : q < lq.length := by omega
      have hlq : lq[q].2 = may.getD q [] := by rw [hls q hql, if_neg (by omega)]
      have hps := HM.out.2.2.1 q hlt
      have hoq := hb.own.each q hql
      rw [hlq] at hoq
      obtain ⟨mq, hmq⟩ : ∃ mq, may.getD q [] = mq := ⟨_, rfl⟩
      rw [hmq] at hoq hps hlq
      obtain ⟨lv, hlv⟩ : ∃ lv, lq[q].1 = lv := ⟨_, rfl⟩
      have hmc := hb.own.cellAt q hql
      rw [hlv] at hoq hmc
      obtain ⟨lb, M, lc, rfl, hM, hlc⟩ := last_at hoq hps.1
      have hMb : M ≤ 200000000 := by omega
      obtain ⟨Y, hY⟩ : ∃ Y, lastZ mq = Y := ⟨_, rfl⟩
      rw [hY] at hlc
      have HX := Lib.hid (And.intro hlq (And.intro hmq (And.intro hlv (And.intro hY (And.intro hb (And.intro hls (And.intro hgr hoq)))))))
      clear hlq hmq hlv hY hb hls hgr hoq hps hM
      go_wp2_with fail
      refine rg_begin 13 (fun _ => False) (by kernel_rfl) (fun w3 d3 => ?_)
      obtain ⟨hlq, hmq, hlv, hY, hb, hls, hgr, hoq⟩ := HX.out
      have hb3 := hb.keepN d3
      have hmc3 := hb3.own.cellAt q hql
      rw [hlv] at hmc3
      have hmf3 := hb3.own.row.frozenAt' q
      have hmlt3 : mb < w3.heap.size := hb3.own.row.lt mb rfl
      have hlblt : lb < wr.heap.size := hoq.lt lb rfl
      have hlc3 : w3.cell? ⟨lb, M, none⟩ = some (.int .i64 Y) := by rw [d3.cell hlblt (fun x => x)]; exact hlc
      have hz3 := d3.size
      have hwM : IntKind.i64.wrap (M : Int) = (M : Int) := IntWalk.i64_in _ (by omega)
      have hMn : ¬ ((M : Int) + 1 ≤ (M : Int)) := by omega
      refine rg_take 0 (d := (some 96)) (v := .pointer (some ⟨kb, 0, none⟩)) (by decide) rfl rfl (by kernel_rfl) (by kernel_rfl) (by kernel_rfl) (fun _ _ _ h => h) rfl (fun W => rfl) ?_
      conv => arg 8; simp only [Act.put, List.setIfInBounds_toArray, List.set_cons_zero, List.set_cons_succ]
      refine rg_take 1 (d := (some 97)) (v := .pointer (some ⟨kb, 0, none⟩)) (by decide) rfl rfl (by kernel_rfl) (by kernel_rfl) (by kernel_rfl) (fun _ _ _ h => h) rfl (fun W => by go_simp) ?_
      conv => arg 8; simp only [Act.put, List.setIfInBounds_toArray, List.set_cons_zero, List.set_cons_succ]
      refine rg_take 2 (d := (some 98)) (v := .pointer (some ⟨kb, 1, none⟩)) (by decide) rfl rfl (by kernel_rfl) (by kernel_rfl) (by kernel_rfl) (fun _ _ _ h => h) rfl (fun W => by go_simp) ?_
      conv => arg 8; simp only [Act.put, List.setIfInBounds_toArray, List.set_cons_zero, List.set_cons_succ]
      refine rg_read 3 (d := (some 99)) (v := .slice (some ⟨mb, 0, none⟩) L mc) (by decide) (by kernel_rfl) (by kernel_rfl) rfl rfl (by kernel_rfl) (by kernel_rfl) (by kernel_rfl) (fun _ _ _ h => h) rfl (fun W hW => by have hc := (hW.cell (p := ⟨kb, 1, none⟩) (hb3.lt) (fun x => x)).trans (hb3.c1); go_simp) ?_
      conv => arg 8; simp only [Act.put, List.setIfInBounds_toArray, List.set_cons_zero, List.set_cons_succ]
      refine rg_take 4 (d := (some 100)) (v := .int .i64 q) (by decide) rfl rfl (by kernel_rfl) (by kernel_rfl) (by kernel_rfl) (fun _ _ _ h => h) rfl (fun W => rfl) ?_
      conv => arg 8; simp only [Act.put, List.setIfInBounds_toArray, List.set_cons_zero, List.set_cons_succ]
      refine rg_take 5 (d := (some 101)) (v := .slice (some ⟨lb, 0, none⟩) (M+1) lc) (by decide) rfl rfl (by kernel_rfl) (by kernel_rfl) (by kernel_rfl) (fun _ _ _ h => h) rfl (fun W => rfl) ?_
      conv => arg 8; simp only [Act.put, List.setIfInBounds_toArray, List.set_cons_zero, List.set_cons_succ]
      refine rg_take 6 (d := (some 102)) (v := .slice (some ⟨lb, 0, none⟩) (M+1) lc) (by decide) rfl rfl (by kernel_rfl) (by kernel_rfl) (by kernel_rfl) (fun _ _ _ h => h) rfl (fun W => rfl) ?_
      conv => arg 8; simp only [Act.put, List.setIfInBounds_toArray, List.set_cons_zero, List.set_cons_succ]
      refine rg_take 7 (d := (some 103)) (v := .int .i64 ((M : Int) + 1)) (by decide) rfl rfl (by kernel_rfl) (by kernel_rfl) (by kernel_rfl) (fun _ _ _ h => h) rfl (fun W => by go_simp) ?_
      conv => arg 8; simp only [Act.put, List.setIfInBounds_toArray, List.set_cons_zero, List.set_cons_succ]
      refine rg_take 8 (d := (some 104)) (v := .int .i64 (M : Int)) (by decide) rfl rfl (by kernel_rfl) (by kernel_rfl) (by kernel_rfl) (fun _ _ _ h => h) rfl (fun W => by go_simp) ?_
      conv => arg 8; simp only [Act.put, List.setIfInBounds_toArray, List.set_cons_zero, List.set_cons_succ]
      refine rg_take 9 (d := (some 105)) (v := .pointer (some ⟨lb, M, none⟩)) (by decide) rfl rfl (by kernel_rfl) (by kernel_rfl) (by kernel_rfl) (fun _ _ _ h => h) rfl (fun W => by go_simp) ?_
      conv => arg 8; simp only [Act.put, List.setIfInBounds_toArray, List.set_cons_zero, List.set_cons_succ]
      refine rg_read 10 (d := (some 106)) (v := .int .i64 Y) (by decide) (by kernel_rfl) (by kernel_rfl) rfl rfl (by kernel_rfl) (by kernel_rfl) (by kernel_rfl) (fun _ _ _ h => h) rfl (fun W hW => by have hc := (hW.cell (p := ⟨lb, M, none⟩) ((show lb < _ by omega)) (fun x => x)).trans (hlc3); go_simp) ?_
      conv => arg 8; simp only [Act.put, List.setIfInBounds_toArray, List.set_cons_zero, List.set_cons_succ]
      refine rg_onlyW 11 (w' := w3.alloc (.cells #[.int .i64 Y] 3)) (d := (some 107)) (v := .slice (some ⟨w3.heap.size, 0, none⟩) 1 1) rfl rfl (by kernel_rfl) rfl (run_lit1_op Y w3 rfl) ((Kp.refl _ w3).alloc _) ?_
      conv => arg 8; simp only [Act.put, List.setIfInBounds_toArray, List.set_cons_zero, List.set_cons_succ]
      refine rg_take 12 (d := (some 108)) (v := .pointer (some ⟨mb, q, none⟩)) (by decide) rfl rfl (by kernel_rfl) (by kernel_rfl) (by kernel_rfl) (fun _ _ _ h => h) rfl (fun W => by go_simp) ?_
      conv => arg 8; simp only [Act.put, List.setIfInBounds_toArray, List.set_cons_zero, List.set_cons_succ]
      refine rg_lastS (G := fun _ => True) ((w3.alloc (.cells #[.int .i64 Y] 3)).setCell ⟨mb, q, none⟩ (.slice (some ⟨w3.heap.size, 0, none⟩) 1 1)) (d := none) rfl rfl (by kernel_rfl) rfl (run_store_op (run_storeAt_one _ mb q 29 _ (by rw [((Kp.refl (fun _ => False) w3).alloc (.cells #[.int .i64 Y] 3)).cell hmlt3 (fun x => x), hmc3]; rfl) (by rw [((Kp.refl (fun _ => False) w3).alloc (.cells #[.int .i64 Y] 3)).frozen hmlt3 (fun x => x)]; exact hmf3) (by kernel_rfl) rfl rfl) rfl rfl) (by kernel_rfl) ?_
      conv => arg 8; simp only [Act.put, List.setIfInBounds_toArray, List.set_cons_zero, List.set_cons_succ]
      refine rg_done (by kernel_rfl) ?_
      have ka := (Kp.refl (fun _ => False) w3).alloc (.cells #[.int .i64 Y] 3)
      have hza : (w3.alloc (.cells #[.int .i64 Y] 3)).heap.size = w3.heap.size + 1 := by simp
      have hput := hb3.put (G := fun x => B' x ∨ Iv w3.heap.size (w3.heap.size + 1) x) q hql (ka.mono (fun _ _ x => x.elim)) ((ow_lit1 Y w3).wide (fun x _ e => .inr ⟨by omega, by omega⟩)) (.inr (fun x e => by have e : w3.heap.size = x := Option.some.inj e; omega)) (fun x hx => .inl hx)
      have hsz : ((w3.alloc (.cells #[.int .i64 Y] 3)).setCell ⟨mb, q, none⟩ (.slice (some ⟨w3.heap.size, 0, none⟩) 1 1)).heap.size = w3.heap.size + 1 := by simp
      have hmbB : B' mb := hb.own.row.fit mb rfl
      have kall : Kp B' wr ((w3.alloc (.cells #[.int .i64 Y] 3)).setCell ⟨mb, q, none⟩ (.slice (some ⟨w3.heap.size, 0, none⟩) 1 1)) := (((Kp.refl B' wr).thenN d3).thenN ka).trans (kp1_set (F := fun x => x = mb) rfl q _) (fun _ _ x => x) (fun x _ e => by rw [e]; exact hmbB)
      have hrel' : FlRel w2 B kb g mb L mc next may (.int .i64 ((q : Int) + 1)) ((w3.alloc (.cells #[.int .i64 Y] 3)).setCell ⟨mb, q, none⟩ (.slice (some ⟨w3.heap.size, 0, none⟩) 1 1)) := by
        refine ⟨q + 1, _, _, by omega, by go_num, hput, by rw [List.length_set]; exact hll, fun j hj => ?_, hgr.trans (fun x hx => ?_) hkp.size kall.size, hgr.kp hkp kall⟩
        · rw [List.length_set] at hj
          by_cases hje : j = q
          · subst hje
            rw [List.getElem_set_self, if_pos (by omega), hmq, hY]
          · rw [List.getElem_set_ne (Ne.symm hje), hls j hj]
            by_cases hjq : j < q
            · rw [if_pos hjq, if_pos (by omega)]
            · rw [if_neg hjq, if_neg (by omega)]
        · rw [hsz]
          rcases hx with h | h
          · exact .inl h
          · exact .inr ⟨by have := h.1; omega, h.2⟩
      clear hput hsz kall hza hwM hMn
      generalize ((w3.alloc (.cells #[.int .i64 Y] 3)).setCell ⟨mb, q, none⟩ (.slice (some ⟨w3.heap.size, 0, none⟩) 1 1)) = WE at hrel' ⊢
      have HR := Lib.hid hrel'
      clear hrel' hlq hmq hlv hY hb hls hgr hoq hmc3 hmf3 hb3 hlc3
      go_wp2_with fail
      exact ⟨HR.out, meas_up hlt⟩
    · have hqL : L = q := by omega
      subst hqL
      have hfin : lq.map Prod.snd = may.map fun l => [lastZ l] := by
        have hml := HM.out.2.2.2.2.2
        apply List.ext_getElem
        · simp [hll, hml]
        · intro j h1 h2
          have hj : j < lq.length := by simpa using h1
          have hjm : j < may.length := by omega
          rw [List.getElem_map, hls j hj, if_pos (by omega)]
          simp [hjm]
      have hks := KS.after H2.out.1 H2.out.2.1 H2.out.2.2.1 H2.out.2.2.2.1 H2.out.2.2.2.2.1 hb (by rw [hfin]; exact HM.out.1) hgr hkp
      have HK := Lib.hid hks
      clear hb hls hfin hks hgr
      go_wp2_with fail
      go_ret
      exact ⟨rfl, _, _, _, _, _, _, _, hk2, by omega, HM.out.2.1, HK.out⟩
end Go.Proofs.Ythkbgbbejgpeaaa
