/- A keeper's book in memory: crashed. -/
import Derived.Test.YthkbgbbejgpeaaaJR
namespace Go.Proofs.Ythkbgbbejgpeaaa
open Go Go.RowKit
set_option maxRecDepth 100000

theorem run_lit1_op (z : Int) (w : World) {a : Act} {dst : Option Tmp} {ty : TypeId} {x : Operand} {pos : String} {af : Array Edge} {gd : Option (Nat × Bool)} (hx : a.eval x = .int .i64 z) :
    (execOp a.eval { dst := dst, op := .buildSlice 29 1 #[(0, x)], type := ty, pos := pos, after := af, guard := gd }).run Try.prog w = .ok (.value (.slice (some ⟨w.heap.size, 0, none⟩) 1 1)) (w.alloc (.cells #[.int .i64 z] 3)) := by
  unfold execOp
  simp only [List.map_toArray, List.map_cons, List.map_nil, hx, Sem.run_bind]
  have : (Instr.buildSlice 29 1 #[(0, .int .i64 z)]).run Try.prog w = .ok (.slice (some ⟨w.heap.size, 0, none⟩) 1 1) (w.alloc (.cells #[.int .i64 z] 3)) := by
    kernel_rfl
  rw [this]
  simp only [Result.andThen_ok, Sem.run_pure]
/-- a list of one number of the call's own -/
theorem ow_lit1 (z : Int) (w : World) : OwI (w.alloc (.cells #[.int .i64 z] 3)) (fun x => x = w.heap.size) (.slice (some ⟨w.heap.size, 0, none⟩) 1 1) [z] := by
  have := OwC.lit w 3 1 1 #[.int .i64 z] (by simp [maxLen]) rfl
  exact this.wide (fun b _ hb => by have := hb.1; have := hb.2; omega)
/-- the loop of 'crashed' -/
def CrashRel (w : World) (B : Nat → Prop) (kb g mb L mc next : Nat) (may : List (List Int)) (ch : List Int) (a i : Value) (wr : World) : Prop :=
  ∃ (q : Nat) (ls : List (Value × List Int)) (B' : Nat → Prop), q ≤ L ∧ i = .int .i64 q ∧ a = .int .i64 (cntB may q : Nat) ∧ BookM wr B' kb g (.slice (some ⟨mb, 0, none⟩) L mc) ls next ∧ ls.length = L ∧
    (∀ j (h : j < ls.length), ls[j].2 = if j < q then (crB may ch 0).getD j [] else may.getD j []) ∧ Gr w wr B B' ∧ Kp B w wr
theorem cnt_succ (may : List (List Int)) (q : Nat) (h : q < may.length) : cntB may (q + 1) = cntB may q + if may[q].length = 1 then 0 else 1 := by
  unfold cntB
  rw [List.take_succ_eq_append_getElem h, List.filter_append, List.length_append]
  congr 1
  by_cases hl : may[q].length = 1 <;> simp [hl]
theorem cnt_le (may : List (List Int)) (q : Nat) : cntB may q ≤ q := by
  unfold cntB
  exact Nat.le_trans (List.length_filter_le _ _) (List.length_take_le _ _)
def CrashedP (w : World) (B : Nat → Prop) (kb g mb L mc next : Nat) (may : List (List Int)) (e : Ending) (w' : World) : Prop := (∃ u, e = .returned u) ∧ ∃ B' ls', BookM w' B' kb g (.slice (some ⟨mb, 0, none⟩) L mc) ls' next ∧ ls'.map Prod.snd = may ∧ Gr w w' B B' ∧ Kp B w w'
set_option maxHeartbeats 3200000 in
theorem crashed_c {w0 w : World} {B : Nat → Prop} {kb g mb L mc next : Nat} {ls : List (Value × List Int)} {A : Option Addr} {n c : Nat} {ch : List Int} (h : BookM w B kb g (.slice (some ⟨mb, 0, none⟩) L mc) ls next) (hL : ls.length = L) (hL2 : L ≤ 65536) (hch : RdI w0 (.slice A n c) ch) (hci : ∀ z ∈ ch, I64 z) (hp : ∀ l ∈ ls, 0 < l.2.length ∧ l.2.length ≤ 1000000000) (h0 : KpN w0 w) (hB : ∀ x, B x → w0.heap.size ≤ x) (hBl : ∀ x, B x → x < w.heap.size) :
    Calls Try.prog 58 #[ptrD kb, .slice A n c] w (CrashedP w B kb g mb L mc next (crB (ls.map Prod.snd) ch 0)) := by
  obtain ⟨may, hmay⟩ : ∃ may, ls.map Prod.snd = may := ⟨_, rfl⟩
  have hml : may.length = L := by rw [← hmay, ← hL]; simp
  have hat : ∀ j (h : j < ls.length), ls[j].2 = may.getD j [] := fun j h => by
    rw [← hmay]
    simp [h]
  have hpos : ∀ j, j < L → 0 < (may.getD j []).length ∧ (may.getD j []).length ≤ 1000000000 := fun j hj => by
    rw [← hat j (by omega)]
    exact hp _ (List.getElem_mem _)
  have hnl := rdI_len hch
  have HH := Lib.hid h
  have HAT := Lib.hid (And.intro hat (And.intro hml (And.intro hpos (And.intro hmay hL))))
  have HCH := Lib.hid (And.intro hch (And.intro hci hnl))
  have HBB := Lib.hid (And.intro hB hBl)
  have H0 := Lib.hid h0
  rw [hmay]
  clear hat hml hpos hmay hL hch hci hnl h hp hB hBl h0
  go_enter Try.func58, Try.ntmps58
  go_wp2_with fail
  go_loopw [4, 5] (fun a i wr => CrashRel w B kb g mb L mc next may ch a i wr) (fun _ i _ => L - (intOf i).toNat)
  case atStart => exact ⟨0, ls, B, Nat.zero_le _, rfl, rfl, HH.out, HAT.out.2.2.2.2, fun j hj => by rw [if_neg (by omega)]; exact HAT.out.1 j hj, Gr.refl _ _ _, Kp.refl _ _⟩
  case round =>
    obtain ⟨q, ls, B', hq, rfl, rfl, hb, hll, hls, hgr, hkp⟩ := hrel
    have c1 := hb.c1
    by_cases hlt : q < L
    · have hql : q < ls.length := by omega
      have hqm : q < may.length := by rw [HAT.out.2.1]; exact hlt
      have hcs := cnt_succ may q hqm
      have hcl := cnt_le may q
      have hcrq := crB_at may ch 0 q hqm
      rw [Nat.zero_add] at hcrq
      have hgd : may.getD q [] = may[q] := by simp [hqm]
      have hlq : ls[q].2 = may[q] := by rw [hls q hql, if_neg (by omega), hgd]
      have hps := HAT.out.2.2.1 q hlt
      rw [hgd] at hps
      have hoq := hb.own.each q hql
      rw [hlq] at hoq
      obtain ⟨lv, hlv⟩ : ∃ lv, ls[q].1 = lv := ⟨_, rfl⟩
      have hmc := hb.own.cellAt q hql
      rw [hlv] at hoq hmc
      obtain ⟨lb, lc, rfl, -, -⟩ := hoq.form hps.1
      have hcd : (crB may ch 0).getD q [] = (crB may ch 0)[q]'(by rw [crB_length]; exact hqm) := by simp [crB_length, hqm]
      obtain ⟨CT, hCT⟩ : ∃ CT, cntB may q = CT := ⟨_, rfl⟩
      rw [hCT] at hcs hcrq hcl ⊢
      by_cases hl1 : may[q].length = 1
      · rw [if_pos hl1] at hcs hcrq
        have hrel' : CrashRel w B kb g mb L mc next may ch (.int .i64 (CT : Nat)) (.int .i64 ((q : Int) + 1)) wr := by
          refine ⟨q + 1, ls, B', by omega, by go_num, by rw [hcs]; rfl, hb, hll, fun j hj => ?_, hgr, hkp⟩
          rw [hls j hj]
          by_cases hjq : j < q
          · rw [if_pos hjq, if_pos (by omega)]
          · rw [if_neg hjq]
            by_cases hje : j = q
            · subst hje
              rw [if_pos (by omega), hcd, hcrq, hgd]
            · rw [if_neg (by omega)]
        have HR := Lib.hid hrel'
        rw [hl1] at hmc
        clear hrel' hcs hcrq hgd hlq hps hoq hlv hcd hCT hb hls hgr hl1
        go_wp2_with fail
        exact ⟨HR.out, meas_up hlt⟩
      · rw [if_neg hl1] at hcs hcrq
        obtain ⟨LL, hLL⟩ : ∃ LL, may[q].length = LL := ⟨_, rfl⟩
        rw [hLL] at hmc hlv hps hl1
        have hl1' : ¬ (LL : Int) = 1 := by omega
        obtain ⟨ZZ, hZZ⟩ : ∃ ZZ, ch.getD CT 0 = ZZ := ⟨_, rfl⟩
        have hzi : I64 ZZ := by
          rw [← hZZ]
          by_cases hcn : CT < ch.length
          · have : ch.getD CT 0 = ch[CT] := by simp [hcn]
            rw [this]
            exact HCH.out.2.1 _ (List.getElem_mem hcn)
          · have : ch.getD CT 0 = 0 := by simp [hcn]
            rw [this]
            exact ⟨by omega, by omega⟩
        obtain ⟨Y, hY⟩ : ∃ Y, chosenZ may[q] ZZ = Y := ⟨_, rfl⟩
        have HY := Lib.hid hY
        have HLL := Lib.hid hLL
        have HX := Lib.hid (And.intro hcs (And.intro hcrq (And.intro hgd (And.intro hlq (And.intro hps (And.intro hoq (And.intro hlv (And.intro hcd (And.intro hb (And.intro hls (And.intro hgr hl1)))))))))))
        have hw1 : CT ≤ 1000000 := by omega
        clear hY hLL hcs hcrq hgd hlq hps hoq hlv hcd hCT hls hgr hl1 hb
        by_cases hcn : CT < n
        · obtain ⟨cad, rfl, hcc⟩ := rdI_at (HCH.out.1.keepN (H0.out.fresh hkp HBB.out.1)) CT (by have := HCH.out.2.2; omega)
          have hz2 : ch[CT]'(by have := HCH.out.2.2; omega) = ZZ := by
            rw [← hZZ]
            have : CT < ch.length := by have := HCH.out.2.2; omega
            simp [this]
          rw [hz2] at hcc
          have HZZ := Lib.hid hZZ
          clear hz2 hZZ
          go_wp2_with fail
          have hZZ := HZZ.out
          obtain ⟨hcs, hcrq, hgd, hlq, hps, hoq, hlv, hcd, hb, hls, hgr, hl1⟩ := HX.out
          have hCT := True.intro
          refine rg_begin 16 (fun _ => False) (by kernel_rfl) (fun w3 d3 => ?_)
          have hb3 := hb.keepN d3
          have hz3 := d3.size
          have hrd3 : RdI w3 (.slice (some ⟨lb, 0, none⟩) LL lc) may[q] := by have := hoq.rd.keepN d3; rwa [HLL.out] at this
          have hmc3 := hb3.own.cellAt q hql
          rw [hlv] at hmc3
          have hmf3 := hb3.own.row.frozenAt' q
          have hmlt3 : mb < w3.heap.size := hb3.own.row.lt mb rfl
          refine rg_take 0 (d := (some 35)) (v := .pointer (some ⟨kb, 0, none⟩)) (by decide) rfl rfl (by kernel_rfl) (by kernel_rfl) (by kernel_rfl) (fun _ _ _ h => h) rfl (fun W => rfl) ?_
          conv => arg 8; simp only [Act.put, List.setIfInBounds_toArray, List.set_cons_zero, List.set_cons_succ]
          refine rg_take 1 (d := (some 36)) (v := .pointer (some ⟨kb, 0, none⟩)) (by decide) rfl rfl (by kernel_rfl) (by kernel_rfl) (by kernel_rfl) (fun _ _ _ h => h) rfl (fun W => by go_simp) ?_
          conv => arg 8; simp only [Act.put, List.setIfInBounds_toArray, List.set_cons_zero, List.set_cons_succ]
          refine rg_take 2 (d := (some 37)) (v := .pointer (some ⟨kb, 1, none⟩)) (by decide) rfl rfl (by kernel_rfl) (by kernel_rfl) (by kernel_rfl) (fun _ _ _ h => h) rfl (fun W => by go_simp) ?_
          conv => arg 8; simp only [Act.put, List.setIfInBounds_toArray, List.set_cons_zero, List.set_cons_succ]
          refine rg_read 3 (d := (some 38)) (v := .slice (some ⟨mb, 0, none⟩) L mc) (by decide) (by kernel_rfl) (by kernel_rfl) rfl rfl (by kernel_rfl) (by kernel_rfl) (by kernel_rfl) (fun _ _ _ h => h) rfl (fun W hW => by have hc := (hW.cell (p := ⟨kb, 1, none⟩) (hb3.lt) (fun x => x)).trans (hb3.c1); go_simp) ?_
          conv => arg 8; simp only [Act.put, List.setIfInBounds_toArray, List.set_cons_zero, List.set_cons_succ]
          refine rg_take 4 (d := (some 39)) (v := .int .i64 q) (by decide) rfl rfl (by kernel_rfl) (by kernel_rfl) (by kernel_rfl) (fun _ _ _ h => h) rfl (fun W => rfl) ?_
          conv => arg 8; simp only [Act.put, List.setIfInBounds_toArray, List.set_cons_zero, List.set_cons_succ]
          refine rg_take 5 (d := (some 40)) (v := .pointer (some ⟨kb, 0, none⟩)) (by decide) rfl rfl (by kernel_rfl) (by kernel_rfl) (by kernel_rfl) (fun _ _ _ h => h) rfl (fun W => rfl) ?_
          conv => arg 8; simp only [Act.put, List.setIfInBounds_toArray, List.set_cons_zero, List.set_cons_succ]
          refine rg_take 6 (d := (some 41)) (v := .pointer (some ⟨kb, 0, none⟩)) (by decide) rfl rfl (by kernel_rfl) (by kernel_rfl) (by kernel_rfl) (fun _ _ _ h => h) rfl (fun W => by go_simp) ?_
          conv => arg 8; simp only [Act.put, List.setIfInBounds_toArray, List.set_cons_zero, List.set_cons_succ]
          refine rg_take 7 (d := (some 42)) (v := .pointer (some ⟨kb, 1, none⟩)) (by decide) rfl rfl (by kernel_rfl) (by kernel_rfl) (by kernel_rfl) (fun _ _ _ h => h) rfl (fun W => by go_simp) ?_
          conv => arg 8; simp only [Act.put, List.setIfInBounds_toArray, List.set_cons_zero, List.set_cons_succ]
          refine rg_read 8 (d := (some 43)) (v := .slice (some ⟨mb, 0, none⟩) L mc) (by decide) (by kernel_rfl) (by kernel_rfl) rfl rfl (by kernel_rfl) (by kernel_rfl) (by kernel_rfl) (fun _ _ _ h => h) rfl (fun W hW => by have hc := (hW.cell (p := ⟨kb, 1, none⟩) (hb3.lt) (fun x => x)).trans (hb3.c1); go_simp) ?_
          conv => arg 8; simp only [Act.put, List.setIfInBounds_toArray, List.set_cons_zero, List.set_cons_succ]
          refine rg_take 9 (d := (some 44)) (v := .int .i64 q) (by decide) rfl rfl (by kernel_rfl) (by kernel_rfl) (by kernel_rfl) (fun _ _ _ h => h) rfl (fun W => rfl) ?_
          conv => arg 8; simp only [Act.put, List.setIfInBounds_toArray, List.set_cons_zero, List.set_cons_succ]
          refine rg_take 10 (d := (some 45)) (v := .pointer (some ⟨mb, q, none⟩)) (by decide) rfl rfl (by kernel_rfl) (by kernel_rfl) (by kernel_rfl) (fun _ _ _ h => h) rfl (fun W => by go_simp) ?_
          conv => arg 8; simp only [Act.put, List.setIfInBounds_toArray, List.set_cons_zero, List.set_cons_succ]
          refine rg_read 11 (d := (some 46)) (v := .slice (some ⟨lb, 0, none⟩) LL lc) (by decide) (by kernel_rfl) (by kernel_rfl) rfl rfl (by kernel_rfl) (by kernel_rfl) (by kernel_rfl) (fun _ _ _ h => h) rfl (fun W hW => by have hc := (hW.cell (p := ⟨mb, q, none⟩) (hmlt3) (fun x => x)).trans (hmc3); go_simp) ?_
          conv => arg 8; simp only [Act.put, List.setIfInBounds_toArray, List.set_cons_zero, List.set_cons_succ]
          refine rg_take 12 (d := (some 47)) (v := .int .i64 ZZ) (by decide) rfl rfl (by kernel_rfl) (by kernel_rfl) (by kernel_rfl) (fun _ _ _ h => h) rfl (fun W => rfl) ?_
          conv => arg 8; simp only [Act.put, List.setIfInBounds_toArray, List.set_cons_zero, List.set_cons_succ]
          refine rg_call 13 (d := (some 48)) (by kernel_rfl) (chosen_c hrd3 hzi) rfl rfl (by kernel_rfl) rfl rfl ?_
          rintro e w4 ⟨rfl, rfl⟩
          refine ⟨_, rfl, Kp.refl _ _, ?_⟩
          conv => arg 8; simp only [Act.put, List.setIfInBounds_toArray, List.set_cons_zero, List.set_cons_succ]
          rw [HY.out]
          refine rg_onlyW 14 (w' := w3.alloc (.cells #[.int .i64 Y] 3)) (d := (some 49)) (v := .slice (some ⟨w3.heap.size, 0, none⟩) 1 1) rfl rfl (by kernel_rfl) rfl (run_lit1_op Y w3 rfl) ((Kp.refl _ w3).alloc _) ?_
          conv => arg 8; simp only [Act.put, List.setIfInBounds_toArray, List.set_cons_zero, List.set_cons_succ]
          refine rg_take 15 (d := (some 50)) (v := .pointer (some ⟨mb, q, none⟩)) (by decide) rfl rfl (by kernel_rfl) (by kernel_rfl) (by kernel_rfl) (fun _ _ _ h => h) rfl (fun W => by go_simp) ?_
          conv => arg 8; simp only [Act.put, List.setIfInBounds_toArray, List.set_cons_zero, List.set_cons_succ]
          refine rg_lastS (G := fun _ => True) ((w3.alloc (.cells #[.int .i64 Y] 3)).setCell ⟨mb, q, none⟩ (.slice (some ⟨w3.heap.size, 0, none⟩) 1 1)) (d := none) rfl rfl (by kernel_rfl) rfl (run_store_op (run_storeAt_one _ mb q 29 _ (by rw [((Kp.refl (fun _ => False) w3).alloc (.cells #[.int .i64 Y] 3)).cell hmlt3 (fun x => x), hmc3]; rfl) (by rw [((Kp.refl (fun _ => False) w3).alloc (.cells #[.int .i64 Y] 3)).frozen hmlt3 (fun x => x)]; exact hmf3) (by kernel_rfl) rfl rfl) rfl rfl) (by kernel_rfl) ?_
          conv => arg 8; simp only [Act.put, List.setIfInBounds_toArray, List.set_cons_zero, List.set_cons_succ]
          refine rg_done (by kernel_rfl) ?_
          have ka := (Kp.refl (fun _ => False) w3).alloc (.cells #[.int .i64 Y] 3)
          have hza : (w3.alloc (.cells #[.int .i64 Y] 3)).heap.size = w3.heap.size + 1 := by simp
          have hput := hb3.put (G := fun x => B' x ∨ Iv w3.heap.size (w3.heap.size + 1) x) q hql (ka.mono (fun _ _ x => x.elim)) ((ow_lit1 Y w3).wide (fun x _ e => .inr ⟨by omega, by omega⟩)) (.inr (fun x e => by have e : w3.heap.size = x := Option.some.inj e; omega)) (fun x hx => .inl hx)
          have hsz : ((w3.alloc (.cells #[.int .i64 Y] 3)).setCell ⟨mb, q, none⟩ (.slice (some ⟨w3.heap.size, 0, none⟩) 1 1)).heap.size = w3.heap.size + 1 := by simp
          have hmbB : B' mb := hb.own.row.fit mb rfl
          have kall : Kp B' wr ((w3.alloc (.cells #[.int .i64 Y] 3)).setCell ⟨mb, q, none⟩ (.slice (some ⟨w3.heap.size, 0, none⟩) 1 1)) := (((Kp.refl B' wr).thenN d3).thenN ka).trans (kp1_set (F := fun x => x = mb) rfl q _) (fun _ _ x => x) (fun x _ e => by rw [e]; exact hmbB)
          have hrel' : CrashRel w B kb g mb L mc next may ch (.int .i64 ((CT : Int) + 1)) (.int .i64 ((q : Int) + 1)) ((w3.alloc (.cells #[.int .i64 Y] 3)).setCell ⟨mb, q, none⟩ (.slice (some ⟨w3.heap.size, 0, none⟩) 1 1)) := by
            refine ⟨q + 1, _, _, by omega, by go_num, by rw [hcs]; go_num, hput, by rw [List.length_set]; exact hll, fun j hj => ?_, hgr.trans (fun x hx => ?_) hkp.size kall.size, hgr.kp hkp kall⟩
            · rw [List.length_set] at hj
              by_cases hje : j = q
              · subst hje
                rw [List.getElem_set_self, if_pos (by omega), hcd, hcrq, hZZ, HY.out]
              · rw [List.getElem_set_ne (Ne.symm hje), hls j hj]
                by_cases hjq : j < q
                · rw [if_pos hjq, if_pos (by omega)]
                · rw [if_neg hjq, if_neg (by omega)]
            · rw [hsz]
              rcases hx with h | h
              · exact .inl h
              · exact .inr ⟨by have := h.1; omega, h.2⟩
          clear hput hsz kall hza
          generalize ((w3.alloc (.cells #[.int .i64 Y] 3)).setCell ⟨mb, q, none⟩ (.slice (some ⟨w3.heap.size, 0, none⟩) 1 1)) = WE at hrel' ⊢
          have HR := Lib.hid hrel'
          clear hrel' hcs hcrq hgd hlq hps hoq hlv hcd hCT hb hls hgr hl1 hmc3 hmf3 hrd3 hb3
          go_wp2_with fail
          exact ⟨HR.out, meas_up hlt⟩
        · have hz2 : ZZ = 0 := by
            rw [← hZZ]
            have : ¬ CT < ch.length := by have := HCH.out.2.2; omega
            simp [this]
          subst hz2
          have HZZ := Lib.hid hZZ
          clear hZZ
          go_wp2_with fail
          have hZZ := HZZ.out
          obtain ⟨hcs, hcrq, hgd, hlq, hps, hoq, hlv, hcd, hb, hls, hgr, hl1⟩ := HX.out
          have hCT := True.intro
          refine rg_begin 16 (fun _ => False) (by kernel_rfl) (fun w3 d3 => ?_)
          have hb3 := hb.keepN d3
          have hz3 := d3.size
          have hrd3 : RdI w3 (.slice (some ⟨lb, 0, none⟩) LL lc) may[q] := by have := hoq.rd.keepN d3; rwa [HLL.out] at this
          have hmc3 := hb3.own.cellAt q hql
          rw [hlv] at hmc3
          have hmf3 := hb3.own.row.frozenAt' q
          have hmlt3 : mb < w3.heap.size := hb3.own.row.lt mb rfl
          refine rg_take 0 (d := (some 35)) (v := .pointer (some ⟨kb, 0, none⟩)) (by decide) rfl rfl (by kernel_rfl) (by kernel_rfl) (by kernel_rfl) (fun _ _ _ h => h) rfl (fun W => rfl) ?_
          conv => arg 8; simp only [Act.put, List.setIfInBounds_toArray, List.set_cons_zero, List.set_cons_succ]
          refine rg_take 1 (d := (some 36)) (v := .pointer (some ⟨kb, 0, none⟩)) (by decide) rfl rfl (by kernel_rfl) (by kernel_rfl) (by kernel_rfl) (fun _ _ _ h => h) rfl (fun W => by go_simp) ?_
          conv => arg 8; simp only [Act.put, List.setIfInBounds_toArray, List.set_cons_zero, List.set_cons_succ]
          refine rg_take 2 (d := (some 37)) (v := .pointer (some ⟨kb, 1, none⟩)) (by decide) rfl rfl (by kernel_rfl) (by kernel_rfl) (by kernel_rfl) (fun _ _ _ h => h) rfl (fun W => by go_simp) ?_
          conv => arg 8; simp only [Act.put, List.setIfInBounds_toArray, List.set_cons_zero, List.set_cons_succ]
          refine rg_read 3 (d := (some 38)) (v := .slice (some ⟨mb, 0, none⟩) L mc) (by decide) (by kernel_rfl) (by kernel_rfl) rfl rfl (by kernel_rfl) (by kernel_rfl) (by kernel_rfl) (fun _ _ _ h => h) rfl (fun W hW => by have hc := (hW.cell (p := ⟨kb, 1, none⟩) (hb3.lt) (fun x => x)).trans (hb3.c1); go_simp) ?_
          conv => arg 8; simp only [Act.put, List.setIfInBounds_toArray, List.set_cons_zero, List.set_cons_succ]
          refine rg_take 4 (d := (some 39)) (v := .int .i64 q) (by decide) rfl rfl (by kernel_rfl) (by kernel_rfl) (by kernel_rfl) (fun _ _ _ h => h) rfl (fun W => rfl) ?_
          conv => arg 8; simp only [Act.put, List.setIfInBounds_toArray, List.set_cons_zero, List.set_cons_succ]
          refine rg_take 5 (d := (some 40)) (v := .pointer (some ⟨kb, 0, none⟩)) (by decide) rfl rfl (by kernel_rfl) (by kernel_rfl) (by kernel_rfl) (fun _ _ _ h => h) rfl (fun W => rfl) ?_
          conv => arg 8; simp only [Act.put, List.setIfInBounds_toArray, List.set_cons_zero, List.set_cons_succ]
          refine rg_take 6 (d := (some 41)) (v := .pointer (some ⟨kb, 0, none⟩)) (by decide) rfl rfl (by kernel_rfl) (by kernel_rfl) (by kernel_rfl) (fun _ _ _ h => h) rfl (fun W => by go_simp) ?_
          conv => arg 8; simp only [Act.put, List.setIfInBounds_toArray, List.set_cons_zero, List.set_cons_succ]
          refine rg_take 7 (d := (some 42)) (v := .pointer (some ⟨kb, 1, none⟩)) (by decide) rfl rfl (by kernel_rfl) (by kernel_rfl) (by kernel_rfl) (fun _ _ _ h => h) rfl (fun W => by go_simp) ?_
          conv => arg 8; simp only [Act.put, List.setIfInBounds_toArray, List.set_cons_zero, List.set_cons_succ]
          refine rg_read 8 (d := (some 43)) (v := .slice (some ⟨mb, 0, none⟩) L mc) (by decide) (by kernel_rfl) (by kernel_rfl) rfl rfl (by kernel_rfl) (by kernel_rfl) (by kernel_rfl) (fun _ _ _ h => h) rfl (fun W hW => by have hc := (hW.cell (p := ⟨kb, 1, none⟩) (hb3.lt) (fun x => x)).trans (hb3.c1); go_simp) ?_
          conv => arg 8; simp only [Act.put, List.setIfInBounds_toArray, List.set_cons_zero, List.set_cons_succ]
          refine rg_take 9 (d := (some 44)) (v := .int .i64 q) (by decide) rfl rfl (by kernel_rfl) (by kernel_rfl) (by kernel_rfl) (fun _ _ _ h => h) rfl (fun W => rfl) ?_
          conv => arg 8; simp only [Act.put, List.setIfInBounds_toArray, List.set_cons_zero, List.set_cons_succ]
          refine rg_take 10 (d := (some 45)) (v := .pointer (some ⟨mb, q, none⟩)) (by decide) rfl rfl (by kernel_rfl) (by kernel_rfl) (by kernel_rfl) (fun _ _ _ h => h) rfl (fun W => by go_simp) ?_
          conv => arg 8; simp only [Act.put, List.setIfInBounds_toArray, List.set_cons_zero, List.set_cons_succ]
          refine rg_read 11 (d := (some 46)) (v := .slice (some ⟨lb, 0, none⟩) LL lc) (by decide) (by kernel_rfl) (by kernel_rfl) rfl rfl (by kernel_rfl) (by kernel_rfl) (by kernel_rfl) (fun _ _ _ h => h) rfl (fun W hW => by have hc := (hW.cell (p := ⟨mb, q, none⟩) (hmlt3) (fun x => x)).trans (hmc3); go_simp) ?_
          conv => arg 8; simp only [Act.put, List.setIfInBounds_toArray, List.set_cons_zero, List.set_cons_succ]
          refine rg_take 12 (d := (some 47)) (v := .int .i64 0) (by decide) rfl rfl (by kernel_rfl) (by kernel_rfl) (by kernel_rfl) (fun _ _ _ h => h) rfl (fun W => rfl) ?_
          conv => arg 8; simp only [Act.put, List.setIfInBounds_toArray, List.set_cons_zero, List.set_cons_succ]
          refine rg_call 13 (d := (some 48)) (by kernel_rfl) (chosen_c hrd3 hzi) rfl rfl (by kernel_rfl) rfl rfl ?_
          rintro e w4 ⟨rfl, rfl⟩
          refine ⟨_, rfl, Kp.refl _ _, ?_⟩
          conv => arg 8; simp only [Act.put, List.setIfInBounds_toArray, List.set_cons_zero, List.set_cons_succ]
          rw [HY.out]
          refine rg_onlyW 14 (w' := w3.alloc (.cells #[.int .i64 Y] 3)) (d := (some 49)) (v := .slice (some ⟨w3.heap.size, 0, none⟩) 1 1) rfl rfl (by kernel_rfl) rfl (run_lit1_op Y w3 rfl) ((Kp.refl _ w3).alloc _) ?_
          conv => arg 8; simp only [Act.put, List.setIfInBounds_toArray, List.set_cons_zero, List.set_cons_succ]
          refine rg_take 15 (d := (some 50)) (v := .pointer (some ⟨mb, q, none⟩)) (by decide) rfl rfl (by kernel_rfl) (by kernel_rfl) (by kernel_rfl) (fun _ _ _ h => h) rfl (fun W => by go_simp) ?_
          conv => arg 8; simp only [Act.put, List.setIfInBounds_toArray, List.set_cons_zero, List.set_cons_succ]
          refine rg_lastS (G := fun _ => True) ((w3.alloc (.cells #[.int .i64 Y] 3)).setCell ⟨mb, q, none⟩ (.slice (some ⟨w3.heap.size, 0, none⟩) 1 1)) (d := none) rfl rfl (by kernel_rfl) rfl (run_store_op (run_storeAt_one _ mb q 29 _ (by rw [((Kp.refl (fun _ => False) w3).alloc (.cells #[.int .i64 Y] 3)).cell hmlt3 (fun x => x), hmc3]; rfl) (by rw [((Kp.refl (fun _ => False) w3).alloc (.cells #[.int .i64 Y] 3)).frozen hmlt3 (fun x => x)]; exact hmf3) (by kernel_rfl) rfl rfl) rfl rfl) (by kernel_rfl) ?_
          conv => arg 8; simp only [Act.put, List.setIfInBounds_toArray, List.set_cons_zero, List.set_cons_succ]
          refine rg_done (by kernel_rfl) ?_
          have ka := (Kp.refl (fun _ => False) w3).alloc (.cells #[.int .i64 Y] 3)
          have hza : (w3.alloc (.cells #[.int .i64 Y] 3)).heap.size = w3.heap.size + 1 := by simp
          have hput := hb3.put (G := fun x => B' x ∨ Iv w3.heap.size (w3.heap.size + 1) x) q hql (ka.mono (fun _ _ x => x.elim)) ((ow_lit1 Y w3).wide (fun x _ e => .inr ⟨by omega, by omega⟩)) (.inr (fun x e => by have e : w3.heap.size = x := Option.some.inj e; omega)) (fun x hx => .inl hx)
          have hsz : ((w3.alloc (.cells #[.int .i64 Y] 3)).setCell ⟨mb, q, none⟩ (.slice (some ⟨w3.heap.size, 0, none⟩) 1 1)).heap.size = w3.heap.size + 1 := by simp
          have hmbB : B' mb := hb.own.row.fit mb rfl
          have kall : Kp B' wr ((w3.alloc (.cells #[.int .i64 Y] 3)).setCell ⟨mb, q, none⟩ (.slice (some ⟨w3.heap.size, 0, none⟩) 1 1)) := (((Kp.refl B' wr).thenN d3).thenN ka).trans (kp1_set (F := fun x => x = mb) rfl q _) (fun _ _ x => x) (fun x _ e => by rw [e]; exact hmbB)
          have hrel' : CrashRel w B kb g mb L mc next may ch (.int .i64 ((CT : Int) + 1)) (.int .i64 ((q : Int) + 1)) ((w3.alloc (.cells #[.int .i64 Y] 3)).setCell ⟨mb, q, none⟩ (.slice (some ⟨w3.heap.size, 0, none⟩) 1 1)) := by
            refine ⟨q + 1, _, _, by omega, by go_num, by rw [hcs]; go_num, hput, by rw [List.length_set]; exact hll, fun j hj => ?_, hgr.trans (fun x hx => ?_) hkp.size kall.size, hgr.kp hkp kall⟩
            · rw [List.length_set] at hj
              by_cases hje : j = q
              · subst hje
                rw [List.getElem_set_self, if_pos (by omega), hcd, hcrq, hZZ, HY.out]
              · rw [List.getElem_set_ne (Ne.symm hje), hls j hj]
                by_cases hjq : j < q
                · rw [if_pos hjq, if_pos (by omega)]
                · rw [if_neg hjq, if_neg (by omega)]
            · rw [hsz]
              rcases hx with h | h
              · exact .inl h
              · exact .inr ⟨by have := h.1; omega, h.2⟩
          clear hput hsz kall hza
          generalize ((w3.alloc (.cells #[.int .i64 Y] 3)).setCell ⟨mb, q, none⟩ (.slice (some ⟨w3.heap.size, 0, none⟩) 1 1)) = WE at hrel' ⊢
          have HR := Lib.hid hrel'
          clear hrel' hcs hcrq hgd hlq hps hoq hlv hcd hCT hb hls hgr hl1 hmc3 hmf3 hrd3 hb3
          go_wp2_with fail
          exact ⟨HR.out, meas_up hlt⟩
    · have hqL : L = q := by omega
      subst hqL
      have hfin : ls.map Prod.snd = crB may ch 0 := by
        apply List.ext_getElem
        · rw [List.length_map, hll, crB_length, HAT.out.2.1]
        · intro j h1 h2
          have hj : j < ls.length := by simpa using h1
          rw [List.getElem_map, hls j hj, if_pos (by omega)]
          simp [h2]
      have HF := Lib.hid (And.intro hb (And.intro hfin (And.intro hgr hkp)))
      clear hb hfin hls hgr
      go_wp2_with fail
      go_end0
      exact ⟨⟨_, rfl⟩, B', ls, HF.out.1, HF.out.2.1, HF.out.2.2.1, HF.out.2.2.2⟩
end Go.Proofs.Ythkbgbbejgpeaaa
