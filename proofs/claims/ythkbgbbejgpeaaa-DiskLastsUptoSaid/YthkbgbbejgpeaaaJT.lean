/- A keeper's book in memory: a Write. -/
import Derived.Test.YthkbgbbejgpeaaaJS
namespace Go.Proofs.Ythkbgbbejgpeaaa
open Go Go.RowKit
set_option maxRecDepth 100000

/-- what a step leaves -/
def StepK (w0 : World) (kb g k next n : Nat) (e : Ending) (w' : World) : Prop := e = .returned (.bool true) ∧ ∃ F B k' d mv ls next', k' ≤ k + 1 ∧ next' ≤ next + 1 ∧ d.n = n ∧ KS w0 w' F B kb g k' d mv ls next'
theorem int_up (n : Nat) : ((n + 1 : Nat) : Int) = (n : Int) + 1 := by omega
set_option maxHeartbeats 6400000 in
theorem step_write {w0 w : World} {F B : Nat → Prop} {kb g k : Nat} {d : Dk} {mv : Value} {ls : List (Value × List Int)} {next : Nat} {Do At : Int} {A : Option Addr} {n c : Nat} (h : KS w0 w F B kb g k d mv ls next) (hk : k ≤ 100000000) (hnx : next ≤ 100000000) (hDo : Do = 0 ∨ Do = 1) (hAt : I64 At) :
    Calls Try.prog 38 #[ptrD kb, .agg #[.int .i64 Do, .int .i64 At, .slice A n c]] w (StepK w0 kb g k next d.n) := by
  have hll := h.ls_len
  have hn1 := h.dk.n1
  have hn2 := h.dk.n2
  obtain ⟨L, hL⟩ : ∃ L, ls.length = L := ⟨_, rfl⟩
  obtain ⟨mb, mc, hmv, -, -⟩ := h.bk.own.form (by omega)
  rw [hL] at hmv
  subst hmv
  have hsp := spanZ_bd At 0 ((L : Int) - 1) (by omega)
  obtain ⟨i, hi⟩ : ∃ i : Nat, spanZ At 0 ((L : Int) - 1) = (i : Int) := ⟨(spanZ At 0 ((L : Int) - 1)).toNat, by omega⟩
  have hiL : i < L := by omega
  have HI := Lib.hid hi
  have HH := Lib.hid h
  have HL := Lib.hid (And.intro hL hll)
  have HLn := Lib.hid (show L = d.n by omega)
  have hLm : L ≤ 65536 := by omega
  have hL1 : 1 ≤ L := by omega
  have kb1 := (Kp.refl (fun _ => False) w).alloc (.cells #[.int .i64 Do, .int .i64 At, .slice A n c] 57)
  have cb1 : (w.alloc (.cells #[.int .i64 Do, .int .i64 At, .slice A n c] 57)).cell? ⟨w.heap.size, 1, none⟩ = some (.int .i64 At) := by
    rw [cell_of_row _ _ _ _ _ _ (heap_alloc_new _ _)]
    rfl
  have cb0 : (w.alloc (.cells #[.int .i64 Do, .int .i64 At, .slice A n c] 57)).cell? ⟨w.heap.size, 0, none⟩ = some (.int .i64 Do) := by
    rw [cell_of_row _ _ _ _ _ _ (heap_alloc_new _ _)]
    rfl
  have hzb : w.heap.size < (w.alloc (.cells #[.int .i64 Do, .int .i64 At, .slice A n c] 57)).heap.size := by simp
  obtain ⟨w1, hw1⟩ : ∃ w1, w.alloc (.cells #[.int .i64 Do, .int .i64 At, .slice A n c] 57) = w1 := ⟨_, rfl⟩
  rw [hw1] at kb1 cb1 cb0 hzb
  have HW1 := Lib.hid hw1
  clear h hll hL hi hw1 hsp
  go_enter Try.func38, Try.ntmps38
  rcases hDo with rfl | rfl
  all_goals
    go_wp2_with fail
    rw [HW1.out]
    have h1 := HH.out.keepN kb1
    refine rg_begin 10 (fun _ => False) (by kernel_rfl) (fun w2 d2 => ?_)
    have h2 := h1.keepN d2
    have cb2 : w2.cell? ⟨w.heap.size, 1, none⟩ = some (.int .i64 At) := by rw [d2.cell hzb (fun x => x)]; exact cb1
    have hz2 := d2.size
    have hw1 : IntKind.i64.wrap ((L : Int) - 1) = (L : Int) - 1 := IntWalk.i64_in _ (by omega)
    refine rg_take 0 (d := (some 15)) (v := .pointer (some ⟨w.heap.size, 1, none⟩)) (by decide) rfl rfl (by kernel_rfl) (by kernel_rfl) (by kernel_rfl) (fun _ _ _ h => h) rfl (fun W => by go_simp) ?_
    conv => arg 8; simp only [Act.put, List.setIfInBounds_toArray, List.set_cons_zero, List.set_cons_succ]
    refine rg_read 1 (d := (some 16)) (v := .int .i64 At) (by decide) (by kernel_rfl) (by kernel_rfl) rfl rfl (by kernel_rfl) (by kernel_rfl) (by kernel_rfl) (fun _ _ _ h => h) rfl (fun W hW => by have hc := (hW.cell (p := ⟨w.heap.size, 1, none⟩) ((show w.heap.size < _ by omega)) (fun x => x)).trans (cb2); go_simp) ?_
    conv => arg 8; simp only [Act.put, List.setIfInBounds_toArray, List.set_cons_zero, List.set_cons_succ]
    refine rg_take 2 (d := (some 17)) (v := .pointer (some ⟨kb, 0, none⟩)) (by decide) rfl rfl (by kernel_rfl) (by kernel_rfl) (by kernel_rfl) (fun _ _ _ h => h) rfl (fun W => rfl) ?_
    conv => arg 8; simp only [Act.put, List.setIfInBounds_toArray, List.set_cons_zero, List.set_cons_succ]
    refine rg_take 3 (d := (some 18)) (v := .pointer (some ⟨kb, 0, none⟩)) (by decide) rfl rfl (by kernel_rfl) (by kernel_rfl) (by kernel_rfl) (fun _ _ _ h => h) rfl (fun W => by go_simp) ?_
    conv => arg 8; simp only [Act.put, List.setIfInBounds_toArray, List.set_cons_zero, List.set_cons_succ]
    refine rg_take 4 (d := (some 19)) (v := .pointer (some ⟨kb, 1, none⟩)) (by decide) rfl rfl (by kernel_rfl) (by kernel_rfl) (by kernel_rfl) (fun _ _ _ h => h) rfl (fun W => by go_simp) ?_
    conv => arg 8; simp only [Act.put, List.setIfInBounds_toArray, List.set_cons_zero, List.set_cons_succ]
    refine rg_read 5 (d := (some 20)) (v := .slice (some ⟨mb, 0, none⟩) L mc) (by decide) (by kernel_rfl) (by kernel_rfl) rfl rfl (by kernel_rfl) (by kernel_rfl) (by kernel_rfl) (fun _ _ _ h => h) rfl (fun W hW => by have hc := (hW.cell (p := ⟨kb, 1, none⟩) (h2.bk.lt) (fun x => x)).trans (h2.bk.c1); go_simp) ?_
    conv => arg 8; simp only [Act.put, List.setIfInBounds_toArray, List.set_cons_zero, List.set_cons_succ]
    refine rg_take 6 (d := (some 21)) (v := .int .i64 L) (by decide) rfl rfl (by kernel_rfl) (by kernel_rfl) (by kernel_rfl) (fun _ _ _ h => h) rfl (fun W => by go_simp) ?_
    conv => arg 8; simp only [Act.put, List.setIfInBounds_toArray, List.set_cons_zero, List.set_cons_succ]
    refine rg_take 7 (d := (some 22)) (v := .int .i64 ((L : Int) - 1)) (by decide) rfl rfl (by kernel_rfl) (by kernel_rfl) (by kernel_rfl) (fun _ _ _ h => h) rfl (fun W => by go_simp) ?_
    conv => arg 8; simp only [Act.put, List.setIfInBounds_toArray, List.set_cons_zero, List.set_cons_succ]
    refine rg_call 8 (d := (some 23)) (by kernel_rfl) (span_c hAt (by omega) (by omega) (by omega)) rfl rfl (by kernel_rfl) rfl rfl ?_
    rintro e w3 ⟨rfl, rfl⟩
    refine ⟨_, rfl, Kp.refl _ _, ?_⟩
    conv => arg 8; simp only [Act.put, List.setIfInBounds_toArray, List.set_cons_zero, List.set_cons_succ]
    rw [HI.out]
    refine rg_take 9 (d := (some 5)) (v := .int .i64 (i : Int)) (by decide) rfl rfl (by kernel_rfl) (by kernel_rfl) (by kernel_rfl) (fun _ _ _ h => h) rfl (fun W => rfl) ?_
    conv => arg 8; simp only [Act.put, List.setIfInBounds_toArray, List.set_cons_zero, List.set_cons_succ]
    refine rg_done (by kernel_rfl) ?_
    have H2 := Lib.hid h2
    clear h1 h2 hw1 cb2
    go_wp2_with fail
    refine rg_begin 12 (fun b => F b) (by kernel_rfl) (fun w4 d4 => ?_)
    have h4 := H2.out.keepN d4
    refine rg_take 0 (d := (some 24)) (v := .pointer (some ⟨kb, 0, none⟩)) (by decide) rfl rfl (by kernel_rfl) (by kernel_rfl) (by kernel_rfl) (fun _ _ _ h => h) rfl (fun W => rfl) ?_
    conv => arg 8; simp only [Act.put, List.setIfInBounds_toArray, List.set_cons_zero, List.set_cons_succ]
    refine rg_take 1 (d := (some 25)) (v := .pointer (some ⟨kb, 0, none⟩)) (by decide) rfl rfl (by kernel_rfl) (by kernel_rfl) (by kernel_rfl) (fun _ _ _ h => h) rfl (fun W => by go_simp) ?_
    conv => arg 8; simp only [Act.put, List.setIfInBounds_toArray, List.set_cons_zero, List.set_cons_succ]
    refine rg_take 2 (d := (some 26)) (v := .pointer (some ⟨kb, 0, none⟩)) (by decide) rfl rfl (by kernel_rfl) (by kernel_rfl) (by kernel_rfl) (fun _ _ _ h => h) rfl (fun W => by go_simp) ?_
    conv => arg 8; simp only [Act.put, List.setIfInBounds_toArray, List.set_cons_zero, List.set_cons_succ]
    refine rg_read 3 (d := (some 27)) (v := ptrD g) (by decide) (by kernel_rfl) (by kernel_rfl) rfl rfl (by kernel_rfl) (by kernel_rfl) (by kernel_rfl) (fun _ _ _ h => h) rfl (fun W hW => by have hc := (hW.cell (p := ⟨kb, 0, none⟩) (h4.bk.lt) (fun hh => h4.dis _ hh h4.bk.fit)).trans (h4.bk.c0); go_simp) ?_
    conv => arg 8; simp only [Act.put, List.setIfInBounds_toArray, List.set_cons_zero, List.set_cons_succ]
    refine rg_take 4 (d := (some 28)) (v := .int .i64 i) (by decide) rfl rfl (by kernel_rfl) (by kernel_rfl) (by kernel_rfl) (fun _ _ _ h => h) rfl (fun W => rfl) ?_
    conv => arg 8; simp only [Act.put, List.setIfInBounds_toArray, List.set_cons_zero, List.set_cons_succ]
    refine rg_take 5 (d := (some 29)) (v := .pointer (some ⟨kb, 0, none⟩)) (by decide) rfl rfl (by kernel_rfl) (by kernel_rfl) (by kernel_rfl) (fun _ _ _ h => h) rfl (fun W => rfl) ?_
    conv => arg 8; simp only [Act.put, List.setIfInBounds_toArray, List.set_cons_zero, List.set_cons_succ]
    refine rg_take 6 (d := (some 30)) (v := .pointer (some ⟨kb, 0, none⟩)) (by decide) rfl rfl (by kernel_rfl) (by kernel_rfl) (by kernel_rfl) (fun _ _ _ h => h) rfl (fun W => by go_simp) ?_
    conv => arg 8; simp only [Act.put, List.setIfInBounds_toArray, List.set_cons_zero, List.set_cons_succ]
    refine rg_take 7 (d := (some 31)) (v := .pointer (some ⟨kb, 2, none⟩)) (by decide) rfl rfl (by kernel_rfl) (by kernel_rfl) (by kernel_rfl) (fun _ _ _ h => h) rfl (fun W => by go_simp) ?_
    conv => arg 8; simp only [Act.put, List.setIfInBounds_toArray, List.set_cons_zero, List.set_cons_succ]
    refine rg_read 8 (d := (some 32)) (v := .int .i64 next) (by decide) (by kernel_rfl) (by kernel_rfl) rfl rfl (by kernel_rfl) (by kernel_rfl) (by kernel_rfl) (fun _ _ _ h => h) rfl (fun W hW => by have hc := (hW.cell (p := ⟨kb, 2, none⟩) (h4.bk.lt) (fun hh => h4.dis _ hh h4.bk.fit)).trans (h4.bk.c2); go_simp) ?_
    conv => arg 8; simp only [Act.put, List.setIfInBounds_toArray, List.set_cons_zero, List.set_cons_succ]
    refine rg_call 9 (d := (some 33)) (by kernel_rfl) (fill_c (n := next) (by omega)) rfl rfl (by kernel_rfl) rfl rfl ?_
    rintro e w5 ⟨vf, rfl, of, kf⟩
    refine ⟨_, rfl, kf.mono (fun _ _ x => x.elim), ?_⟩
    conv => arg 8; simp only [Act.put, List.setIfInBounds_toArray, List.set_cons_zero, List.set_cons_succ]
    have h5 := h4.keepN kf
    have hof := of.fit
    have hil : i < (ls.map Prod.snd).length := by have := HL.out.1; simp; omega
    obtain ⟨d6, hwr, hok6⟩ := h5.ok.write i hil h5.ok.nx
    have hW := write_x (i := (i : Int)) (xs := fillB next) h5.dk of.readsB (fun b hb hF => by have := (hof b hb).1; have := (h4.fl b hF).2; omega) ⟨by omega, by omega⟩ (by omega)
    rw [hwr] at hW
    dsimp only at hW
    refine rg_call 10 (d := (some 34)) (by kernel_rfl) (hW) rfl rfl (by kernel_rfl) rfl rfl ?_
    rintro e w6 ⟨rfl, F6, k6, hk6, hx6, hg6, kp6⟩
    refine ⟨_, rfl, kp6, ?_⟩
    conv => arg 8; simp only [Act.put, List.setIfInBounds_toArray, List.set_cons_zero, List.set_cons_succ]
    refine rg_take 11 (d := (some 6)) (v := .int .i64 0) (by decide) rfl rfl (by kernel_rfl) (by kernel_rfl) (by kernel_rfl) (fun _ _ _ h => h) rfl (fun W => rfl) ?_
    conv => arg 8; simp only [Act.put, List.setIfInBounds_toArray, List.set_cons_zero, List.set_cons_succ]
    refine rg_done (by kernel_rfl) ?_
    have hb6 := h5.bk.keep kp6 (fun x hx hF => h5.dis x hF hx)
    have hge6 : ∀ x, F6 x → w0.heap.size ≤ x ∧ x < w6.heap.size := fun x hx => by
      rcases hg6 x hx with hh | hh
      · have := h5.fl x hh; exact ⟨this.1, by have := kp6.size; omega⟩
      · exact ⟨by have := hh.1; have := h5.kp.size; omega, hh.2⟩
    have hds6 : ∀ x, F6 x → ¬ B x := fun x hx hB => by
      rcases hg6 x hx with hh | hh
      · exact h5.dis x hh hB
      · have := hh.1; have := (h5.bl x hB).2; omega
    have hbl6 : ∀ x, B x → w0.heap.size ≤ x ∧ x < w6.heap.size := fun x hx => ⟨(h5.bl x hx).1, by have := (h5.bl x hx).2; have := kp6.size; omega⟩
    have hkp6 : KpN w0 w6 := h5.kp.fresh kp6 (fun x hx => (h5.fl x hx).1)
    have hdn6 : d6.n = d.n := by have := write_n d (i : Int) (fillB next); rwa [hwr] at this
    have H6 := Lib.hid (And.intro hx6 (And.intro hb6 (And.intro hok6 (And.intro hge6 (And.intro hds6 (And.intro hbl6 (And.intro hkp6 hdn6)))))))
    have hil2 : i < ls.length := by have := HL.out.1; omega
    have hE := h5.ok.each i hil
    have hpos := hE.pos
    have hcl := hE.ca_len
    have hcnt := h5.dk.cnt i (by have := HLn.out; omega)
    have eqq : (ls.map Prod.snd)[i] = ls[i].2 := by simp
    rw [eqq] at hpos hcl
    have HEQ := Lib.hid eqq
    have hlv0 := hb6.own.each i hil2
    obtain ⟨lv, hlv⟩ : ∃ lv, ls[i].1 = lv := ⟨_, rfl⟩
    rw [hlv] at hlv0
    obtain ⟨lb, lc, rfl, -, -⟩ := hlv0.form hpos
    have hlw : ls[i].2.length ≤ 200000000 := by omega
    have hlbkb : lb ≠ kb := hb6.seps i hil2 lb (by rw [hlv]; rfl)
    have hlbmb : lb ≠ mb := fun e => hb6.own.out i hil2 mb rfl (by rw [hlv, ← e]; rfl)
    have HLV := Lib.hid hlv
    have HLV0 := Lib.hid hlv0
    obtain ⟨LL, hLL⟩ : ∃ LL, ls[i].2.length = LL := ⟨_, rfl⟩
    have HLL := Lib.hid hLL
    clear hx6 hg6 kp6 hok6 hge6 hds6 hbl6 hkp6 hdn6 hE hpos hcl hcnt eqq h4 h5 hof of hW hwr hlv hlv0 hb6 hLL
    go_wp2_with fail
    refine rg_begin 19 (fun b => lb = b) (by kernel_rfl) (fun w7 d7 => ?_)
    have hb7 := H6.out.2.1.keepN d7
    have hmc7 := hb7.own.cellAt i hil2
    rw [HLV.out, HLL.out] at hmc7
    have hmlt7 : mb < w7.heap.size := hb7.own.row.lt mb rfl
    have hmkb : mb ≠ kb := hb7.sep mb rfl
    have kl := (Kp.refl (fun _ => False) w7).alloc (.cells #[.int .i64 (next : Int)] 3)
    have olit := ((ow_lit1 (next : Int) w7)).rd
    have hown7 := (HLV0.out.keepN d7).keepN kl
    obtain ⟨v', w9, r9, o9, k9, hat9⟩ := run_app (P := Try.prog) (t := 29) (ty := 29) (w7.alloc (.cells #[.int .i64 (next : Int)] 3)) Try.underlying29 intInfo rfl (by omega) hown7.c olit (by intro u hu; simp at hu; subst hu; rfl) (by simp; omega) (by simp; omega)
    rw [HLL.out] at r9
    have hz7 := kl.size
    have hz9 := k9.size
    have kk9 : Kp (fun b => lb = b) (w7.alloc (.cells #[.int .i64 (next : Int)] 3)) w9 := k9.mono (fun b _ e => Option.some.inj e)
    have hc9 : w9.cell? ⟨mb, i, none⟩ = some (.slice (some ⟨lb, 0, none⟩) LL lc) := by
      rw [kk9.cell (by show mb < _; omega) (fun e => hlbmb e), kl.cell hmlt7 (fun x => x)]
      exact hmc7
    have hf9 : w9.frozen? ⟨mb, i, none⟩ = false := by
      rw [kk9.frozen (by show mb < _; omega) (fun e => hlbmb e), kl.frozen hmlt7 (fun x => x)]
      exact hb7.own.row.frozenAt' i
    have hv' : v'.cells = #[v'] ∧ v'.oneCell' = true := by
      obtain ⟨A', c', rfl, _⟩ := RdC.form o9.reads
      exact ⟨rfl, rfl⟩
    refine rg_take 0 (d := (some 35)) (v := .pointer (some ⟨kb, 0, none⟩)) (by decide) rfl rfl (by kernel_rfl) (by kernel_rfl) (by kernel_rfl) (fun _ _ _ h => h) rfl (fun W => rfl) ?_
    conv => arg 8; simp only [Act.put, List.setIfInBounds_toArray, List.set_cons_zero, List.set_cons_succ]
    refine rg_take 1 (d := (some 36)) (v := .pointer (some ⟨kb, 0, none⟩)) (by decide) rfl rfl (by kernel_rfl) (by kernel_rfl) (by kernel_rfl) (fun _ _ _ h => h) rfl (fun W => by go_simp) ?_
    conv => arg 8; simp only [Act.put, List.setIfInBounds_toArray, List.set_cons_zero, List.set_cons_succ]
    refine rg_take 2 (d := (some 37)) (v := .pointer (some ⟨kb, 1, none⟩)) (by decide) rfl rfl (by kernel_rfl) (by kernel_rfl) (by kernel_rfl) (fun _ _ _ h => h) rfl (fun W => by go_simp) ?_
    conv => arg 8; simp only [Act.put, List.setIfInBounds_toArray, List.set_cons_zero, List.set_cons_succ]
    refine rg_read 3 (d := (some 38)) (v := .slice (some ⟨mb, 0, none⟩) L mc) (by decide) (by kernel_rfl) (by kernel_rfl) rfl rfl (by kernel_rfl) (by kernel_rfl) (by kernel_rfl) (fun _ _ _ h => h) rfl (fun W hW => by have hc := (hW.cell (p := ⟨kb, 1, none⟩) (hb7.lt) (fun hh => hlbkb hh)).trans (hb7.c1); go_simp) ?_
    conv => arg 8; simp only [Act.put, List.setIfInBounds_toArray, List.set_cons_zero, List.set_cons_succ]
    refine rg_take 4 (d := (some 39)) (v := .int .i64 i) (by decide) rfl rfl (by kernel_rfl) (by kernel_rfl) (by kernel_rfl) (fun _ _ _ h => h) rfl (fun W => rfl) ?_
    conv => arg 8; simp only [Act.put, List.setIfInBounds_toArray, List.set_cons_zero, List.set_cons_succ]
    refine rg_take 5 (d := (some 40)) (v := .pointer (some ⟨kb, 0, none⟩)) (by decide) rfl rfl (by kernel_rfl) (by kernel_rfl) (by kernel_rfl) (fun _ _ _ h => h) rfl (fun W => rfl) ?_
    conv => arg 8; simp only [Act.put, List.setIfInBounds_toArray, List.set_cons_zero, List.set_cons_succ]
    refine rg_take 6 (d := (some 41)) (v := .pointer (some ⟨kb, 0, none⟩)) (by decide) rfl rfl (by kernel_rfl) (by kernel_rfl) (by kernel_rfl) (fun _ _ _ h => h) rfl (fun W => by go_simp) ?_
    conv => arg 8; simp only [Act.put, List.setIfInBounds_toArray, List.set_cons_zero, List.set_cons_succ]
    refine rg_take 7 (d := (some 42)) (v := .pointer (some ⟨kb, 1, none⟩)) (by decide) rfl rfl (by kernel_rfl) (by kernel_rfl) (by kernel_rfl) (fun _ _ _ h => h) rfl (fun W => by go_simp) ?_
    conv => arg 8; simp only [Act.put, List.setIfInBounds_toArray, List.set_cons_zero, List.set_cons_succ]
    refine rg_read 8 (d := (some 43)) (v := .slice (some ⟨mb, 0, none⟩) L mc) (by decide) (by kernel_rfl) (by kernel_rfl) rfl rfl (by kernel_rfl) (by kernel_rfl) (by kernel_rfl) (fun _ _ _ h => h) rfl (fun W hW => by have hc := (hW.cell (p := ⟨kb, 1, none⟩) (hb7.lt) (fun hh => hlbkb hh)).trans (hb7.c1); go_simp) ?_
    conv => arg 8; simp only [Act.put, List.setIfInBounds_toArray, List.set_cons_zero, List.set_cons_succ]
    refine rg_take 9 (d := (some 44)) (v := .int .i64 i) (by decide) rfl rfl (by kernel_rfl) (by kernel_rfl) (by kernel_rfl) (fun _ _ _ h => h) rfl (fun W => rfl) ?_
    conv => arg 8; simp only [Act.put, List.setIfInBounds_toArray, List.set_cons_zero, List.set_cons_succ]
    refine rg_take 10 (d := (some 45)) (v := .pointer (some ⟨mb, i, none⟩)) (by decide) rfl rfl (by kernel_rfl) (by kernel_rfl) (by kernel_rfl) (fun _ _ _ h => h) rfl (fun W => by go_simp) ?_
    conv => arg 8; simp only [Act.put, List.setIfInBounds_toArray, List.set_cons_zero, List.set_cons_succ]
    refine rg_read 11 (d := (some 46)) (v := .slice (some ⟨lb, 0, none⟩) LL lc) (by decide) (by kernel_rfl) (by kernel_rfl) rfl rfl (by kernel_rfl) (by kernel_rfl) (by kernel_rfl) (fun _ _ _ h => h) rfl (fun W hW => by have hc := (hW.cell (p := ⟨mb, i, none⟩) (hmlt7) (fun hh => hlbmb hh)).trans (hmc7); go_simp) ?_
    conv => arg 8; simp only [Act.put, List.setIfInBounds_toArray, List.set_cons_zero, List.set_cons_succ]
    refine rg_take 12 (d := (some 47)) (v := .pointer (some ⟨kb, 0, none⟩)) (by decide) rfl rfl (by kernel_rfl) (by kernel_rfl) (by kernel_rfl) (fun _ _ _ h => h) rfl (fun W => rfl) ?_
    conv => arg 8; simp only [Act.put, List.setIfInBounds_toArray, List.set_cons_zero, List.set_cons_succ]
    refine rg_take 13 (d := (some 48)) (v := .pointer (some ⟨kb, 0, none⟩)) (by decide) rfl rfl (by kernel_rfl) (by kernel_rfl) (by kernel_rfl) (fun _ _ _ h => h) rfl (fun W => by go_simp) ?_
    conv => arg 8; simp only [Act.put, List.setIfInBounds_toArray, List.set_cons_zero, List.set_cons_succ]
    refine rg_take 14 (d := (some 49)) (v := .pointer (some ⟨kb, 2, none⟩)) (by decide) rfl rfl (by kernel_rfl) (by kernel_rfl) (by kernel_rfl) (fun _ _ _ h => h) rfl (fun W => by go_simp) ?_
    conv => arg 8; simp only [Act.put, List.setIfInBounds_toArray, List.set_cons_zero, List.set_cons_succ]
    refine rg_read 15 (d := (some 50)) (v := .int .i64 next) (by decide) (by kernel_rfl) (by kernel_rfl) rfl rfl (by kernel_rfl) (by kernel_rfl) (by kernel_rfl) (fun _ _ _ h => h) rfl (fun W hW => by have hc := (hW.cell (p := ⟨kb, 2, none⟩) (hb7.lt) (fun hh => hlbkb hh)).trans (hb7.c2); go_simp) ?_
    conv => arg 8; simp only [Act.put, List.setIfInBounds_toArray, List.set_cons_zero, List.set_cons_succ]
    refine rg_onlyW 16 (w' := w7.alloc (.cells #[.int .i64 (next : Int)] 3)) (d := (some 51)) (v := .slice (some ⟨w7.heap.size, 0, none⟩) 1 1) rfl rfl (by kernel_rfl) rfl (run_lit1_op (next : Int) w7 rfl) (kl.mono (fun _ _ x => x.elim)) ?_
    conv => arg 8; simp only [Act.put, List.setIfInBounds_toArray, List.set_cons_zero, List.set_cons_succ]
    refine rg_onlyW 17 (w' := w9) (d := (some 52)) (v := v') rfl rfl (by kernel_rfl) rfl (run_append_op r9 rfl rfl) (kk9) ?_
    conv => arg 8; simp only [Act.put, List.setIfInBounds_toArray, List.set_cons_zero, List.set_cons_succ]
    refine rg_take 18 (d := (some 53)) (v := .pointer (some ⟨mb, i, none⟩)) (by decide) rfl rfl (by kernel_rfl) (by kernel_rfl) (by kernel_rfl) (fun _ _ _ h => h) rfl (fun W => by go_simp) ?_
    conv => arg 8; simp only [Act.put, List.setIfInBounds_toArray, List.set_cons_zero, List.set_cons_succ]
    refine rg_lastS (G := fun _ => True) (w9.setCell ⟨mb, i, none⟩ v') (d := none) rfl rfl (by kernel_rfl) rfl (run_store_op (run_storeAt_one _ mb i 29 v' (by rw [hc9]; rfl) hf9 (by kernel_rfl) hv'.1 hv'.2) rfl rfl) (by kernel_rfl) ?_
    conv => arg 8; simp only [Act.put, List.setIfInBounds_toArray, List.set_cons_zero, List.set_cons_succ]
    refine rg_done (by kernel_rfl) ?_
    have hat' : v'.ownBlock = ls[i].1.ownBlock ∨ ∀ x, v'.ownBlock = some x → w7.heap.size ≤ x := by
      rcases hat9 with h | h
      · left; rw [HLV.out]; exact h
      · right; intro x hx; rw [h] at hx; have e := Option.some.inj hx; omega
    have o9' : OwI w9 (fun x => B x ∨ Iv w7.heap.size w9.heap.size x) v' (ls[i].2 ++ [(next : Int)]) := by
      unfold OwI
      rw [List.length_append, List.map_append]
      exact o9.wide (fun x _ hx => by
        rcases hx with h | h
        · exact .inl h
        · exact .inr ⟨by have := h.1; omega, h.2⟩)
    have hb10 := hb7.put i hil2 ((Kp.after kl k9).mono (fun x _ e => by rw [HLV.out]; exact e)) o9' hat' (fun x hx => .inl hx)
    have hb11 := hb10.setNext (next + 1)
    rw [int_up] at hb11
    have hlbB : B lb := HLV0.out.fit lb rfl
    have hmbB : B mb := hb7.own.row.fit mb rfl
    have hkbB : B kb := hb7.fit
    have kall : Kp B w6 ((w9.setCell ⟨mb, i, none⟩ v').setCell ⟨kb, 2, none⟩ (.int .i64 ((next : Int) + 1))) :=
      (((Kp.after (d7.thenN kl) kk9).mono (fun x _ e => by rw [← e]; exact hlbB)).trans (kp1_set (F := fun x => x = mb) rfl i v') (fun _ _ x => x) (fun x _ e => by rw [e]; exact hmbB)).trans (kp1_set (F := fun x => x = kb) rfl 2 _) (fun _ _ x => x) (fun x _ e => by rw [e]; exact hkbB)
    have hsz : ((w9.setCell ⟨mb, i, none⟩ v').setCell ⟨kb, 2, none⟩ (.int .i64 ((next : Int) + 1))).heap.size = w9.heap.size := by simp
    have hz67 := d7.size
    have hks : KS w0 ((w9.setCell ⟨mb, i, none⟩ v').setCell ⟨kb, 2, none⟩ (.int .i64 ((next : Int) + 1))) F6 (fun x => B x ∨ Iv w7.heap.size w9.heap.size x) kb g k6 d6 (.slice (some ⟨mb, 0, none⟩) L mc) (ls.set i (v', ls[i].2 ++ [(next : Int)])) (next + 1) := by
      refine ⟨H6.out.1.keep kall (fun x h1 h2 => H6.out.2.2.2.2.1 x h1 h2), hb11, ?_, fun x h1 h2 => ?_, fun x hx => ?_, fun x hx => ?_, H6.out.2.2.2.2.2.2.1.fresh kall (fun x hx => (H6.out.2.2.2.2.2.1 x hx).1)⟩
      · have := H6.out.2.2.1
        rw [HEQ.out] at this
        rw [List.map_set]
        exact this
      · rcases h2 with h2 | h2
        · exact H6.out.2.2.2.2.1 x h1 h2
        · have := (H6.out.2.2.2.1 x h1).2; have := h2.1; omega
      · have := H6.out.2.2.2.1 x hx
        rw [hsz]
        exact ⟨this.1, by omega⟩
      · rw [hsz]
        rcases hx with hx | hx
        · have := H6.out.2.2.2.2.2.1 x hx
          exact ⟨this.1, by omega⟩
        · exact ⟨by have := hx.1; have := H6.out.2.2.2.2.2.2.1.size; omega, hx.2⟩
    have hrd : readD d6 (i : Int) = wantZ (next : Int) := by
      have hlen : i < ((ls.map Prod.snd).set i ((ls.map Prod.snd)[i] ++ [(next : Int)])).length := by simpa using hil2
      have hE := H6.out.2.2.1.each i hlen
      rw [List.getElem_set_self] at hE
      have := hE.read (by have := H6.out.2.2.2.2.2.2.2; have := HLn.out; omega) H6.out.2.2.1.off
      rw [this]
      congr 1
      simp [lastZ]
    have hc2 := hb10.c2
    have hf2 := hb10.fz 2
    have HK := Lib.hid (And.intro hks (And.intro hrd H6.out.2.2.2.2.2.2.2))
    clear hb10 hb11 o9' hat' hks hrd kall hsz hb7 hmc7 kl olit hown7 o9 hat9 kk9 hc9 hf9 hlbB hmbB hkbB k9
    obtain ⟨we, hwe⟩ : ∃ we, (w9.setCell ⟨mb, i, none⟩ v').setCell ⟨kb, 2, none⟩ (.int .i64 ((next : Int) + 1)) = we := ⟨_, rfl⟩
    rw [hwe] at HK
    have HWE := Lib.hid hwe
    obtain ⟨w10, hw10⟩ : ∃ w10, w9.setCell ⟨mb, i, none⟩ v' = w10 := ⟨_, rfl⟩
    rw [hw10] at hc2 hf2 HWE ⊢
    clear hwe hw10
    go_wp2_with fail
    rw [HWE.out]
    refine (reads_c HK.out.1.dk HK.out.1.bk (by omega) ⟨by omega, by omega⟩ HK.out.2.1).mono ?_
    rintro e wf ⟨rfl, kf⟩
    go_wp2_with fail
    go_ret
    exact ⟨rfl, _, _, _, _, _, _, _, hk6, Nat.le_refl _, HK.out.2.2, HK.out.1.keepN kf⟩
end Go.Proofs.Ythkbgbbejgpeaaa
