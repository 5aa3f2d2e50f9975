/- The helpers of the statements on bundles: kept. -/
import Derived.Test.YteokkpmndfekoaaBI
namespace Go.Proofs.Yteokkpmndfekoaa
open Go Go.RowKit
set_option maxRecDepth 100000

theorem GivenM.rd {w w' : World} {g : Nat} {dv : Nat → Value} {pv cv qv : Value} {b : Bdl} (h : GivenM w g dv pv b) (h' : RdBd w' cv qv b) : RdBd w (.slice (some ⟨g, 0, none⟩) b.bl.length (b.bl.length + 2)) pv b := by
  refine ⟨h'.ok, ⟨some ⟨g, 0, none⟩, _, rfl, by omega, fun j hj => ⟨⟨g, 0, none⟩, _, rfl, rfl, ?_, ⟨⟨dv j, rfl, (h.dat j hj).rd⟩, ?_⟩⟩⟩, h.pay.rd⟩
  · rw [add_plain']
    exact h.row j hj
  · obtain ⟨A, c, hv, -, hr⟩ := h'.bl
    obtain ⟨ad, cs, -, -, -, hb⟩ := hr j hj
    exact hb.2
set_option maxHeartbeats 12800000 in
theorem kept_c {w : World} {g : Nat} {dv : Nat → Value} {pv cv qv : Value} {b : Bdl} (h : GivenM w g dv pv b) (h' : RdBd w cv qv b) (hsz : bdSize b ≤ 10000000) : Calls Try.prog 17 #[bdV b (.slice (some ⟨g, 0, none⟩) b.bl.length (b.bl.length + 2)) pv, bdV b cv qv] w (TrueP w) := by
  obtain ⟨hbl, hpl, hda⟩ := bdSize_len b
  have HIS := Lib.hid (fun (W : World) (kW : KpN w W) => is_c ((h.rd h').keepN kW) (h'.keepN kW) hsz)
  have HG := Lib.hid h
  obtain ⟨-, hc, hq⟩ := h'
  obtain ⟨pA, pc, rfl, -⟩ := h.pay.rd.form
  obtain ⟨cA, cc, rfl, hcc⟩ := hc.form
  obtain ⟨qA, qc, rfl, -⟩ := hq.form
  have h77 := h.r1.range 2 _ rfl
  have h78 := h.r2.range 2 _ rfl
  have h77 : w.cell? ⟨g, b.bl.length * 4 + 2, none⟩ = some (.int .u64 77) := h77
  have h78 : w.cell? ⟨g, (b.bl.length + 1) * 4 + 2, none⟩ = some (.int .u64 78) := h78
  obtain ⟨fl, e0, e1, e2, e3, e4, e5, ti, sq, li, bl, pl⟩ := b
  dsimp only at hc hq hcc hbl hpl hda h77 h78 HIS ⊢
  obtain ⟨n, hn⟩ : ∃ n, bl.length = n := ⟨_, rfl⟩
  obtain ⟨m, hm⟩ : ∃ m, pl.length = m := ⟨_, rfl⟩
  have HRW := Lib.hid (And.intro h.row h.dat)
  have hpay := h.pay
  rw [hn] at hc hcc hbl h77 h78 HIS ⊢
  rw [hm] at hq hpl HIS ⊢
  have hpay : MkB w (.slice pA m pc) pl := by rw [← hm]; exact hpay
  have hnb : n ≤ 2500000 := by omega
  have kb : KpN w ((w.alloc (.cells #[n64 fl, n64 e0, n64 e1, n64 e2, n64 e3, n64 e4, n64 e5, n64 ti, n64 sq, n64 li, .slice (some ⟨g, 0, none⟩) n (n + 2), .slice pA m pc] 34)).alloc (.cells #[n64 fl, n64 e0, n64 e1, n64 e2, n64 e3, n64 e4, n64 e5, n64 ti, n64 sq, n64 li, .slice cA n cc, .slice qA m qc] 29)) := ((Kp.refl _ w).alloc _).alloc _
  have hz1 : ((w.alloc (.cells #[n64 fl, n64 e0, n64 e1, n64 e2, n64 e3, n64 e4, n64 e5, n64 ti, n64 sq, n64 li, .slice (some ⟨g, 0, none⟩) n (n + 2), .slice pA m pc] 34)).alloc (.cells #[n64 fl, n64 e0, n64 e1, n64 e2, n64 e3, n64 e4, n64 e5, n64 ti, n64 sq, n64 li, .slice cA n cc, .slice qA m qc] 29)).heap.size = w.heap.size + 2 := by simp
  have hx1 : CellsAt ((w.alloc (.cells #[n64 fl, n64 e0, n64 e1, n64 e2, n64 e3, n64 e4, n64 e5, n64 ti, n64 sq, n64 li, .slice (some ⟨g, 0, none⟩) n (n + 2), .slice pA m pc] 34)).alloc (.cells #[n64 fl, n64 e0, n64 e1, n64 e2, n64 e3, n64 e4, n64 e5, n64 ti, n64 sq, n64 li, .slice cA n cc, .slice qA m qc] 29)) w.heap.size [n64 fl, n64 e0, n64 e1, n64 e2, n64 e3, n64 e4, n64 e5, n64 ti, n64 sq, n64 li, .slice (some ⟨g, 0, none⟩) n (n + 2), .slice pA m pc] := (CellsAt.new w [n64 fl, n64 e0, n64 e1, n64 e2, n64 e3, n64 e4, n64 e5, n64 ti, n64 sq, n64 li, .slice (some ⟨g, 0, none⟩) n (n + 2), .slice pA m pc] _).keep (by simp) ((Kp.refl (fun _ => False) _).alloc _) (fun x => x)
  have hx2 : CellsAt ((w.alloc (.cells #[n64 fl, n64 e0, n64 e1, n64 e2, n64 e3, n64 e4, n64 e5, n64 ti, n64 sq, n64 li, .slice (some ⟨g, 0, none⟩) n (n + 2), .slice pA m pc] 34)).alloc (.cells #[n64 fl, n64 e0, n64 e1, n64 e2, n64 e3, n64 e4, n64 e5, n64 ti, n64 sq, n64 li, .slice cA n cc, .slice qA m qc] 29)) (w.heap.size + 1) [n64 fl, n64 e0, n64 e1, n64 e2, n64 e3, n64 e4, n64 e5, n64 ti, n64 sq, n64 li, .slice cA n cc, .slice qA m qc] := by
    have := CellsAt.new (w.alloc (.cells #[n64 fl, n64 e0, n64 e1, n64 e2, n64 e3, n64 e4, n64 e5, n64 ti, n64 sq, n64 li, .slice (some ⟨g, 0, none⟩) n (n + 2), .slice pA m pc] 34)) [n64 fl, n64 e0, n64 e1, n64 e2, n64 e3, n64 e4, n64 e5, n64 ti, n64 sq, n64 li, .slice cA n cc, .slice qA m qc] 29
    rwa [show (w.alloc (.cells #[n64 fl, n64 e0, n64 e1, n64 e2, n64 e3, n64 e4, n64 e5, n64 ti, n64 sq, n64 li, .slice (some ⟨g, 0, none⟩) n (n + 2), .slice pA m pc] 34)).heap.size = w.heap.size + 1 by simp] at this
  have hl1 := run_loadAt_rowat (P := Try.prog) hx1.1 Try.underlying34 rfl (by kernel_rfl)
  have hl2 := run_loadAt_rowat (P := Try.prog) hx2.1 Try.underlying29 rfl (by kernel_rfl)
  have HL := Lib.hid (And.intro hl1 hl2)
  obtain ⟨w1, hw1⟩ : ∃ w1, ((w.alloc (.cells #[n64 fl, n64 e0, n64 e1, n64 e2, n64 e3, n64 e4, n64 e5, n64 ti, n64 sq, n64 li, .slice (some ⟨g, 0, none⟩) n (n + 2), .slice pA m pc] 34)).alloc (.cells #[n64 fl, n64 e0, n64 e1, n64 e2, n64 e3, n64 e4, n64 e5, n64 ti, n64 sq, n64 li, .slice cA n cc, .slice qA m qc] 29)) = w1 := ⟨_, rfl⟩
  rw [hw1] at kb hz1 hx1 hx2
  have HW1 := Lib.hid hw1
  have HB := Lib.hid (SlAt.keep hc kb (fun x y => x.keep y))
  have HN := Lib.hid (And.intro hn hm)
  have HX := Lib.hid (And.intro hx1 (And.intro hx2 hz1))
  have HDA := Lib.hid (And.intro hda (And.intro hsz hpl))
  have HPY := Lib.hid (And.intro hpay hq)
  have H7 := Lib.hid (And.intro h77 h78)
  clear hc hq hn hm hx1 hx2 hz1 hda hsz hpay h h77 h78 hw1 hl1 hl2 HG
  go_enter Try.func17, Try.ntmps17
  go_wp2_with (first
    | ((with_reducible show wpList _ _ _ (Oper.mk _ (Op.load 34 _) _ _ _ _ :: _) _ _); refine wpl_val rfl (run_load_opv HL.out.1 rfl) ?_)
    | ((with_reducible show wpList _ _ _ (Oper.mk _ (Op.load 29 _) _ _ _ _ :: _) _ _); refine wpl_val rfl (run_load_opv HL.out.2 rfl) ?_))
  rw [HW1.out]
  refine (HIS.out w1 kb).mono ?_
  rintro e w2 ⟨rfl, k2⟩
  have hz2 := k2.size
  have hx2 := HX.out.1.keep (by have := HX.out.2.2; omega) k2 (fun x => x)
  have hy2 := HX.out.2.1.keep (by have := HX.out.2.2; omega) k2 (fun x => x)
  have p11 : w2.cell? ⟨w.heap.size, 11, none⟩ = some (.slice pA m pc) := hx2.at_ 11 rfl
  have q11 : w2.cell? ⟨w.heap.size + 1, 11, none⟩ = some (.slice qA m qc) := hy2.at_ 11 rfl
  clear hx2 hy2
  go_wp2_with fail
  refine (stays_c ((HPY.out.1.keepN kb).keepN k2) ((HPY.out.2.keepN kb).keepN k2) (by have := HN.out.2; have := HDA.out.2; omega)).mono ?_
  rintro e w3 ⟨rfl, k3⟩
  have k13 : KpN w1 w3 := k2.thenN k3
  have hz3 := k13.size
  have hx3 := HX.out.1.keep (by have := HX.out.2.2; omega) k13 (fun x => x)
  have hy3 := HX.out.2.1.keep (by have := HX.out.2.2; omega) k13 (fun x => x)
  have q10 : w3.cell? ⟨w.heap.size + 1, 10, none⟩ = some (.slice cA n cc) := hy3.at_ 10 rfl
  have k03 : KpN w w3 := kb.thenN k13
  have h77 : w3.cell? ⟨g, n * 4 + 2, none⟩ = some (.int .u64 77) := by rw [k03.cell (World.block_lt_of_cell? w _ H7.out.1) (fun x => x)]; exact H7.out.1
  have h78 : w3.cell? ⟨g, (n + 1) * 4 + 2, none⟩ = some (.int .u64 78) := by rw [k03.cell (World.block_lt_of_cell? w _ H7.out.2) (fun x => x)]; exact H7.out.2
  have hi1 : ¬ ((n : Int) + 2 ≤ (n : Int)) := by omega
  clear hx3 hy3 p11 q11
  go_wp2_with fail
  clear h77 h78 q10 hi1
  go_loopw [6] (fun i wr => ∃ q : Nat, q ≤ n ∧ i = .int .i64 q ∧ KpN w1 wr) (fun i _ => n - (intOf i).toNat)
  case atStart => exact ⟨0, Nat.zero_le _, rfl, k13⟩
  case round =>
    obtain ⟨q, hq, rfl, hkr⟩ := hrel
    have hzr := hkr.size
    have b10 : wr.cell? ⟨w.heap.size + 1, 10, none⟩ = some (.slice cA n cc) := (HX.out.2.1.keep (by have := HX.out.2.2; omega) hkr (fun x => x)).at_ 10 rfl
    by_cases hlt : q < n
    · have hql : q < bl.length := by rw [HN.out.1]; exact hlt
      obtain ⟨ae, cs', rfl, -, hrow0', ⟨⟨dw', rfl, hdw'⟩, -⟩⟩ := HB.out.row q hql
      have hdl := HDA.out.1 bl[q] (List.getElem_mem hql)
      have hrow := (HRW.out.1 q hql).keepN (kb.thenN hkr)
      have hdr := (HRW.out.2 q hql).keepN (kb.thenN hkr)
      have hrow' := hrow0'.keepN hkr
      have hdr' := hdw'.keepN hkr
      obtain ⟨x, hx⟩ : ∃ x, bl[q] = x := ⟨_, rfl⟩
      rw [hx] at hrow hrow' hdr hdr' hdl
      obtain ⟨xt, xn, xf, xd⟩ := x
      dsimp only at hrow hrow' hdr hdr' hdl
      obtain ⟨dq, hdq⟩ : ∃ d, dv q = d := ⟨_, rfl⟩
      rw [hdq] at hrow hdr
      have HR := Lib.hid (And.intro hrow (And.intro hrow' (And.intro hdr (And.intro hdr' hdl))))
      clear hrow hrow' hrow0' hdr hdr' hdw' hdl hx hdq
      go_wp2_with fail
      refine rg_begin 14 (fun _ => False) (by kernel_rfl) (fun w5 d5 => ?_)
      have hz5 := d5.size
      have hx5 := (HX.out.1.keep (by have := HX.out.2.2; omega) hkr (fun x => x)).keep (by have := HX.out.2.2; omega) d5 (fun x => x)
      have hy5 := (HX.out.2.1.keep (by have := HX.out.2.2; omega) hkr (fun x => x)).keep (by have := HX.out.2.2; omega) d5 (fun x => x)
      have r5 : w5.cell? ⟨g, q * 4 + 3, none⟩ = some dq := (HR.out.1.keepN d5).range 3 _ rfl
      have r5' : w5.cell? ⟨(ae.add (q * 4)).block, (ae.add (q * 4)).off + 3, none⟩ = some dw' := (HR.out.2.1.keepN d5).fld 2 rfl
      have hg5 := World.block_lt_of_cell? w5 _ r5
      have ha5 := World.block_lt_of_cell? w5 _ r5'
      have hI := stays_c (HR.out.2.2.1.keepN d5) (HR.out.2.2.2.1.keepN d5) (by have h1 := HR.out.2.2.2.2; have h2 := HDA.out.2; omega)
      refine rg_take 0 (d := (some 54)) (v := .pointer (some ⟨w.heap.size, 10, none⟩)) (by decide) rfl rfl (by kernel_rfl) (by kernel_rfl) (by kernel_rfl) (fun _ _ _ h => h) rfl (fun W => by go_simp) ?_
      conv => arg 8; simp only [Act.put, List.setIfInBounds_toArray, List.set_cons_zero, List.set_cons_succ]
      refine rg_read 1 (d := (some 55)) (v := .slice (some ⟨g, 0, none⟩) n (n + 2)) (by decide) (by kernel_rfl) (by kernel_rfl) rfl rfl (by kernel_rfl) (by kernel_rfl) (by kernel_rfl) (fun _ _ _ h => h) rfl (fun W hW => by have hc := (hW.cell (p := ⟨w.heap.size, 10, none⟩) ((by have := HX.out.2.2; show w.heap.size < _; omega)) (fun x => x)).trans (hx5.at_ 10 rfl); go_simp) ?_
      conv => arg 8; simp only [Act.put, List.setIfInBounds_toArray, List.set_cons_zero, List.set_cons_succ]
      refine rg_take 2 (d := (some 56)) (v := .int .i64 q) (by decide) rfl rfl (by kernel_rfl) (by kernel_rfl) (by kernel_rfl) (fun _ _ _ h => h) rfl (fun W => rfl) ?_
      conv => arg 8; simp only [Act.put, List.setIfInBounds_toArray, List.set_cons_zero, List.set_cons_succ]
      refine rg_take 3 (d := (some 57)) (v := .pointer (some ⟨g, q * 4, none⟩)) (by decide) rfl rfl (by kernel_rfl) (by kernel_rfl) (by kernel_rfl) (fun _ _ _ h => h) rfl (fun W => by go_simp) ?_
      conv => arg 8; simp only [Act.put, List.setIfInBounds_toArray, List.set_cons_zero, List.set_cons_succ]
      refine rg_take 4 (d := (some 58)) (v := .pointer (some ⟨g, q * 4 + 3, none⟩)) (by decide) rfl rfl (by kernel_rfl) (by kernel_rfl) (by kernel_rfl) (fun _ _ _ h => h) rfl (fun W => by go_simp) ?_
      conv => arg 8; simp only [Act.put, List.setIfInBounds_toArray, List.set_cons_zero, List.set_cons_succ]
      refine rg_read 5 (d := (some 59)) (v := dq) (by decide) (by kernel_rfl) (by kernel_rfl) rfl rfl (by kernel_rfl) (by kernel_rfl) (by kernel_rfl) (fun _ _ _ h => h) rfl (fun W hW => by have hc := (hW.cell (p := ⟨g, q * 4 + 3, none⟩) (hg5) (fun x => x)).trans (r5); go_simp) ?_
      conv => arg 8; simp only [Act.put, List.setIfInBounds_toArray, List.set_cons_zero, List.set_cons_succ]
      refine rg_take 6 (d := (some 60)) (v := .pointer (some ⟨w.heap.size + 1, 10, none⟩)) (by decide) rfl rfl (by kernel_rfl) (by kernel_rfl) (by kernel_rfl) (fun _ _ _ h => h) rfl (fun W => by go_simp) ?_
      conv => arg 8; simp only [Act.put, List.setIfInBounds_toArray, List.set_cons_zero, List.set_cons_succ]
      refine rg_read 7 (d := (some 61)) (v := .slice (some ae) n cc) (by decide) (by kernel_rfl) (by kernel_rfl) rfl rfl (by kernel_rfl) (by kernel_rfl) (by kernel_rfl) (fun _ _ _ h => h) rfl (fun W hW => by have hc := (hW.cell (p := ⟨w.heap.size + 1, 10, none⟩) ((by have := HX.out.2.2; show w.heap.size + 1 < _; omega)) (fun x => x)).trans (hy5.at_ 10 rfl); go_simp) ?_
      conv => arg 8; simp only [Act.put, List.setIfInBounds_toArray, List.set_cons_zero, List.set_cons_succ]
      refine rg_take 8 (d := (some 62)) (v := .int .i64 q) (by decide) rfl rfl (by kernel_rfl) (by kernel_rfl) (by kernel_rfl) (fun _ _ _ h => h) rfl (fun W => rfl) ?_
      conv => arg 8; simp only [Act.put, List.setIfInBounds_toArray, List.set_cons_zero, List.set_cons_succ]
      refine rg_take 9 (d := (some 63)) (v := .pointer (some (ae.add (q * 4)))) (by decide) rfl rfl (by kernel_rfl) (by kernel_rfl) (by kernel_rfl) (fun _ _ _ h => h) rfl (fun W => by go_simp) ?_
      conv => arg 8; simp only [Act.put, List.setIfInBounds_toArray, List.set_cons_zero, List.set_cons_succ]
      refine rg_take 10 (d := (some 64)) (v := .pointer (some ⟨(ae.add (q * 4)).block, (ae.add (q * 4)).off + 3, none⟩)) (by decide) rfl rfl (by kernel_rfl) (by kernel_rfl) (by kernel_rfl) (fun _ _ _ h => h) rfl (fun W => by go_simp) ?_
      conv => arg 8; simp only [Act.put, List.setIfInBounds_toArray, List.set_cons_zero, List.set_cons_succ]
      refine rg_read 11 (d := (some 65)) (v := dw') (by decide) (by kernel_rfl) (by kernel_rfl) rfl rfl (by kernel_rfl) (by kernel_rfl) (by kernel_rfl) (fun _ _ _ h => h) rfl (fun W hW => by have hc := (hW.cell (p := ⟨(ae.add (q * 4)).block, (ae.add (q * 4)).off + 3, none⟩) (ha5) (fun x => x)).trans (r5'); go_simp) ?_
      conv => arg 8; simp only [Act.put, List.setIfInBounds_toArray, List.set_cons_zero, List.set_cons_succ]
      refine rg_call 12 (d := (some 66)) (by kernel_rfl) (hI) rfl rfl (by kernel_rfl) rfl rfl ?_
      rintro e w6 ⟨rfl, k6⟩
      refine ⟨_, rfl, k6, ?_⟩
      conv => arg 8; simp only [Act.put, List.setIfInBounds_toArray, List.set_cons_zero, List.set_cons_succ]
      refine rg_take 13 (d := (some 67)) (v := .bool false) (by decide) rfl rfl (by kernel_rfl) (by kernel_rfl) (by kernel_rfl) (fun _ _ _ h => h) rfl (fun W => rfl) ?_
      conv => arg 8; simp only [Act.put, List.setIfInBounds_toArray, List.set_cons_zero, List.set_cons_succ]
      refine rg_done (by kernel_rfl) ?_
      have k16 : KpN w1 w6 := (hkr.thenN d5).thenN k6
      clear hI hx5 hy5 r5 r5'
      go_wp2_with fail
      go_roundw
      case rel => exact ⟨q + 1, by omega, by go_num, k16⟩
      case measure => exact meas_up hlt
    · have hqn : n = q := by omega
      subst hqn
      go_wp2_with fail
      go_ret
      exact ⟨rfl, kb.thenN hkr⟩
end Go.Proofs.Yteokkpmndfekoaa
