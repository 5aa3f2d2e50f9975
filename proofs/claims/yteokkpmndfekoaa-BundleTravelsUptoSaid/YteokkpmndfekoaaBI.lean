/- The helpers of the statements on bundles: is. -/
import Derived.Test.YteokkpmndfekoaaBH
namespace Go.Proofs.Yteokkpmndfekoaa
open Go Go.RowKit
set_option maxRecDepth 100000

set_option maxHeartbeats 12800000 in
theorem is_c {w : World} {bv pv cv qv : Value} {b : Bdl} (h : RdBd w bv pv b) (h' : RdBd w cv qv b) (hsz : bdSize b ≤ 10000000) : Calls Try.prog 21 #[bdV b bv pv, bdV b cv qv] w (TrueP w) := by
  obtain ⟨hbl, hpl, hda⟩ := bdSize_len b
  obtain ⟨-, hb, hp⟩ := h
  obtain ⟨-, hc, hq⟩ := h'
  obtain ⟨bA, bc, rfl, hbc⟩ := hb.form
  obtain ⟨pA, pc, rfl, -⟩ := hp.form
  obtain ⟨cA, cc, rfl, hcc⟩ := hc.form
  obtain ⟨qA, qc, rfl, -⟩ := hq.form
  obtain ⟨fl, e0, e1, e2, e3, e4, e5, ti, sq, li, bl, pl⟩ := b
  dsimp only at hb hp hc hq hbc hcc hbl hpl hda ⊢
  obtain ⟨n, hn⟩ : ∃ n, bl.length = n := ⟨_, rfl⟩
  obtain ⟨m, hm⟩ : ∃ m, pl.length = m := ⟨_, rfl⟩
  rw [hn] at hb hbc hc hcc hbl ⊢
  rw [hm] at hp hq hpl ⊢
  have hnb : n ≤ 2500000 := by omega
  have kb : KpN w (((w.alloc (.cells #[n64 fl, n64 e0, n64 e1, n64 e2, n64 e3, n64 e4, n64 e5, n64 ti, n64 sq, n64 li, .slice bA n bc, .slice pA m pc] 34)).alloc (.cells #[n64 fl, n64 e0, n64 e1, n64 e2, n64 e3, n64 e4, n64 e5, n64 ti, n64 sq, n64 li, .slice cA n cc, .slice qA m qc] 29)).alloc (.cells #[n64 e0, n64 e1, n64 e2, n64 e3, n64 e4, n64 e5] 23)) := (((Kp.refl _ w).alloc _).alloc _).alloc _
  have hz1 : (((w.alloc (.cells #[n64 fl, n64 e0, n64 e1, n64 e2, n64 e3, n64 e4, n64 e5, n64 ti, n64 sq, n64 li, .slice bA n bc, .slice pA m pc] 34)).alloc (.cells #[n64 fl, n64 e0, n64 e1, n64 e2, n64 e3, n64 e4, n64 e5, n64 ti, n64 sq, n64 li, .slice cA n cc, .slice qA m qc] 29)).alloc (.cells #[n64 e0, n64 e1, n64 e2, n64 e3, n64 e4, n64 e5] 23)).heap.size = w.heap.size + 3 := by simp
  have hx1 : CellsAt (((w.alloc (.cells #[n64 fl, n64 e0, n64 e1, n64 e2, n64 e3, n64 e4, n64 e5, n64 ti, n64 sq, n64 li, .slice bA n bc, .slice pA m pc] 34)).alloc (.cells #[n64 fl, n64 e0, n64 e1, n64 e2, n64 e3, n64 e4, n64 e5, n64 ti, n64 sq, n64 li, .slice cA n cc, .slice qA m qc] 29)).alloc (.cells #[n64 e0, n64 e1, n64 e2, n64 e3, n64 e4, n64 e5] 23)) w.heap.size [n64 fl, n64 e0, n64 e1, n64 e2, n64 e3, n64 e4, n64 e5, n64 ti, n64 sq, n64 li, .slice bA n bc, .slice pA m pc] := (CellsAt.new w [n64 fl, n64 e0, n64 e1, n64 e2, n64 e3, n64 e4, n64 e5, n64 ti, n64 sq, n64 li, .slice bA n bc, .slice pA m pc] _).keep (by simp) (((Kp.refl (fun _ => False) _).alloc _).alloc _) (fun x => x)
  have hx2 : CellsAt (((w.alloc (.cells #[n64 fl, n64 e0, n64 e1, n64 e2, n64 e3, n64 e4, n64 e5, n64 ti, n64 sq, n64 li, .slice bA n bc, .slice pA m pc] 34)).alloc (.cells #[n64 fl, n64 e0, n64 e1, n64 e2, n64 e3, n64 e4, n64 e5, n64 ti, n64 sq, n64 li, .slice cA n cc, .slice qA m qc] 29)).alloc (.cells #[n64 e0, n64 e1, n64 e2, n64 e3, n64 e4, n64 e5] 23)) (w.heap.size + 1) [n64 fl, n64 e0, n64 e1, n64 e2, n64 e3, n64 e4, n64 e5, n64 ti, n64 sq, n64 li, .slice cA n cc, .slice qA m qc] := by
    have := (CellsAt.new (w.alloc (.cells #[n64 fl, n64 e0, n64 e1, n64 e2, n64 e3, n64 e4, n64 e5, n64 ti, n64 sq, n64 li, .slice bA n bc, .slice pA m pc] 34)) [n64 fl, n64 e0, n64 e1, n64 e2, n64 e3, n64 e4, n64 e5, n64 ti, n64 sq, n64 li, .slice cA n cc, .slice qA m qc] 29).keep (by simp) ((Kp.refl (fun _ => False) _).alloc (.cells #[n64 e0, n64 e1, n64 e2, n64 e3, n64 e4, n64 e5] 23)) (fun x => x)
    rwa [show (w.alloc (.cells #[n64 fl, n64 e0, n64 e1, n64 e2, n64 e3, n64 e4, n64 e5, n64 ti, n64 sq, n64 li, .slice bA n bc, .slice pA m pc] 34)).heap.size = w.heap.size + 1 by simp] at this
  obtain ⟨s1, s2⟩ := toStr_eq (hp.keepN kb) (hq.keepN kb)
  have hs : (bs pl).size ≤ 1000000000000 := by rw [bs_size]; omega
  have h6 := six_neq
  have hst := stamp_neq
  have HB := Lib.hid (And.intro (SlAt.keep hb kb (fun x y => x.keep y)) (SlAt.keep hc kb (fun x y => x.keep y)))
  have HN := Lib.hid (And.intro hn hm)
  have HX := Lib.hid (And.intro hx1 (And.intro hx2 hz1))
  have HDA := Lib.hid (And.intro hda hsz)
  clear hb hc hp hq hn hm hx1 hx2 hz1 hda hsz
  go_enter Try.func21, Try.ntmps21
  go_wp2_with ((with_reducible show wpList _ _ _ (Oper.mk _ (Op.convert _ _ _) _ _ _ _ :: _) _ _); first | (refine conv_opg s1 rfl rfl ?_) | (refine conv_opg s2 rfl rfl ?_))
  clear s1 s2 h6 hst
  generalize (((w.alloc (.cells #[n64 fl, n64 e0, n64 e1, n64 e2, n64 e3, n64 e4, n64 e5, n64 ti, n64 sq, n64 li, .slice bA n bc, .slice pA m pc] 34)).alloc (.cells #[n64 fl, n64 e0, n64 e1, n64 e2, n64 e3, n64 e4, n64 e5, n64 ti, n64 sq, n64 li, .slice cA n cc, .slice qA m qc] 29)).alloc (.cells #[n64 e0, n64 e1, n64 e2, n64 e3, n64 e4, n64 e5] 23)) = w1 at kb HB HX ⊢
  go_loopw [6] (fun i wr => ∃ q : Nat, q ≤ n ∧ i = .int .i64 q ∧ KpN w1 wr) (fun i _ => n - (intOf i).toNat)
  case atStart => exact ⟨0, Nat.zero_le _, rfl, Kp.refl _ _⟩
  case round =>
    obtain ⟨q, hq, rfl, hkr⟩ := hrel
    have hzr := hkr.size
    have b10 : wr.cell? ⟨w.heap.size, 10, none⟩ = some (.slice bA n bc) := (HX.out.1.keep (by have := HX.out.2.2; omega) hkr (fun x => x)).at_ 10 rfl
    by_cases hlt : q < n
    · have hql : q < bl.length := by rw [HN.out.1]; exact hlt
      obtain ⟨ad, cs, rfl, -, hrow0, ⟨⟨dw, rfl, hdw⟩, -⟩⟩ := HB.out.1.row q hql
      obtain ⟨ae, cs', rfl, -, hrow0', ⟨⟨dw', rfl, hdw'⟩, -⟩⟩ := HB.out.2.row q hql
      have hdl := HDA.out.1 bl[q] (List.getElem_mem hql)
      have hrow := hrow0.keepN hkr
      have hrow' := hrow0'.keepN hkr
      have hdr := hdw.keepN hkr
      have hdr' := hdw'.keepN hkr
      obtain ⟨x, hx⟩ : ∃ x, bl[q] = x := ⟨_, rfl⟩
      rw [hx] at hrow hrow' hdr hdr' hdl
      obtain ⟨xt, xn, xf, xd⟩ := x
      dsimp only at hrow hrow' hdr hdr' hdl
      have HR := Lib.hid (And.intro hrow (And.intro hrow' (And.intro hdr (And.intro hdr' hdl))))
      clear hrow hrow' hrow0 hrow0' hdr hdr' hdw hdw' hdl hx
      go_wp2_with fail
      refine rg_begin 12 (fun _ => False) (by kernel_rfl) (fun w5 d5 => ?_)
      have hz5 := d5.size
      have hx5 := (HX.out.1.keep (by have := HX.out.2.2; omega) hkr (fun x => x)).keep (by have := HX.out.2.2; omega) d5 (fun x => x)
      have hy5 := (HX.out.2.1.keep (by have := HX.out.2.2; omega) hkr (fun x => x)).keep (by have := HX.out.2.2; omega) d5 (fun x => x)
      have hI := isBlock_c (t := xt) (n := xn) (f := xf) (HR.out.2.2.1.keepN d5) (HR.out.2.2.2.1.keepN d5) (by have h1 := HR.out.2.2.2.2; have h2 := HDA.out.2; omega)
      refine rg_take 0 (d := (some 76)) (v := .pointer (some ⟨w.heap.size, 10, none⟩)) (by decide) rfl rfl (by kernel_rfl) (by kernel_rfl) (by kernel_rfl) (fun _ _ _ h => h) rfl (fun W => by go_simp) ?_
      conv => arg 8; simp only [Act.put, List.setIfInBounds_toArray, List.set_cons_zero, List.set_cons_succ]
      refine rg_read 1 (d := (some 77)) (v := .slice (some ad) n bc) (by decide) (by kernel_rfl) (by kernel_rfl) rfl rfl (by kernel_rfl) (by kernel_rfl) (by kernel_rfl) (fun _ _ _ h => h) rfl (fun W hW => by have hc := (hW.cell (p := ⟨w.heap.size, 10, none⟩) ((by have := HX.out.2.2; show w.heap.size < _; omega)) (fun x => x)).trans (hx5.at_ 10 rfl); go_simp) ?_
      conv => arg 8; simp only [Act.put, List.setIfInBounds_toArray, List.set_cons_zero, List.set_cons_succ]
      refine rg_take 2 (d := (some 78)) (v := .int .i64 q) (by decide) rfl rfl (by kernel_rfl) (by kernel_rfl) (by kernel_rfl) (fun _ _ _ h => h) rfl (fun W => rfl) ?_
      conv => arg 8; simp only [Act.put, List.setIfInBounds_toArray, List.set_cons_zero, List.set_cons_succ]
      refine rg_take 3 (d := (some 79)) (v := .pointer (some (ad.add (q * 4)))) (by decide) rfl rfl (by kernel_rfl) (by kernel_rfl) (by kernel_rfl) (fun _ _ _ h => h) rfl (fun W => by go_simp) ?_
      conv => arg 8; simp only [Act.put, List.setIfInBounds_toArray, List.set_cons_zero, List.set_cons_succ]
      refine rg_read 4 (d := (some 80)) (v := .agg #[n64 xt, n64 xn, n64 xf, dw]) (by decide) (by kernel_rfl) (by kernel_rfl) rfl rfl (by kernel_rfl) (by kernel_rfl) (by kernel_rfl) (fun _ _ _ h => h) rfl (fun W hW => by exact run_load_op ((HR.out.1.keepN d5).keepN hW) rfl Try.underlying37 rfl (by kernel_rfl)) ?_
      conv => arg 8; simp only [Act.put, List.setIfInBounds_toArray, List.set_cons_zero, List.set_cons_succ]
      refine rg_take 5 (d := (some 81)) (v := .pointer (some ⟨w.heap.size + 1, 10, none⟩)) (by decide) rfl rfl (by kernel_rfl) (by kernel_rfl) (by kernel_rfl) (fun _ _ _ h => h) rfl (fun W => by go_simp) ?_
      conv => arg 8; simp only [Act.put, List.setIfInBounds_toArray, List.set_cons_zero, List.set_cons_succ]
      refine rg_read 6 (d := (some 82)) (v := .slice (some ae) n cc) (by decide) (by kernel_rfl) (by kernel_rfl) rfl rfl (by kernel_rfl) (by kernel_rfl) (by kernel_rfl) (fun _ _ _ h => h) rfl (fun W hW => by have hc := (hW.cell (p := ⟨w.heap.size + 1, 10, none⟩) ((by have := HX.out.2.2; show w.heap.size + 1 < _; omega)) (fun x => x)).trans (hy5.at_ 10 rfl); go_simp) ?_
      conv => arg 8; simp only [Act.put, List.setIfInBounds_toArray, List.set_cons_zero, List.set_cons_succ]
      refine rg_take 7 (d := (some 83)) (v := .int .i64 q) (by decide) rfl rfl (by kernel_rfl) (by kernel_rfl) (by kernel_rfl) (fun _ _ _ h => h) rfl (fun W => rfl) ?_
      conv => arg 8; simp only [Act.put, List.setIfInBounds_toArray, List.set_cons_zero, List.set_cons_succ]
      refine rg_take 8 (d := (some 84)) (v := .pointer (some (ae.add (q * 4)))) (by decide) rfl rfl (by kernel_rfl) (by kernel_rfl) (by kernel_rfl) (fun _ _ _ h => h) rfl (fun W => by go_simp) ?_
      conv => arg 8; simp only [Act.put, List.setIfInBounds_toArray, List.set_cons_zero, List.set_cons_succ]
      refine rg_read 9 (d := (some 85)) (v := .agg #[n64 xt, n64 xn, n64 xf, dw']) (by decide) (by kernel_rfl) (by kernel_rfl) rfl rfl (by kernel_rfl) (by kernel_rfl) (by kernel_rfl) (fun _ _ _ h => h) rfl (fun W hW => by exact run_load_op ((HR.out.2.1.keepN d5).keepN hW) rfl Try.underlying40 rfl (by kernel_rfl)) ?_
      conv => arg 8; simp only [Act.put, List.setIfInBounds_toArray, List.set_cons_zero, List.set_cons_succ]
      refine rg_call 10 (d := (some 86)) (by kernel_rfl) (hI) rfl rfl (by kernel_rfl) rfl rfl ?_
      rintro e w6 ⟨rfl, k6⟩
      refine ⟨_, rfl, k6, ?_⟩
      conv => arg 8; simp only [Act.put, List.setIfInBounds_toArray, List.set_cons_zero, List.set_cons_succ]
      refine rg_take 11 (d := (some 87)) (v := .bool false) (by decide) rfl rfl (by kernel_rfl) (by kernel_rfl) (by kernel_rfl) (fun _ _ _ h => h) rfl (fun W => rfl) ?_
      conv => arg 8; simp only [Act.put, List.setIfInBounds_toArray, List.set_cons_zero, List.set_cons_succ]
      refine rg_done (by kernel_rfl) ?_
      have k16 : KpN w1 w6 := (hkr.thenN d5).thenN k6
      clear hI hx5 hy5
      go_wp2_with fail
      go_roundw
      case rel => exact ⟨q + 1, by omega, by go_num, k16⟩
      case measure => exact meas_up hlt
    · have hqn : n = q := by omega
      subst hqn
      go_wp2_with fail
      go_ret
      exact ⟨rfl, kb.thenN hkr⟩
end Go.Proofs.Yteokkpmndfekoaa
