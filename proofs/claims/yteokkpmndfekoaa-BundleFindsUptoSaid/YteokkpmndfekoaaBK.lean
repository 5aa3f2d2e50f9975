/- BundleFinds: what the call does. -/
import Derived.Test.YteokkpmndfekoaaBJ
namespace Go.Proofs.Yteokkpmndfekoaa
open Go Go.RowKit
set_option maxRecDepth 100000

/-- an operation behind a guard that is met, whose run is known -/
theorem wpl_valg {P : Program} {o : Oper} {ops : Array Oper} {rest : List Oper} {a : Act} {w w' : World} {v : Value} {Q : Exit → Act → World → Prop} (hg : Region.wanted o (yielded ops a.tmps) = true) (h : (execOp a.eval o).run P w = .ok (.value v) w') (hk : wpList P ops Q rest (a.put o.dst v) w') : wpList P ops Q (o :: rest) a w :=
  wpList_step fun K hK => by rw [if_pos hg]; exact wp_val h (hK _ _ hk)
theorem fnd_of {b : Bdl} {k : Nat} {w w' : World} {e : Ending} (h : FindP b k w e w') (hd : ∀ x, findB b.bl k = some x → x.da.length ≤ 100000000) :
    ∃ t nu f u xs fb, e = .returned (.tuple #[.agg #[n64 t, n64 nu, n64 f, u], .bool fb]) ∧ xs.length ≤ 100000000 ∧ RdB w' u xs ∧ KpN w w' ∧
      ∀ (W W' : World) (e' : Ending), RFindP b k W e' W' → ∃ u', e' = .returned (.tuple #[.agg #[n64 t, n64 nu, n64 f, u'], .bool fb]) ∧ RdB W' u' xs ∧ KpN W W' := by
  unfold FindP at h
  unfold RFindP
  cases hf : findB b.bl k with
  | none =>
    rw [hf] at h
    obtain ⟨rfl, kk⟩ := h
    exact ⟨0, 0, 0, _, [], false, rfl, by simp, RdB.nil _, kk, fun _ _ _ ⟨h1, h2⟩ => ⟨_, h1, RdB.nil _, h2⟩⟩
  | some x =>
    rw [hf] at h
    obtain ⟨u, rfl, ho, kk⟩ := h
    exact ⟨x.ty, x.nu, x.fl, u, x.da, true, rfl, hd x hf, ho.reads, kk, fun _ _ _ h => h⟩
set_option maxHeartbeats 12800000 in
theorem finds_walk {w : World} {bv pv : Value} {b : Bdl} {k : Nat} (h : RdBd w bv pv b) (hsz : bdSize b ≤ 10000000) (hk : U64 k) : Calls Try.prog 3 #[bdV b bv pv, n64 k] w (TrueP w) := by
  obtain ⟨hbl, hpl, hda⟩ := bdSize_len b
  have HH := Lib.hid h
  obtain ⟨-, hb, hp⟩ := h
  obtain ⟨bA, bc, rfl, hbc⟩ := hb.form
  obtain ⟨pA, pc, rfl, -⟩ := hp.form
  have HGV := Lib.hid (fun (W : World) (kW : KpN w W) => given_c (HH.out.keepN kW) hsz)
  have HRF := Lib.hid (fun (W : World) (kW : KpN w W) => rfind_c (k := k) (HH.out.keepN kW) hsz hk)
  have HKP := Lib.hid (fun (W : World) (kW : KpN w W) (g : Nat) (dv : Nat → Value) (pv' : Value) (hm : GivenM W g dv pv' b) => kept_c hm (HH.out.keepN kW) hsz)
  have HFD := Lib.hid (fun (W : World) (kW : KpN w W) (g : Nat) (dv : Nat → Value) (pv' : Value) (hm : GivenM W g dv pv' b) => find_c (k := k) (hm.rd (HH.out.keepN kW)) hsz hk)
  have hdn : ∀ x, findB b.bl k = some x → x.da.length ≤ 100000000 := fun x hx => by
    have := hda x (List.mem_of_find?_eq_some hx)
    omega
  obtain ⟨fl, e0, e1, e2, e3, e4, e5, ti, sq, li, bl, pl⟩ := b
  dsimp only at hb hp hbc hbl hpl hda HH HGV HRF HKP HFD hdn ⊢
  obtain ⟨n, hn⟩ : ∃ n, bl.length = n := ⟨_, rfl⟩
  obtain ⟨m, hm⟩ : ∃ m, pl.length = m := ⟨_, rfl⟩
  rw [hn] at HGV HRF HKP HFD hbl ⊢
  rw [hm] at HGV HRF HKP hpl ⊢
  have kb : KpN w (w.alloc (.cells #[n64 fl, n64 e0, n64 e1, n64 e2, n64 e3, n64 e4, n64 e5, n64 ti, n64 sq, n64 li, .slice bA n bc, .slice pA m pc] 29)) := (Kp.refl _ w).alloc _
  have hx1 := CellsAt.new w [n64 fl, n64 e0, n64 e1, n64 e2, n64 e3, n64 e4, n64 e5, n64 ti, n64 sq, n64 li, .slice bA n bc, .slice pA m pc] 29
  have hz1 : (w.alloc (.cells #[n64 fl, n64 e0, n64 e1, n64 e2, n64 e3, n64 e4, n64 e5, n64 ti, n64 sq, n64 li, .slice bA n bc, .slice pA m pc] 29)).heap.size = w.heap.size + 1 := by simp
  have hl1 := run_loadAt_rowat (P := Try.prog) hx1.1 Try.underlying29 rfl (by kernel_rfl)
  obtain ⟨w1, hw1⟩ : ∃ w1, w.alloc (.cells #[n64 fl, n64 e0, n64 e1, n64 e2, n64 e3, n64 e4, n64 e5, n64 ti, n64 sq, n64 li, .slice bA n bc, .slice pA m pc] 29) = w1 := ⟨_, rfl⟩
  rw [hw1] at kb hz1 hx1
  have HW1 := Lib.hid hw1
  have HX := Lib.hid (And.intro hx1 hz1)
  have HN := Lib.hid (And.intro hn hm)
  have HL1 := Lib.hid hl1
  have HDN := Lib.hid hdn
  clear hb hp hx1 hz1 hw1 hl1 hda hsz HH hn hm hdn
  go_enter Try.func3, Try.ntmps3
  go_wp2_with ((with_reducible show wpList _ _ _ (Oper.mk _ (Op.load 29 _) _ _ _ _ :: _) _ _); refine wpl_val rfl (run_load_opv HL1.out rfl) ?_)
  rw [HW1.out]
  refine (HGV.out w1 kb).mono ?_
  rintro e w2 ⟨g, dv, uv, he, hgm, k2⟩
  obtain ⟨uA, uc, rfl, -⟩ := hgm.pay.rd.form
  dsimp only [bdV] at he
  rw [HN.out.1, HN.out.2] at he
  subst he
  have hz2 := k2.size
  have hca := CellsAt.new w2 [.int .u64 0, .int .u64 0, .int .u64 0, .int .u64 0, .int .u64 0, .int .u64 0, .int .u64 0, .int .u64 0, .int .u64 0, .int .u64 0, .slice none 0 0, .slice none 0 0] 34
  have ka : KpN w2 (w2.alloc (.cells #[.int .u64 0, .int .u64 0, .int .u64 0, .int .u64 0, .int .u64 0, .int .u64 0, .int .u64 0, .int .u64 0, .int .u64 0, .int .u64 0, .slice none 0 0, .slice none 0 0] 34)) := (Kp.refl _ _).alloc _
  have hza : (w2.alloc (.cells #[.int .u64 0, .int .u64 0, .int .u64 0, .int .u64 0, .int .u64 0, .int .u64 0, .int .u64 0, .int .u64 0, .int .u64 0, .int .u64 0, .slice none 0 0, .slice none 0 0] 34)).heap.size = w2.heap.size + 1 := by simp
  have kc := Kp.setCells w2.heap.size [n64 fl, n64 e0, n64 e1, n64 e2, n64 e3, n64 e4, n64 e5, n64 ti, n64 sq, n64 li, .slice (some ⟨g, 0, none⟩) n (n + 2), .slice uA m uc] 0 (w2.alloc (.cells #[.int .u64 0, .int .u64 0, .int .u64 0, .int .u64 0, .int .u64 0, .int .u64 0, .int .u64 0, .int .u64 0, .int .u64 0, .int .u64 0, .slice none 0 0, .slice none 0 0] 34))
  have hzc := kc.size
  have hst := run_storeAt_mid (P := Try.prog) (w2.alloc (.cells #[.int .u64 0, .int .u64 0, .int .u64 0, .int .u64 0, .int .u64 0, .int .u64 0, .int .u64 0, .int .u64 0, .int .u64 0, .int .u64 0, .slice none 0 0, .slice none 0 0] 34)) w2.heap.size 0 34 #[n64 fl, n64 e0, n64 e1, n64 e2, n64 e3, n64 e4, n64 e5, n64 ti, n64 sq, n64 li, .slice (some ⟨g, 0, none⟩) n (n + 2), .slice uA m uc] (hca.there _ (Nat.le_refl _)) (by kernel_rfl) (by kernel_rfl)
  have hcg := hca.put (ds := [n64 fl, n64 e0, n64 e1, n64 e2, n64 e3, n64 e4, n64 e5, n64 ti, n64 sq, n64 li, .slice (some ⟨g, 0, none⟩) n (n + 2), .slice uA m uc]) rfl
  have hl3 := run_loadAt_rowat (P := Try.prog) hcg.1 Try.underlying34 rfl (by kernel_rfl)
  have k23 : KpN w2 ((w2.alloc (.cells #[.int .u64 0, .int .u64 0, .int .u64 0, .int .u64 0, .int .u64 0, .int .u64 0, .int .u64 0, .int .u64 0, .int .u64 0, .int .u64 0, .slice none 0 0, .slice none 0 0] 34)).setCells w2.heap.size 0 [n64 fl, n64 e0, n64 e1, n64 e2, n64 e3, n64 e4, n64 e5, n64 ti, n64 sq, n64 li, .slice (some ⟨g, 0, none⟩) n (n + 2), .slice uA m uc]) := ka.fresh kc (fun i e => by omega)
  have HL3 := Lib.hid (And.intro hst hl3)
  have HGM := Lib.hid hgm
  clear hst hl3 hca ka kc hgm
  obtain ⟨w3, hw3⟩ : ∃ w3, (w2.alloc (.cells #[.int .u64 0, .int .u64 0, .int .u64 0, .int .u64 0, .int .u64 0, .int .u64 0, .int .u64 0, .int .u64 0, .int .u64 0, .int .u64 0, .slice none 0 0, .slice none 0 0] 34)).setCells w2.heap.size 0 [n64 fl, n64 e0, n64 e1, n64 e2, n64 e3, n64 e4, n64 e5, n64 ti, n64 sq, n64 li, .slice (some ⟨g, 0, none⟩) n (n + 2), .slice uA m uc] = w3 := ⟨_, rfl⟩
  rw [hw3] at hcg k23 hzc
  have HW3 := Lib.hid hw3
  have k03 : KpN w w3 := (kb.thenN k2).thenN k23
  have hf := HFD.out w3 k03 g dv (.slice uA pl.length uc) (HGM.out.keepN k23)
  rw [HN.out.2] at hf
  have HF := Lib.hid hf
  have HCG := Lib.hid hcg
  clear hcg hw3 hf
  go_wp2_with (first
    | ((with_reducible show wpList _ _ _ (Oper.mk _ (Op.store 34 _ _) _ _ _ _ :: _) _ _); refine wpl_skip rfl (run_store_op HL3.out.1 rfl rfl) ?_)
    | ((with_reducible show wpList _ _ _ (Oper.mk _ (Op.load 34 _) _ _ _ _ :: _) _ _); refine wpl_val rfl (run_load_opv HL3.out.2 rfl) ?_))
  rw [HW3.out]
  refine HF.out.mono ?_
  rintro e w4 h4
  obtain ⟨t, nu, f, u, xs, fb, he, hxl, hux, k34, hfb⟩ := fnd_of h4 (fun x hx => HDN.out x hx)
  clear h4
  subst he
  obtain ⟨uB, ub, rfl, -⟩ := hux.form
  obtain ⟨L, hL⟩ : ∃ L, xs.length = L := ⟨_, rfl⟩
  rw [hL]
  have hz4 := k34.size
  have hxs := HX.out.2
  have hca := CellsAt.new w4 [.int .u64 0, .int .u64 0, .int .u64 0, .slice none 0 0] 37
  have ka : KpN w4 (w4.alloc (.cells #[.int .u64 0, .int .u64 0, .int .u64 0, .slice none 0 0] 37)) := (Kp.refl _ _).alloc _
  have hza : (w4.alloc (.cells #[.int .u64 0, .int .u64 0, .int .u64 0, .slice none 0 0] 37)).heap.size = w4.heap.size + 1 := by simp
  have kc := Kp.setCells w4.heap.size [n64 t, n64 nu, n64 f, .slice uB L ub] 0 (w4.alloc (.cells #[.int .u64 0, .int .u64 0, .int .u64 0, .slice none 0 0] 37))
  have hst := run_storeAt_mid (P := Try.prog) (w4.alloc (.cells #[.int .u64 0, .int .u64 0, .int .u64 0, .slice none 0 0] 37)) w4.heap.size 0 37 #[n64 t, n64 nu, n64 f, .slice uB L ub] (hca.there _ (Nat.le_refl _)) (by kernel_rfl) (by kernel_rfl)
  have hcb := hca.put (ds := [n64 t, n64 nu, n64 f, .slice uB L ub]) rfl
  have k45 : KpN w4 ((w4.alloc (.cells #[.int .u64 0, .int .u64 0, .int .u64 0, .slice none 0 0] 37)).setCells w4.heap.size 0 [n64 t, n64 nu, n64 f, .slice uB L ub]) := ka.fresh kc (fun i e => by omega)
  have k05 : KpN w ((w4.alloc (.cells #[.int .u64 0, .int .u64 0, .int .u64 0, .slice none 0 0] 37)).setCells w4.heap.size 0 [n64 t, n64 nu, n64 f, .slice uB L ub]) := (k03.thenN k34).thenN k45
  have k15 : KpN w1 ((w4.alloc (.cells #[.int .u64 0, .int .u64 0, .int .u64 0, .slice none 0 0] 37)).setCells w4.heap.size 0 [n64 t, n64 nu, n64 f, .slice uB L ub]) := ((k2.thenN k23).thenN k34).thenN k45
  have hl5 := run_loadAt_rowat (P := Try.prog) ((HX.out.1.keep (by omega) k15 (fun x => x)).1) Try.underlying29 rfl (by kernel_rfl)
  have hs4 : w4.heap.size < ((w4.alloc (.cells #[.int .u64 0, .int .u64 0, .int .u64 0, .slice none 0 0] 37)).setCells w4.heap.size 0 [n64 t, n64 nu, n64 f, .slice uB L ub]).heap.size := by have := kc.size; omega
  have HL5 := Lib.hid (And.intro hst hl5)
  clear hst hl5 hca ka kc
  obtain ⟨w5, hw5⟩ : ∃ w5, (w4.alloc (.cells #[.int .u64 0, .int .u64 0, .int .u64 0, .slice none 0 0] 37)).setCells w4.heap.size 0 [n64 t, n64 nu, n64 f, .slice uB L ub] = w5 := ⟨_, rfl⟩
  rw [hw5] at hs4 hcb k45 k05 k15
  have HW5 := Lib.hid hw5
  have hrf := HRF.out w5 k05
  have HR := Lib.hid hrf
  have HCB := Lib.hid hcb
  have HUX := Lib.hid (And.intro hux (And.intro hL hfb))
  have HXL := Lib.hid hxl
  clear hw5 hrf hcb hux hL hxl hfb hza hxs
  go_wp2_with (first
    | ((with_reducible show wpList _ _ _ (Oper.mk _ (Op.store 37 _ _) _ _ _ _ :: _) _ _); refine wpl_skip rfl (run_store_op HL5.out.1 rfl rfl) ?_)
    | ((with_reducible show wpList _ _ _ (Oper.mk _ (Op.load 29 _) _ _ _ _ :: _) _ _); refine wpl_val rfl (run_load_opv HL5.out.2 rfl) ?_))
  rw [HW5.out]
  refine HR.out.mono ?_
  rintro e w6 h6
  obtain ⟨v, he, hvx, k56⟩ := HUX.out.2.2 _ _ _ h6
  clear h6
  subst he
  obtain ⟨vB, vb, rfl, -⟩ := hvx.form
  rw [HUX.out.2.1]
  have hz5 := k45.size
  have hz6 := k56.size
  have hca := CellsAt.new w6 [.int .u64 0, .int .u64 0, .int .u64 0, .slice none 0 0] 40
  have ka : KpN w6 (w6.alloc (.cells #[.int .u64 0, .int .u64 0, .int .u64 0, .slice none 0 0] 40)) := (Kp.refl _ _).alloc _
  have hza : (w6.alloc (.cells #[.int .u64 0, .int .u64 0, .int .u64 0, .slice none 0 0] 40)).heap.size = w6.heap.size + 1 := by simp
  have kc := Kp.setCells w6.heap.size [n64 t, n64 nu, n64 f, .slice vB L vb] 0 (w6.alloc (.cells #[.int .u64 0, .int .u64 0, .int .u64 0, .slice none 0 0] 40))
  have hst := run_storeAt_mid (P := Try.prog) (w6.alloc (.cells #[.int .u64 0, .int .u64 0, .int .u64 0, .slice none 0 0] 40)) w6.heap.size 0 40 #[n64 t, n64 nu, n64 f, .slice vB L vb] (hca.there _ (Nat.le_refl _)) (by kernel_rfl) (by kernel_rfl)
  have hcv := hca.put (ds := [n64 t, n64 nu, n64 f, .slice vB L vb]) rfl
  have k67 : KpN w6 ((w6.alloc (.cells #[.int .u64 0, .int .u64 0, .int .u64 0, .slice none 0 0] 40)).setCells w6.heap.size 0 [n64 t, n64 nu, n64 f, .slice vB L vb]) := ka.fresh kc (fun i e => by omega)
  have HL7 := Lib.hid hst
  clear hst hca ka kc
  obtain ⟨w7, hw7⟩ : ∃ w7, (w6.alloc (.cells #[.int .u64 0, .int .u64 0, .int .u64 0, .slice none 0 0] 40)).setCells w6.heap.size 0 [n64 t, n64 nu, n64 f, .slice vB L vb] = w7 := ⟨_, rfl⟩
  rw [hw7] at hcv k67
  have HW7 := Lib.hid hw7
  have k57 := k56.thenN k67
  have k07 := k05.thenN k57
  have hl37 := run_loadAt_rowat (P := Try.prog) ((HCB.out.keep hs4 k57 (fun x => x)).1) Try.underlying37 rfl (by kernel_rfl)
  have hl40 := run_loadAt_rowat (P := Try.prog) hcv.1 Try.underlying40 rfl (by kernel_rfl)
  have hux := HUX.out.1.keepN (k45.thenN k57)
  have hib := isBlock_c (t := t) (n := nu) (f := f) hux (hvx.keepN k67) HXL.out
  rw [HUX.out.2.1] at hib
  have HI := Lib.hid hib
  have HL8 := Lib.hid (And.intro hl37 hl40)
  clear hw7 hl37 hl40 hib hux hvx hza
  go_wp2_with (first
    | ((with_reducible show wpList _ _ _ (Oper.mk _ (Op.store 40 _ _) _ _ _ _ :: _) _ _); refine wpl_skip rfl (run_store_op HL7.out rfl rfl) ?_; rw [HW7.out])
    | ((with_reducible show wpList _ _ _ (Oper.mk _ (Op.load 37 _) _ _ _ _ :: _) _ _); refine wpl_valg (by kernel_rfl) (run_load_opv HL8.out.1 rfl) ?_)
    | ((with_reducible show wpList _ _ _ (Oper.mk _ (Op.load 40 _) _ _ _ _ :: _) _ _); refine wpl_valg (by kernel_rfl) (run_load_opv HL8.out.2 rfl) ?_))
  refine HI.out.mono ?_
  rintro e w8 ⟨rfl, k78⟩
  have k58 := k57.thenN k78
  have k08 := k07.thenN k78
  have k38 : KpN w3 w8 := ((k34.thenN k45).thenN k58)
  have hg := HCG.out.keep (by have := hzc; omega) k38 (fun x => x)
  have hl34 := run_loadAt_rowat (P := Try.prog) hg.1 Try.underlying34 rfl (by kernel_rfl)
  have hl29 := run_loadAt_rowat (P := Try.prog) ((HX.out.1.keep (by have := HX.out.2; omega) (k15.thenN k58) (fun x => x)).1) Try.underlying29 rfl (by kernel_rfl)
  have hkp := HKP.out w8 k08 g dv (.slice uA pl.length uc) (HGM.out.keepN (k23.thenN k38))
  rw [HN.out.2] at hkp
  have HL9 := Lib.hid (And.intro hl34 hl29)
  have HK := Lib.hid hkp
  clear hl34 hl29 hg hkp
  go_wp2_with (first
    | ((with_reducible show wpList _ _ _ (Oper.mk _ (Op.load 34 _) _ _ _ _ :: _) _ _); refine wpl_valg (by kernel_rfl) (run_load_opv HL9.out.1 rfl) ?_)
    | ((with_reducible show wpList _ _ _ (Oper.mk _ (Op.load 29 _) _ _ _ _ :: _) _ _); refine wpl_valg (by kernel_rfl) (run_load_opv HL9.out.2 rfl) ?_))
  refine HK.out.mono ?_
  rintro e w9 ⟨rfl, k89⟩
  have k09 := k08.thenN k89
  go_wp2_with fail
  (try simp only [Exit.inBlock, Exit.then])
  go_ret
  exact ⟨rfl, k09⟩
end Go.Proofs.Yteokkpmndfekoaa
