/- BundleHops: the walk. -/
import Derived.Test.YteokkpmndfekoaaGQ
import Derived.Test.YteokkpmndfekoaaBJ
import Derived.Test.YteokkpmndfekoaaBI
namespace Go.Proofs.Yteokkpmndfekoaa
open Go Go.RowKit Go.ChangeShapes Go.WideShapes Go.ChangeAt
set_option maxRecDepth 100000

theorem ch_size {b : Bdl} {i : Option Nat} {bad : List UInt8 → Bool} {mk : List UInt8 → List UInt8} (h : bdSize b ≤ 5000000) (hmk : ∀ xs, bad xs = false → (mk xs).length ≤ 64) : bdSize (chV b i bad mk).1 ≤ 10000000 := by
  have h0 : bdSize noBdl ≤ 10000000 := by decide
  unfold chV
  by_cases h1 : valE b ≠ 0
  · rw [if_pos h1]; exact h0
  · rw [if_neg h1]
    cases i with
    | none => exact h0
    | some q =>
      dsimp only
      by_cases h2 : bad (b.bl.getD q ⟨0, 0, 0, []⟩).da = true
      · rw [if_pos h2]; exact h0
      · rw [if_neg h2]
        have := hmk (b.bl.getD q ⟨0, 0, 0, []⟩).da (Bool.eq_false_iff.2 h2)
        have := newB_size b q (mk (b.bl.getD q ⟨0, 0, 0, []⟩).da)
        split
        · exact h0
        · show bdSize (newB b q _) ≤ _
          omega
set_option maxHeartbeats 25600000 in
theorem hops_walk {w : World} {bv pv : Value} {b : Bdl} {t : Nat} (h : RdBd w bv pv b) (hs5 : bdSize b ≤ 5000000) (ht : U64 t) : Calls Try.prog 8 #[bdV b bv pv, n64 t] w (TrueP w) := by
  obtain ⟨bA, bc, rfl, -⟩ := h.bl.form
  obtain ⟨pA, pc, rfl, -⟩ := h.pl.form
  have hsz : bdSize b ≤ 10000000 := by omega
  obtain ⟨w1, hw1, hx1, k1, hz1⟩ := rbundle_box w b (.slice bA b.bl.length bc) (.slice pA b.pl.length pc)
  have hl1 : ∀ W, KpN w1 W → (Instr.loadAt 29 (.pointer (some ⟨w.heap.size, 0, none⟩))).run Try.prog W = .ok (bdV b (.slice bA b.bl.length bc) (.slice pA b.pl.length pc)) W := fun W k => rbd_loadN hx1 (by omega) k
  have hgv := given_c (h.keepN k1) hsz
  have hzR := ch_size (i := fstK b.bl 10) (bad := hopBad) (mk := hopNew) hs5 (fun xs _ => hopNew_len xs)
  have hzS := ch_size (i := fstK b.bl 7) (bad := ageBad t) (mk := ageNew t) hs5 (fun xs hb => (ageNew_holds hb).2)
  have he1 := fun {W : World} {bv pv : Value} (hh : RdBd W bv pv b) => hopping_c hh hsz
  have he2 := fun {W : World} (kW : KpN w W) => rhopping_c h kW hsz
  have he3 := fun {W : World} {bv pv : Value} (hh : RdBd W bv pv b) => aging_c ht hh hsz
  have he4 := fun {W : World} (kW : KpN w W) => raging_c ht h kW hsz
  unfold ChP at he1 he3
  unfold RChP at he2 he4
  obtain ⟨R, hR⟩ : ∃ R, chV b (fstK b.bl 10) hopBad hopNew = R := ⟨_, rfl⟩
  obtain ⟨S, hS⟩ : ∃ R, chV b (fstK b.bl 7) (ageBad t) (ageNew t) = R := ⟨_, rfl⟩
  rw [hR] at he1 he2 hzR
  rw [hS] at he3 he4 hzS
  obtain ⟨B, E⟩ := R
  obtain ⟨C, O⟩ := S
  dsimp only at he1 he2 he3 he4 hzR hzS
  have HH := Lib.hid (And.intro hw1 (And.intro hl1 (And.intro k1 h)))
  have HC := Lib.hid (And.intro @he1 (And.intro @he2 (And.intro @he3 @he4)))
  have HS := Lib.hid (And.intro hsz (And.intro hzR hzS))
  clear hw1 hx1 hz1 hl1 k1 hR hS he1 he2 he3 he4 h hsz hzR hzS hs5
  go_enter Try.func8, Try.ntmps8
  go_wp2_with (first
    | ((with_reducible show wpList _ _ _ _ _ (World.alloc w _)); rw [HH.out.1])
    | ((with_reducible show wpList _ _ _ (Oper.mk _ (Op.load 29 _) _ _ _ _ :: _) _ _); refine wpl_val rfl (run_load_opv (HH.out.2.1 w1 (Kp.refl _ _)) rfl) ?_)
    | fail)
  refine hgv.mono ?_
  rintro e w2 ⟨g, dv, uv, rfl, hgm, k2⟩
  clear hgv
  obtain ⟨uA, uc, rfl, -⟩ := hgm.pay.rd.form
  obtain ⟨w3, hst, hx3, k3, hz3⟩ := bundle_put w2 b (some ⟨g, 0, none⟩) uA b.bl.length (b.bl.length + 2) b.pl.length uc
  have hl3 : ∀ W, KpN w3 W → (Instr.loadAt 34 (.pointer (some ⟨w2.heap.size, 0, none⟩))).run Try.prog W = .ok (bdV b (.slice (some ⟨g, 0, none⟩) b.bl.length (b.bl.length + 2)) (.slice uA b.pl.length uc)) W := fun W k => bd_loadN hx3 (by omega) k
  have hg3 := hgm.keepN k3
  have hrd3 := hg3.rd HH.out.2.2.2
  have H3 := Lib.hid (And.intro hst (And.intro hl3 (And.intro hg3 (And.intro (k2.thenN k3) hrd3))))
  clear hst hx3 hz3 hl3 hg3 hgm k2 k3 hrd3
  go_wp2_with (first
    | ((with_reducible show wpList _ _ _ (Oper.mk _ (Op.store 34 _ _) _ _ _ _ :: _) _ _); refine wpl_skip rfl (run_store_op H3.out.1 rfl rfl) ?_)
    | ((with_reducible show wpList _ _ _ (Oper.mk _ (Op.load 34 _) _ _ _ _ :: _) _ _); refine wpl_val rfl (run_load_opv (H3.out.2.1 w3 (Kp.refl _ _)) rfl) ?_)
    | fail)
  refine (HC.out.1 H3.out.2.2.2.2).mono ?_
  rintro e w4 ⟨hv, qv, ls, rfl, ho, k4⟩
  obtain ⟨hA, hc, rfl, -⟩ := ho.rd.bl.form
  obtain ⟨qA, qc, rfl, -⟩ := ho.rd.pl.form
  obtain ⟨w5, hst, hx5, k5, hz5⟩ := bundle_put w4 B hA qA B.bl.length hc B.pl.length qc
  have hl5 : ∀ W, KpN w5 W → (Instr.loadAt 34 (.pointer (some ⟨w4.heap.size, 0, none⟩))).run Try.prog W = .ok (bdV B (.slice hA B.bl.length hc) (.slice qA B.pl.length qc)) W := fun W k => bd_loadN hx5 (by omega) k
  have H5 := Lib.hid (And.intro hst (And.intro hl5 (And.intro (k4.thenN k5) (And.intro (ho.rd.keepN k5) (And.intro hx5 (show w4.heap.size < w5.heap.size ∧ w3.heap.size ≤ w4.heap.size by have := k4.size; omega))))))
  clear hst hx5 hz5 hl5 ho k4 k5
  go_wp2_with (first
    | ((with_reducible show wpList _ _ _ (Oper.mk _ (Op.store 34 _ _) _ _ _ _ :: _) _ _); refine wpl_skip rfl (run_store_op H5.out.1 rfl rfl) ?_)
    | ((with_reducible show wpList _ _ _ (Oper.mk _ (Op.load 29 _) _ _ _ _ :: _) _ _); refine wpl_val rfl (run_load_opv (HH.out.2.1 w5 (H3.out.2.2.2.1.thenN H5.out.2.2.1)) rfl) ?_)
    | fail)
  refine (HC.out.2.1 (HH.out.2.2.1.thenN (H3.out.2.2.2.1.thenN H5.out.2.2.1))).mono ?_
  rintro e w6 ⟨rv, sv, rfl, hr, k6⟩
  have hr := hr w6 ((HH.out.2.2.1.thenN (H3.out.2.2.2.1.thenN H5.out.2.2.1)).thenN k6) (Kp.refl _ _)
  obtain ⟨rA, rc, rfl, -⟩ := hr.bl.form
  obtain ⟨sA, sc, rfl, -⟩ := hr.pl.form
  obtain ⟨w7, hst, hx7, k7, hz7⟩ := rbundle_put w6 B rA sA B.bl.length rc B.pl.length sc
  have hl7 : ∀ W, KpN w7 W → (Instr.loadAt 29 (.pointer (some ⟨w6.heap.size, 0, none⟩))).run Try.prog W = .ok (bdV B (.slice rA B.bl.length rc) (.slice sA B.pl.length sc)) W := fun W k => rbd_loadN hx7 (by omega) k
  have k57 := k6.thenN k7
  have k37 := H5.out.2.2.1.thenN k57
  have k17 := H3.out.2.2.2.1.thenN k37
  have hIs := is_c (H5.out.2.2.2.1.keepN k57) (hr.keepN k7) HS.out.2.1
  have H7 := Lib.hid (And.intro hst (And.intro (hl7 w7 (Kp.refl _ _)) (And.intro (H5.out.2.1 w7 k57) (And.intro k57 (And.intro k37 (And.intro k17 (And.intro hx7 (show w4.heap.size < w6.heap.size ∧ w6.heap.size < w7.heap.size by have := k6.size; have := H5.out.2.2.2.2.2.1; omega))))))))
  clear hst hx7 hz7 hl7 hr k6 k7 k57 k37 k17
  go_wp2_with (first
    | ((with_reducible show wpList _ _ _ (Oper.mk _ (Op.store 29 _ _) _ _ _ _ :: _) _ _); refine wpl_skip rfl (run_store_op H7.out.1 rfl rfl) ?_)
    | ((with_reducible show wpList _ _ _ (Oper.mk (some 26) _ _ _ _ _ :: _) _ _); refine wpl_vg rfl (run_load_opv H7.out.2.2.1 rfl) ?_)
    | ((with_reducible show wpList _ _ _ (Oper.mk (some 27) _ _ _ _ _ :: _) _ _); refine wpl_vg rfl (run_load_opv H7.out.2.1 rfl) ?_)
    | fail)
  refine hIs.mono ?_
  rintro e w8 ⟨rfl, k8⟩
  clear hIs
  have k38 := H7.out.2.2.2.2.1.thenN k8
  have k18 := H7.out.2.2.2.2.2.1.thenN k8
  have hkp := kept_c (H3.out.2.2.1.keepN k38) (HH.out.2.2.2.keepN (HH.out.2.2.1.thenN k18)) HS.out.1
  have H8 := Lib.hid (And.intro k38 (And.intro k18 (And.intro (H3.out.2.1 w8 k38) (And.intro (HH.out.2.1 w8 k18) k8))))
  clear k38 k18 k8
  go_wp2_with (first
    | ((with_reducible show wpList _ _ _ (Oper.mk (some 32) _ _ _ _ _ :: _) _ _); refine wpl_vg rfl (run_load_opv H8.out.2.2.1 rfl) ?_)
    | ((with_reducible show wpList _ _ _ (Oper.mk (some 33) _ _ _ _ _ :: _) _ _); refine wpl_vg rfl (run_load_opv H8.out.2.2.2.1 rfl) ?_)
    | fail)
  refine hkp.mono ?_
  rintro e w9 ⟨rfl, k9⟩
  clear hkp
  have k39 := H8.out.1.thenN k9
  have k19 := H8.out.2.1.thenN k9
  have hzz := H7.out.2.2.2.2.2.2.2
  have hz8 := H8.out.2.2.2.2.size
  have hz9 := k9.size
  have hX9 := H5.out.2.2.2.2.1.keep H5.out.2.2.2.2.2.1 (H7.out.2.2.2.1.thenN (H8.out.2.2.2.2.thenN k9)) (fun x => x)
  have hY9 := H7.out.2.2.2.2.2.2.1.keep hzz.2 (H8.out.2.2.2.2.thenN k9) (fun x => x)
  have H9 := Lib.hid (And.intro k39 (And.intro k19 (And.intro (H3.out.2.1 w9 k39) (And.intro hX9 (And.intro hY9 (show w4.heap.size < w6.heap.size ∧ w6.heap.size < w9.heap.size ∧ w3.heap.size ≤ w4.heap.size by have := H5.out.2.2.2.2.2.2; omega))))))
  clear k39 k19 hzz hz8 hz9 hX9 hY9 k9
  go_wp2_with (first
    | ((with_reducible show wpList _ _ _ (Oper.mk (some 38) _ _ _ _ _ :: _) _ _); refine wpl_val rfl (run_load_opv H9.out.2.2.1 rfl) ?_)
    | fail)
  refine (HC.out.2.2.1 (H3.out.2.2.2.2.keepN H9.out.1)).mono ?_
  rintro e wa ⟨av, dv2, ls2, rfl, ho, ka⟩
  obtain ⟨aA, ac, rfl, -⟩ := ho.rd.bl.form
  obtain ⟨dA, dc, rfl, -⟩ := ho.rd.pl.form
  obtain ⟨hzz1, hzz2, hzz3⟩ := H9.out.2.2.2.2.2
  have hza := ka.size
  obtain ⟨wb, hst, hXb, kb, hzb⟩ := box_store (H9.out.2.2.2.1.keep (by omega) ka (fun x => x)) 34 #[n64 C.fl, n64 C.e0, n64 C.e1, n64 C.e2, n64 C.e3, n64 C.e4, n64 C.e5, n64 C.ti, n64 C.sq, n64 C.li, .slice aA C.bl.length ac, .slice dA C.pl.length dc] rfl (by kernel_rfl) (by kernel_rfl)
  have hob := ho.keep kb (fun i hi e => by have := hi.1; omega)
  have hYb := (H9.out.2.2.2.2.1.keep (by omega) ka (fun x => x)).keep (by omega) kb (fun e => by omega)
  have k3b : KpN w3 wb := (H9.out.1.thenN ka).fresh kb (fun i e => by omega)
  have k1b : KpN w1 wb := (H9.out.2.1.thenN ka).fresh kb (fun i e => by have := H3.out.2.2.2.1.size; omega)
  have Hb := Lib.hid (And.intro hst (And.intro hob (And.intro hYb (And.intro k3b (And.intro k1b (And.intro (HH.out.2.1 wb k1b) (And.intro hXb hzb)))))))
  have hza2 := Lib.hid hza
  clear hst hXb kb hzb hob hYb k3b k1b ho ka hza hzz1 hzz2 hzz3
  go_wp2_with (first
    | ((with_reducible show wpList _ _ _ (Oper.mk _ (Op.store 34 _ _) _ _ _ _ :: _) _ _); refine wpl_skip rfl (run_store_op Hb.out.1 rfl rfl) ?_)
    | ((with_reducible show wpList _ _ _ (Oper.mk (some 44) _ _ _ _ _ :: _) _ _); refine wpl_val rfl (run_load_opv Hb.out.2.2.2.2.2.1 rfl) ?_)
    | fail)
  refine (HC.out.2.2.2 (HH.out.2.2.1.thenN Hb.out.2.2.2.2.1)).mono ?_
  rintro e wc ⟨rv2, sv2, rfl, hr, kc⟩
  have hr0 := hr wc ((HH.out.2.2.1.thenN Hb.out.2.2.2.2.1).thenN kc) (Kp.refl _ _)
  obtain ⟨rB, rd, rfl, -⟩ := hr0.bl.form
  obtain ⟨sB, sd', rfl, -⟩ := hr0.pl.form
  obtain ⟨hzz1, hzz2, hzz3⟩ := H9.out.2.2.2.2.2
  have hza := hza2.out
  have hzb := Hb.out.2.2.2.2.2.2.2
  have hzc := kc.size
  obtain ⟨wd, hst, hYd, kd, hzd⟩ := box_store (Hb.out.2.2.1.keep (by omega) kc (fun x => x)) 29 #[n64 C.fl, n64 C.e0, n64 C.e1, n64 C.e2, n64 C.e3, n64 C.e4, n64 C.e5, n64 C.ti, n64 C.sq, n64 C.li, .slice rB C.bl.length rd, .slice sB C.pl.length sd'] rfl (by kernel_rfl) (by kernel_rfl)
  have k3d : KpN w3 wd := (Hb.out.2.2.2.1.thenN kc).fresh kd (fun i e => by omega)
  have k1d : KpN w1 wd := (Hb.out.2.2.2.2.1.thenN kc).fresh kd (fun i e => by have := H3.out.2.2.2.1.size; omega)
  have hod := (Hb.out.2.1.keepN kc).keep kd (fun i hi e => by have := hi.1; omega)
  have hrd := hr wd (HH.out.2.2.1.thenN k1d) (kd.mono (fun i _ e => by omega))
  have hXd := (Hb.out.2.2.2.2.2.2.1.keep (by omega) kc (fun x => x)).keep (by omega) kd (fun e => by omega)
  have hlX := bd_load wd w4.heap.size (b := C) hXd
  have hlY := rbd_load wd w6.heap.size (b := C) hYd
  have hIs := is_c hod.rd hrd HS.out.2.2
  have Hd := Lib.hid (And.intro hst (And.intro hlX (And.intro hlY (And.intro k3d k1d))))
  clear hst hYd kd hzd k3d k1d hod hrd hXd hlX hlY hr hr0 kc hzz1 hzz2 hzz3 hza hzb hzc
  go_wp2_with (first
    | ((with_reducible show wpList _ _ _ (Oper.mk _ (Op.store 29 _ _) _ _ _ _ :: _) _ _); refine wpl_skip rfl (run_store_op Hd.out.1 rfl rfl) ?_)
    | ((with_reducible show wpList _ _ _ (Oper.mk (some 53) _ _ _ _ _ :: _) _ _); refine wpl_vg rfl (run_load_opv Hd.out.2.1 rfl) ?_)
    | ((with_reducible show wpList _ _ _ (Oper.mk (some 54) _ _ _ _ _ :: _) _ _); refine wpl_vg rfl (run_load_opv Hd.out.2.2.1 rfl) ?_)
    | fail)
  refine hIs.mono ?_
  rintro e we ⟨rfl, ke⟩
  clear hIs
  have k3e := Hd.out.2.2.2.1.thenN ke
  have k1e := Hd.out.2.2.2.2.thenN ke
  have hkp := kept_c (H3.out.2.2.1.keepN k3e) (HH.out.2.2.2.keepN (HH.out.2.2.1.thenN k1e)) HS.out.1
  have He := Lib.hid (And.intro (H3.out.2.1 we k3e) (And.intro (HH.out.2.1 we k1e) (HH.out.2.2.1.thenN k1e)))
  clear k3e k1e ke
  go_wp2_with (first
    | ((with_reducible show wpList _ _ _ (Oper.mk (some 58) _ _ _ _ _ :: _) _ _); refine wpl_vg rfl (run_load_opv He.out.1 rfl) ?_)
    | ((with_reducible show wpList _ _ _ (Oper.mk (some 59) _ _ _ _ _ :: _) _ _); refine wpl_vg rfl (run_load_opv He.out.2.1 rfl) ?_)
    | fail)
  refine hkp.mono ?_
  rintro e wf ⟨rfl, kf⟩
  go_wp2_with fail
  go_ret
  exact ⟨rfl, He.out.2.2.thenN kf⟩
end Go.Proofs.Yteokkpmndfekoaa
