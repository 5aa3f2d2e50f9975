/- isFrame; BundleOpens: the walk. -/
import Derived.Test.YteokkpmndfekoaaFG
namespace Go.Proofs.Yteokkpmndfekoaa
open Go Go.RowKit Go.ChangeShapes Go.WideShapes Go.ChangeAt
set_option maxRecDepth 100000

theorem stamp_eql (W : World) (a b : Int) : (binOp .eql 25 (.agg #[.int .u64 a, .int .u64 b]) (.agg #[.int .u64 a, .int .u64 b])).run Try.prog W = .ok (.bool true) W := by
  have h := stamp_neq W a b
  rw [run_neq_struct] at h
  rw [run_eql_struct]
  rcases hq : (Op.equalIn 10000 25 (.agg #[.int .u64 a, .int .u64 b]) (.agg #[.int .u64 a, .int .u64 b])).run Try.prog W with ⟨v, w'⟩ | _ | _
  all_goals (rw [hq] at h; simp at h)
  rw [h.1, h.2]
  rfl
set_option maxHeartbeats 3200000 in
theorem isFrame_c {w : World} {s ti sq li : Nat} {u v : Value} {xs : List UInt8} (hu : RdB w u xs) (hv : RdB w v xs) (_hl : xs.length ≤ 100000000) : Calls Try.prog 31 #[frV s ti sq li u, frV s ti sq li v] w (TrueP w) := by
  obtain ⟨A, c, rfl, -⟩ := hu.form
  obtain ⟨A', c', rfl, -⟩ := hv.form
  obtain ⟨w2, hw2⟩ : ∃ w2, ((w.alloc (.cells #[.int .i64 s, n64 ti, n64 sq, n64 li, .slice A xs.length c] 47)).alloc (.cells #[.int .i64 s, n64 ti, n64 sq, n64 li, .slice A' xs.length c'] 47)) = w2 := ⟨_, rfl⟩
  have k2 : KpN w w2 := by rw [← hw2]; exact ((Kp.refl _ w).alloc _).alloc _
  have hz2 : w2.heap.size = w.heap.size + 2 := by rw [← hw2]; simp
  have hX : CellsAt w2 w.heap.size [.int .i64 s, n64 ti, n64 sq, n64 li, .slice A xs.length c] := by
    rw [← hw2]
    exact (CellsAt.new w [.int .i64 s, n64 ti, n64 sq, n64 li, .slice A xs.length c] 47).keep (by simp) ((Kp.refl (fun _ => False) _).alloc _) (fun x => x)
  have hY : CellsAt w2 (w.heap.size + 1) [.int .i64 s, n64 ti, n64 sq, n64 li, .slice A' xs.length c'] := by
    rw [← hw2]
    have := CellsAt.new (w.alloc (.cells #[.int .i64 s, n64 ti, n64 sq, n64 li, .slice A xs.length c] 47)) [.int .i64 s, n64 ti, n64 sq, n64 li, .slice A' xs.length c'] 47
    rwa [show (w.alloc (.cells #[.int .i64 s, n64 ti, n64 sq, n64 li, .slice A xs.length c] 47)).heap.size = w.heap.size + 1 by simp] at this
  have x0 := hX.at_ 0 rfl
  have x1 := hX.at_ 1 rfl
  have x2 := hX.at_ 2 rfl
  have x3 := hX.at_ 3 rfl
  have x4 := hX.at_ 4 rfl
  have y0 := hY.at_ 0 rfl
  have y1 := hY.at_ 1 rfl
  have y2 := hY.at_ 2 rfl
  have y3 := hY.at_ 3 rfl
  have y4 := hY.at_ 4 rfl
  have hcv := toStr_eq (hu.keepN k2) (hv.keepN k2)
  have hse := stamp_eql w2 ti sq
  have HC := Lib.hid (And.intro hcv hw2)
  have HK := Lib.hid k2
  clear hcv hw2 hX hY hz2 hu hv k2
  go_enter Try.func31, Try.ntmps31
  go_wp2_with (first
    | ((with_reducible show wpList _ _ _ _ _ (World.alloc (World.alloc w _) _)); rw [HC.out.2])
    | ((with_reducible show wpList _ _ _ (Oper.mk (some 27) (Op.convert _ _ _) _ _ _ _ :: _) _ _); refine conv_opg HC.out.1.1 rfl rfl ?_)
    | ((with_reducible show wpList _ _ _ (Oper.mk (some 30) (Op.convert _ _ _) _ _ _ _ :: _) _ _); refine conv_opg HC.out.1.2 rfl rfl ?_)
    | fail)
  go_ret
  exact ⟨rfl, HK.out⟩
theorem bdSize_pl (b : Bdl) (h : bdSize b ≤ 10000000) : (opF b).da.length ≤ 100000000 := by
  have := (bdSize_len b).2.1
  unfold opF
  split
  · show b.pl.length ≤ _
    omega
  · simp
set_option maxHeartbeats 12800000 in
theorem opens_walk {w : World} {bv pv : Value} {b : Bdl} (h : RdBd w bv pv b) (hsz : bdSize b ≤ 10000000) : Calls Try.prog 7 #[bdV b bv pv] w (TrueP w) := by
  obtain ⟨bA, bc, rfl, -⟩ := h.bl.form
  obtain ⟨pA, pc, rfl, -⟩ := h.pl.form
  obtain ⟨w1, hw1, hx1, k1, hz1⟩ := rbundle_box w b (.slice bA b.bl.length bc) (.slice pA b.pl.length pc)
  have hl1 : ∀ W, KpN w1 W → (Instr.loadAt 29 (.pointer (some ⟨w.heap.size, 0, none⟩))).run Try.prog W = .ok (bdV b (.slice bA b.bl.length bc) (.slice pA b.pl.length pc)) W := fun W k => rbd_loadN hx1 (by omega) k
  have hgv := given_c (h.keepN k1) hsz
  have hpl := bdSize_pl b hsz
  obtain ⟨R, hR⟩ : ∃ R, opF b = R := ⟨_, rfl⟩
  obtain ⟨O, hO⟩ : ∃ O, opE b = O := ⟨_, rfl⟩
  have he1 := fun {W : World} {bv pv : Value} (hh : RdBd W bv pv b) => open_c hh hsz
  have he2 := fun {W : World} {bv pv : Value} (hh : RdBd W bv pv b) => ropen_c hh hsz
  unfold OpenP at he1
  unfold ROpenP at he2
  rw [hR, hO] at he1 he2
  rw [hR] at hpl
  obtain ⟨s, ti, sq, li, da, fr, nw⟩ := R
  dsimp only at he1 he2 hpl
  have HH := Lib.hid (And.intro hw1 (And.intro hl1 (And.intro k1 h)))
  have HC := Lib.hid (And.intro @he1 @he2)
  have HS := Lib.hid (And.intro hsz hpl)
  clear hw1 hx1 hz1 hl1 k1 hR hO he1 he2 h hsz hpl
  go_enter Try.func7, Try.ntmps7
  go_wp2_with (first
    | ((with_reducible show wpList _ _ _ _ _ (World.alloc w _)); rw [HH.out.1])
    | ((with_reducible show wpList _ _ _ (Oper.mk _ (Op.load 29 _) _ _ _ _ :: _) _ _); refine wpl_val rfl (run_load_opv (HH.out.2.1 w1 (Kp.refl _ _)) rfl) ?_)
    | fail)
  refine hgv.mono ?_
  rintro e w2 ⟨g, dv, uv, rfl, hgm, k2⟩
  clear hgv
  obtain ⟨uA, uc, rfl, -⟩ := hgm.pay.rd.form
  obtain ⟨w3, hst, hx3, k3, hz3⟩ := bundle_put w2 b (some ⟨g, 0, none⟩) uA b.bl.length (b.bl.length + 2) b.pl.length uc
  have hl3 : ∀ W, KpN w3 W → (Instr.loadAt 34 (.pointer (some ⟨w2.heap.size, 0, none⟩))).run Try.prog W = .ok (bdV b (.slice (some ⟨g, 0, none⟩) b.bl.length (b.bl.length + 2)) (.slice uA b.pl.length uc)) W := fun W k => bd_loadN hx3 (by omega) k
  have hg3 := hgm.keepN k3
  have H3 := Lib.hid (And.intro hst (And.intro hl3 (And.intro hg3 (k2.thenN k3))))
  clear hst hx3 hz3 hl3 hg3 hgm k2 k3
  go_wp2_with (first
    | ((with_reducible show wpList _ _ _ (Oper.mk _ (Op.store 34 _ _) _ _ _ _ :: _) _ _); refine wpl_skip rfl (run_store_op H3.out.1 rfl rfl) ?_)
    | ((with_reducible show wpList _ _ _ (Oper.mk _ (Op.load 34 _) _ _ _ _ :: _) _ _); refine wpl_val rfl (run_load_opv (H3.out.2.1 w3 (Kp.refl _ _)) rfl) ?_)
    | fail)
  have hrd3 := H3.out.2.2.1.rd HH.out.2.2.2
  have HD := Lib.hid hrd3
  clear hrd3
  refine (HC.out.1 HD.out).mono ?_
  rintro e w4 ⟨fv, rfl, of, k4⟩
  have H4 := Lib.hid (And.intro of.readsB k4)
  clear of k4
  obtain ⟨fA, fc, rfl, -⟩ := H4.out.1.form
  obtain ⟨w5, hw5⟩ : ∃ w5, w4.alloc (.cells #[.int .i64 s, n64 ti, n64 sq, n64 li, .slice fA da.length fc] 47) = w5 := ⟨_, rfl⟩
  have k5 : KpN w4 w5 := by rw [← hw5]; exact (Kp.refl _ _).alloc _
  have hF : CellsAt w5 w4.heap.size [.int .i64 s, n64 ti, n64 sq, n64 li, .slice fA da.length fc] := by rw [← hw5]; exact CellsAt.new w4 [.int .i64 s, n64 ti, n64 sq, n64 li, .slice fA da.length fc] 47
  have hz5 : w5.heap.size = w4.heap.size + 1 := by rw [← hw5]; simp
  have hlf : ∀ W, KpN w5 W → (Instr.loadAt 47 (.pointer (some ⟨w4.heap.size, 0, none⟩))).run Try.prog W = .ok (frV s ti sq li (.slice fA da.length fc)) W := fun W k => run_loadAt_rowat (P := Try.prog) (hF.keep (by omega) k (fun x => x)).1 Try.underlying47 rfl (by kernel_rfl)
  have H5 := Lib.hid (And.intro hw5 (And.intro hlf (And.intro (H4.out.2.thenN k5) (H4.out.1.keepN k5))))
  clear hw5 k5 hF hz5 hlf
  go_wp2_with (first
    | ((with_reducible show wpList _ _ _ _ _ (World.alloc w4 _)); rw [H5.out.1])
    | ((with_reducible show wpList _ _ _ (Oper.mk _ (Op.load 29 _) _ _ _ _ :: _) _ _); refine wpl_val rfl (run_load_opv (HH.out.2.1 w5 (H3.out.2.2.2.thenN H5.out.2.2.1)) rfl) ?_)
    | fail)
  refine (HC.out.2 (HH.out.2.2.2.keepN (HH.out.2.2.1.thenN (H3.out.2.2.2.thenN H5.out.2.2.1)))).mono ?_
  rintro e w6 ⟨gv, rfl, og, k6⟩
  have H6 := Lib.hid (And.intro og k6)
  clear og k6
  obtain ⟨gA, gc, rfl, -⟩ := H6.out.1.form
  obtain ⟨w7, hw7⟩ : ∃ w7, w6.alloc (.cells #[.int .i64 s, n64 ti, n64 sq, n64 li, .slice gA da.length gc] 47) = w7 := ⟨_, rfl⟩
  have k7 : KpN w6 w7 := by rw [← hw7]; exact (Kp.refl _ _).alloc _
  have hG : CellsAt w7 w6.heap.size [.int .i64 s, n64 ti, n64 sq, n64 li, .slice gA da.length gc] := by rw [← hw7]; exact CellsAt.new w6 [.int .i64 s, n64 ti, n64 sq, n64 li, .slice gA da.length gc] 47
  have hz7 : w7.heap.size = w6.heap.size + 1 := by rw [← hw7]; simp
  have hlg : (Instr.loadAt 47 (.pointer (some ⟨w6.heap.size, 0, none⟩))).run Try.prog w7 = .ok (frV s ti sq li (.slice gA da.length gc)) w7 := run_loadAt_rowat (P := Try.prog) hG.1 Try.underlying47 rfl (by kernel_rfl)
  have k57 := H6.out.2.thenN k7
  have k37 := H5.out.2.2.1.thenN k57
  have k07 := HH.out.2.2.1.thenN (H3.out.2.2.2.thenN k37)
  have H7 := Lib.hid (And.intro hw7 (And.intro hlg (And.intro (H5.out.2.1 w7 k57) (And.intro k37 k07))))
  have hif := isFrame_c (s := s) (ti := ti) (sq := sq) (li := li) (H5.out.2.2.2.keepN k57) (H6.out.1.keepN k7) HS.out.2
  clear hw7 k7 hG hz7 hlg k57 k37 k07
  go_wp2_with (first
    | ((with_reducible show wpList _ _ _ _ _ (World.alloc w6 _)); rw [H7.out.1])
    | ((with_reducible show wpList _ _ _ (Oper.mk (some 32) (Op.load _ _) _ _ _ _ :: _) _ _); refine wpl_vg rfl (run_load_opv H7.out.2.2.1 rfl) ?_)
    | ((with_reducible show wpList _ _ _ (Oper.mk (some 33) (Op.load _ _) _ _ _ _ :: _) _ _); refine wpl_vg rfl (run_load_opv H7.out.2.1 rfl) ?_)
    | fail)
  refine hif.mono ?_
  rintro e w8 ⟨rfl, k8⟩
  clear hif
  have hkp := kept_c (H3.out.2.2.1.keepN (H7.out.2.2.2.1.thenN k8)) (HH.out.2.2.2.keepN (H7.out.2.2.2.2.thenN k8)) HS.out.1
  have H8 := Lib.hid k8
  clear k8
  go_wp2_with (first
    | ((with_reducible show wpList _ _ _ (Oper.mk (some 47) (Op.load _ _) _ _ _ _ :: _) _ _); refine wpl_vg rfl (run_load_opv (H3.out.2.1 w8 (H7.out.2.2.2.1.thenN H8.out)) rfl) ?_)
    | ((with_reducible show wpList _ _ _ (Oper.mk (some 48) (Op.load _ _) _ _ _ _ :: _) _ _); refine wpl_vg rfl (run_load_opv (HH.out.2.1 w8 (H3.out.2.2.2.thenN (H7.out.2.2.2.1.thenN H8.out))) rfl) ?_)
    | fail)
  refine hkp.mono ?_
  rintro e w9 ⟨rfl, k9⟩
  go_wp2_with fail
  go_ret
  exact ⟨rfl, H7.out.2.2.2.2.thenN (H8.out.thenN k9)⟩
end Go.Proofs.Yteokkpmndfekoaa
