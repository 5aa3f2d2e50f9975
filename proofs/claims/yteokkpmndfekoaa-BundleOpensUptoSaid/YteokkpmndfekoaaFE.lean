/- BundleValids: the walk. -/
import Derived.Test.YteokkpmndfekoaaFD
import Derived.Test.YteokkpmndfekoaaBJ
namespace Go.Proofs.Yteokkpmndfekoaa
open Go Go.RowKit Go.ChangeShapes Go.WideShapes Go.ChangeAt
set_option maxRecDepth 100000

theorem wpl_vg {P : Program} {o : Oper} {ops : Array Oper} {rest : List Oper} {a : Act} {w w' : World} {v : Value} {Q : Exit → Act → World → Prop} (hg : Region.wanted o (yielded ops a.tmps) = true) (h : (execOp a.eval o).run P w = .ok (.value v) w') (hk : wpList P ops Q rest (a.put o.dst v) w') : wpList P ops Q (o :: rest) a w :=
  wpList_step fun K hK => by rw [if_pos hg]; exact wp_val h (hK _ _ hk)
abbrev bdC (b : Bdl) (bv pv : Value) : List Value := [n64 b.fl, n64 b.e0, n64 b.e1, n64 b.e2, n64 b.e3, n64 b.e4, n64 b.e5, n64 b.ti, n64 b.sq, n64 b.li, bv, pv]
abbrev zeros12 : Array Value := #[.int .u64 0, .int .u64 0, .int .u64 0, .int .u64 0, .int .u64 0, .int .u64 0, .int .u64 0, .int .u64 0, .int .u64 0, .int .u64 0, .slice none 0 0, .slice none 0 0]
theorem rbundle_box (W : World) (b : Bdl) (bv pv : Value) : ∃ W1, W.alloc (.cells #[n64 b.fl, n64 b.e0, n64 b.e1, n64 b.e2, n64 b.e3, n64 b.e4, n64 b.e5, n64 b.ti, n64 b.sq, n64 b.li, bv, pv] 29) = W1 ∧ CellsAt W1 W.heap.size (bdC b bv pv) ∧ KpN W W1 ∧ W1.heap.size = W.heap.size + 1 :=
  ⟨_, rfl, CellsAt.new W (bdC b bv pv) 29, (Kp.refl _ W).alloc _, by simp⟩
theorem bundle_put (W : World) (b : Bdl) (A A' : Option Addr) (n c n' c' : Nat) : ∃ W', (Instr.storeAt 34 (.pointer (some ⟨W.heap.size, 0, none⟩)) (bdV b (.slice A n c) (.slice A' n' c'))).run Try.prog (W.alloc (.cells zeros12 34)) = .ok () W' ∧
    CellsAt W' W.heap.size (bdC b (.slice A n c) (.slice A' n' c')) ∧ KpN W W' ∧ W'.heap.size = W.heap.size + 1 := by
  obtain ⟨W', h1, h2, h3, h4⟩ := box_store (CellsAt.new W zeros12.toList 34) 34 #[n64 b.fl, n64 b.e0, n64 b.e1, n64 b.e2, n64 b.e3, n64 b.e4, n64 b.e5, n64 b.ti, n64 b.sq, n64 b.li, .slice A n c, .slice A' n' c'] rfl (by kernel_rfl) (by kernel_rfl)
  have hz : (W.alloc (.cells zeros12 34)).heap.size = W.heap.size + 1 := by simp
  exact ⟨W', h1, h2, ((Kp.refl (fun _ => False) W).alloc _).fresh h3 (fun i e => by omega), by rw [h4, hz]⟩
theorem rbd_loadN {W W' : World} {g : Nat} {b : Bdl} {bv pv : Value} (h : CellsAt W g (bdC b bv pv)) (hl : g < W.heap.size) (k : KpN W W') : (Instr.loadAt 29 (.pointer (some ⟨g, 0, none⟩))).run Try.prog W' = .ok (bdV b bv pv) W' := rbd_load W' g (h.keep hl k (fun x => x))
theorem bd_loadN {W W' : World} {g : Nat} {b : Bdl} {bv pv : Value} (h : CellsAt W g (bdC b bv pv)) (hl : g < W.heap.size) (k : KpN W W') : (Instr.loadAt 34 (.pointer (some ⟨g, 0, none⟩))).run Try.prog W' = .ok (bdV b bv pv) W' := bd_load W' g (h.keep hl k (fun x => x))
set_option maxHeartbeats 12800000 in
theorem valids_walk {w : World} {bv pv : Value} {b : Bdl} (h : RdBd w bv pv b) (hsz : bdSize b ≤ 10000000) : Calls Try.prog 6 #[bdV b bv pv] w (TrueP w) := by
  obtain ⟨bA, bc, rfl, -⟩ := h.bl.form
  obtain ⟨pA, pc, rfl, -⟩ := h.pl.form
  obtain ⟨w1, hw1, hx1, k1, hz1⟩ := rbundle_box w b (.slice bA b.bl.length bc) (.slice pA b.pl.length pc)
  have hl1 : ∀ W, KpN w1 W → (Instr.loadAt 29 (.pointer (some ⟨w.heap.size, 0, none⟩))).run Try.prog W = .ok (bdV b (.slice bA b.bl.length bc) (.slice pA b.pl.length pc)) W := fun W k => rbd_loadN hx1 (by omega) k
  have hgv := given_c (h.keepN k1) hsz
  obtain ⟨V, hV⟩ : ∃ V, valE b = V := ⟨_, rfl⟩
  obtain ⟨E, hE⟩ : ∃ E, encB b = E := ⟨_, rfl⟩
  have he1 := fun {W : World} {bv pv : Value} (hh : RdBd W bv pv b) => encode_c hh hsz
  have he2 := fun {W : World} {bv pv : Value} (hh : RdBd W bv pv b) => rencode_c hh hsz
  have hv1 := fun {W : World} {bv pv : Value} (hh : RdBd W bv pv b) => valid_c hh hsz
  have hv2 := fun {W : World} {bv pv : Value} (hh : RdBd W bv pv b) => rvalid_c hh hsz
  unfold EncP at he1 he2
  rw [hV, hE] at he1 he2
  rw [hV] at hv1 hv2
  have HH := Lib.hid (And.intro hw1 (And.intro hl1 (And.intro k1 h)))
  have HC := Lib.hid (And.intro @he1 (And.intro @he2 (And.intro @hv1 @hv2)))
  have HS := Lib.hid hsz
  clear hw1 hx1 hz1 hl1 k1 hV hE he1 he2 hv1 hv2 h hsz
  go_enter Try.func6, Try.ntmps6
  go_wp2_with (first
    | ((with_reducible show wpList _ _ _ _ _ (World.alloc w _)); rw [HH.out.1])
    | ((with_reducible show wpList _ _ _ (Oper.mk _ (Op.load 29 _) _ _ _ _ :: _) _ _); refine wpl_val rfl (run_load_opv (HH.out.2.1 w1 (Kp.refl _ _)) rfl) ?_)
    | fail)
  refine hgv.mono ?_
  rintro e w2 ⟨g, dv, uv, rfl, hgm, k2⟩
  clear hgv
  obtain ⟨uA, uc, rfl, -⟩ := hgm.pay.rd.form
  obtain ⟨w3, hst, hx3, k3, hz3⟩ := bundle_put w2 b (some ⟨g, 0, none⟩) uA b.bl.length (b.bl.length + 2) b.pl.length uc
  have hl3 : ∀ W, KpN w3 W → (Instr.loadAt 34 (.pointer (some ⟨w2.heap.size, 0, none⟩))).run Try.prog W = .ok (bdV b (.slice (some ⟨g, 0, none⟩) b.bl.length (b.bl.length + 2)) (.slice uA b.pl.length uc)) W := fun W k => bd_loadN hx3 (by omega) k
  have hg3 := hgm.keepN k3
  have H3 := Lib.hid (And.intro hst (And.intro hl3 (And.intro hg3 (k2.thenN k3))))
  clear hst hx3 hz3 hl3 hg3 hgm k2 k3
  go_wp2_with (first
    | ((with_reducible show wpList _ _ _ (Oper.mk _ (Op.store 34 _ _) _ _ _ _ :: _) _ _); refine wpl_skip rfl (run_store_op H3.out.1 rfl rfl) ?_)
    | ((with_reducible show wpList _ _ _ (Oper.mk _ (Op.load 34 _) _ _ _ _ :: _) _ _); refine wpl_val rfl (run_load_opv (H3.out.2.1 w3 (Kp.refl _ _)) rfl) ?_)
    | fail)
  have hrd3 := H3.out.2.2.1.rd HH.out.2.2.2
  have HD := Lib.hid hrd3
  clear hrd3
  refine (HC.out.2.2.1 HD.out).mono ?_
  rintro e w4 ⟨rfl, k4⟩
  have H4 := Lib.hid k4
  clear k4
  go_wp2_with (first
    | ((with_reducible show wpList _ _ _ (Oper.mk _ (Op.load 34 _) _ _ _ _ :: _) _ _); refine wpl_val rfl (run_load_opv (H3.out.2.1 w4 H4.out) rfl) ?_)
    | fail)
  refine (HC.out.1 (HD.out.keepN H4.out)).mono ?_
  rintro e w5 ⟨lv, rfl, ol, k5⟩
  have H5 := Lib.hid (And.intro ol.readsB (And.intro k5 (H4.out.thenN k5)))
  clear ol k5
  obtain ⟨lA, lc, rfl, -⟩ := H5.out.1.form
  go_wp2_with (first
    | ((with_reducible show wpList _ _ _ (Oper.mk _ (Op.load 29 _) _ _ _ _ :: _) _ _); refine wpl_val rfl (run_load_opv (HH.out.2.1 w5 (H3.out.2.2.2.thenN H5.out.2.2)) rfl) ?_)
    | fail)
  refine (HC.out.2.1 (HH.out.2.2.2.keepN (HH.out.2.2.1.thenN (H3.out.2.2.2.thenN H5.out.2.2)))).mono ?_
  rintro e w6 ⟨mv, rfl, om, k6⟩
  have H6 := Lib.hid (And.intro om.readsB (And.intro k6 (H5.out.2.2.thenN k6)))
  clear om k6
  obtain ⟨mA, mc, rfl, -⟩ := H6.out.1.form
  go_wp2_with (first
    | ((with_reducible show wpList _ _ _ (Oper.mk _ (Op.load 29 _) _ _ _ _ :: _) _ _); refine wpl_val rfl (run_load_opv (HH.out.2.1 w6 (H3.out.2.2.2.thenN H6.out.2.2)) rfl) ?_)
    | fail)
  refine (HC.out.2.2.2 (HH.out.2.2.2.keepN (HH.out.2.2.1.thenN (H3.out.2.2.2.thenN H6.out.2.2)))).mono ?_
  rintro e w7 ⟨rfl, k7⟩
  have hcv := toStr_eq (H5.out.1.keepN (H6.out.2.1.thenN k7)) (H6.out.1.keepN k7)
  have hkp := kept_c (H3.out.2.2.1.keepN (H6.out.2.2.thenN k7)) (HH.out.2.2.2.keepN (HH.out.2.2.1.thenN (H3.out.2.2.2.thenN (H6.out.2.2.thenN k7)))) HS.out
  have H7 := Lib.hid (And.intro hcv (And.intro (H6.out.2.2.thenN k7) (HH.out.2.2.1.thenN (H3.out.2.2.2.thenN (H6.out.2.2.thenN k7)))))
  clear hcv k7
  go_wp2_with (first
    | ((with_reducible show wpList _ _ _ (Oper.mk (some 34) (Op.convert _ _ _) _ _ _ _ :: _) _ _); refine conv_opg H7.out.1.1 rfl rfl ?_)
    | ((with_reducible show wpList _ _ _ (Oper.mk (some 36) (Op.convert _ _ _) _ _ _ _ :: _) _ _); refine conv_opg H7.out.1.2 rfl rfl ?_)
    | ((with_reducible show wpList _ _ _ (Oper.mk (some 40) (Op.load _ _) _ _ _ _ :: _) _ _); refine wpl_vg rfl (run_load_opv (H3.out.2.1 w7 H7.out.2.1) rfl) ?_)
    | ((with_reducible show wpList _ _ _ (Oper.mk (some 41) (Op.load _ _) _ _ _ _ :: _) _ _); refine wpl_vg rfl (run_load_opv (HH.out.2.1 w7 (H3.out.2.2.2.thenN H7.out.2.1)) rfl) ?_)
    | fail)
  refine hkp.mono ?_
  rintro e w8 ⟨rfl, k8⟩
  go_wp2_with fail
  go_ret
  exact ⟨rfl, H7.out.2.2.thenN k8⟩
end Go.Proofs.Yteokkpmndfekoaa
