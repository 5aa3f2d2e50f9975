/- bundle.changed with the closure of Hop and of Aged; Hop, Aged; bundle.Hop, bundle.Aged. -/
import Derived.Test.YteokkpmndfekoaaGH
namespace Go.Proofs.Yteokkpmndfekoaa
open Go Go.RowKit Go.ChangeShapes Go.WideShapes Go.ChangeAt
set_option maxRecDepth 100000

def ChP (b : Bdl) (i : Option Nat) (bad : List UInt8 → Bool) (mk : List UInt8 → List UInt8) (w : World) (e : Ending) (w' : World) : Prop :=
  ∃ bv pv ls, e = .returned (.tuple #[bdV (chV b i bad mk).1 bv pv, .int .i64 (chV b i bad mk).2]) ∧ OwBd w' 37 (Iv w.heap.size w'.heap.size) bv pv (chV b i bad mk).1 ls ∧ KpN w w'
section
variable {b : Bdl} {i : Option Nat} {q : Nat} {bad : List UInt8 → Bool} {mk : List UInt8 → List UInt8}
theorem ChP.fail {w w' : World} {z : Int} (h : chV b i bad mk = (noBdl, z)) (k : KpN w w') : ChP b i bad mk w (.returned (.tuple #[.agg zeros12, .int .i64 z])) w' := by
  unfold ChP
  rw [h]
  exact ⟨.slice none 0 0, .slice none 0 0, [], rfl, OwBd.none _ _ _, k⟩
theorem chV_val (h : valE b ≠ 0) : chV b i bad mk = (noBdl, valE b) := by
  unfold chV
  rw [if_pos h]
theorem chV_none (h : valE b = 0) : chV b none bad mk = (noBdl, 4) := by
  unfold chV
  rw [if_neg (by omega)]
theorem getD_bl {l : List Blk} {q : Nat} (hq : q < l.length) : l.getD q ⟨0, 0, 0, []⟩ = l[q] := by
  rw [List.getD_eq_getElem?_getD, List.getElem?_eq_getElem hq]
  rfl
theorem chV_bad (h : valE b = 0) (hq : q < b.bl.length) (hb : bad b.bl[q].da = true) : chV b (some q) bad mk = (noBdl, 6) := by
  unfold chV
  rw [if_neg (by omega)]
  dsimp only
  rw [getD_bl hq, if_pos hb]
theorem chV_size (h : valE b = 0) (hq : q < b.bl.length) (hb : bad b.bl[q].da = false) (hl : 1024 < (laid (newB b q (mk b.bl[q].da))).length) : chV b (some q) bad mk = (noBdl, 81) := by
  unfold chV
  rw [if_neg (by omega)]
  dsimp only
  rw [getD_bl hq, if_neg (by simp [hb]), if_pos hl]
theorem chV_ok (h : valE b = 0) (hq : q < b.bl.length) (hb : bad b.bl[q].da = false) (hl : ¬ 1024 < (laid (newB b q (mk b.bl[q].da))).length) : chV b (some q) bad mk = (newB b q (mk b.bl[q].da), 0) := by
  unfold chV
  rw [if_neg (by omega)]
  dsimp only
  rw [getD_bl hq, if_neg (by simp [hb]), if_neg hl]
end
theorem hopNew_len (xs : List UInt8) : (hopNew xs).length ≤ 64 := by
  obtain ⟨m1, m2⟩ := two_most' xs
  unfold hopNew
  rw [List.length_append]
  have := sd_length (two xs).1 (by omega)
  have := sd_length ((two xs).2.1 + 1) (by omega)
  omega
theorem bundle_box2 (W : World) (b : Bdl) (bv pv : Value) : ∃ W2, ((W.alloc (.cells #[n64 b.fl, n64 b.e0, n64 b.e1, n64 b.e2, n64 b.e3, n64 b.e4, n64 b.e5, n64 b.ti, n64 b.sq, n64 b.li, bv, pv] 34)).alloc (.cells zeros12 34)) = W2 ∧ CellsAt W2 W.heap.size (bdC b bv pv) ∧ CellsAt W2 (W.heap.size + 1) zeros12.toList ∧ KpN W W2 ∧ W2.heap.size = W.heap.size + 2 := by
  refine ⟨_, rfl, (CellsAt.new W (bdC b bv pv) 34).keep (by simp) ((Kp.refl (fun _ => False) _).alloc _) (fun x => x), ?_, ((Kp.refl _ _).alloc _).alloc _, by simp⟩
  have := CellsAt.new (W.alloc (.cells #[n64 b.fl, n64 b.e0, n64 b.e1, n64 b.e2, n64 b.e3, n64 b.e4, n64 b.e5, n64 b.ti, n64 b.sq, n64 b.li, bv, pv] 34)) zeros12.toList 34
  rwa [show (W.alloc (.cells #[n64 b.fl, n64 b.e0, n64 b.e1, n64 b.e2, n64 b.e3, n64 b.e4, n64 b.e5, n64 b.ti, n64 b.sq, n64 b.li, bv, pv] 34)).heap.size = W.heap.size + 1 by simp] at this
set_option maxHeartbeats 25600000 in
theorem changedH_c {w : World} {bv pv : Value} {b : Bdl} (h : RdBd w bv pv b) (hsz : bdSize b ≤ 10000000) : Calls Try.prog 63 #[bdV b bv pv, .int .u64 10, .func (.func 64) #[] #[]] w (ChP b (fstK b.bl 10) hopBad hopNew w) := by
  have hbl := (bdSize_len b).1
  obtain ⟨N, hN⟩ : ∃ n, b.bl.length = n := ⟨_, rfl⟩
  have hf := h.bl.form
  rw [hN] at hf hbl
  obtain ⟨bA, bc, rfl, hbc⟩ := hf
  obtain ⟨pA, pc, rfl, -⟩ := h.pl.form
  have hnb : N ≤ 2500000 := by omega
  have hQ : ∀ e w', ChP b (fstK b.bl 10) hopBad hopNew w e w' → ChP b (fstK b.bl 10) hopBad hopNew w e w' := fun _ _ x => x
  obtain ⟨Q, hQQ⟩ : ∃ Q, ChP b (fstK b.bl 10) hopBad hopNew w = Q := ⟨_, rfl⟩
  rw [hQQ] at hQ ⊢
  rw [← hQQ] at hQ
  have HQ := Lib.hid (show ∀ e w', ChP b (fstK b.bl 10) hopBad hopNew w e w' → Q e w' by rw [hQQ]; exact fun _ _ x => x)
  clear hQ hQQ
  obtain ⟨w2, hw2, hx2, hr2, k2, hz2⟩ := bundle_box2 w b (.slice bA N bc) (.slice pA b.pl.length pc)
  have hl2 := bd_loadN hx2 (by omega) (Kp.refl _ _)
  have hV := valid_c (h.keepN k2) hsz
  obtain ⟨E, hE⟩ : ∃ z, valE b = z := ⟨_, rfl⟩
  rw [hE] at hV
  have HE := Lib.hid (And.intro hE hN)
  have HH := Lib.hid (And.intro hw2 (And.intro hl2 (And.intro hx2 (And.intro hr2 (And.intro k2 (And.intro hz2 (And.intro h hsz)))))))
  clear hw2 hl2 hx2 hr2 k2 hz2 h hsz hE hN hbl
  go_enter Try.func63, Try.ntmps63
  go_wp2_with (first
    | ((with_reducible show wpList _ _ _ _ _ (World.alloc (World.alloc w _) _)); rw [HH.out.1])
    | ((with_reducible show wpList _ _ _ (Oper.mk (some 13) _ _ _ _ _ :: _) _ _); refine wpl_val rfl (run_load_opv HH.out.2.1 rfl) ?_)
    | fail)
  refine hV.mono ?_
  rintro e w3 ⟨rfl, k3⟩
  clear hV
  by_cases h0 : E = 0
  · subst h0
    have hz2 := HH.out.2.2.2.2.2.1
    have hz3 := k3.size
    have hl3 := bd_loadN HH.out.2.2.1 (by omega) k3
    have hT := twin_c (HH.out.2.2.2.2.2.2.1.keepN (HH.out.2.2.2.2.1.thenN k3)) HH.out.2.2.2.2.2.2.2
    have H3 := Lib.hid (And.intro hl3 k3)
    clear hl3 k3 hz2 hz3
    go_wp2_with (first
      | ((with_reducible show wpList _ _ _ (Oper.mk (some 19) _ _ _ _ _ :: _) _ _); refine wpl_val rfl (run_load_opv H3.out.1 rfl) ?_)
      | fail)
    refine hT.mono ?_
    intro e w4 hq
    unfold TwinP at hq
    obtain ⟨tv, qv, ls, rfl, ho, k4⟩ := hq
    clear hT
    have hf := ho.rd.bl.form
    rw [HE.out.2] at hf
    obtain ⟨tA, tc, rfl, -⟩ := hf
    obtain ⟨qA, qc, rfl, -⟩ := ho.rd.pl.form
    have hz2 := HH.out.2.2.2.2.2.1
    have hz3 := H3.out.2.size
    have hz4 := k4.size
    have hx4 := HH.out.2.2.1.keep (by omega) (H3.out.2.thenN k4) (fun x => x)
    obtain ⟨w5, hst5, hx5, k5, hz5⟩ := box_store hx4 34 #[n64 b.fl, n64 b.e0, n64 b.e1, n64 b.e2, n64 b.e3, n64 b.e4, n64 b.e5, n64 b.ti, n64 b.sq, n64 b.li, .slice tA N tc, .slice qA b.pl.length qc] rfl (by kernel_rfl) (by kernel_rfl)
    have ho5 := ho.keep k5 (fun i hi e => by have := hi.1; omega)
    have kw5 : KpN w w5 := (HH.out.2.2.2.2.1.thenN (H3.out.2.thenN k4)).fresh k5 (fun i e => by omega)
    have hr5 := (HH.out.2.2.2.1.keep (by omega) (H3.out.2.thenN k4) (fun x => x)).keep (by omega) k5 (fun e => by omega)
    have x10 := hx5.at_ 10 rfl
    have hls : ls.length = N := by
      have := congrArg List.length ho.eq
      rw [List.length_map] at this
      rw [this]
      exact HE.out.2
    have H5 := Lib.hid (And.intro hst5 (And.intro hx5 (And.intro ho5 (And.intro kw5 (And.intro hr5 (And.intro hls (show w.heap.size + 2 ≤ w3.heap.size ∧ w3.heap.size ≤ w4.heap.size ∧ w5.heap.size = w4.heap.size by omega)))))))
    clear hst5 hx5 ho5 kw5 hr5 hls hx4 k5 k4 ho hz2 hz3 hz4 hz5
    go_wp2_with (first
      | ((with_reducible show wpList _ _ _ (Oper.mk _ (Op.store 34 _ _) _ _ _ _ :: _) _ _); refine wpl_skip rfl (run_store_op H5.out.1 rfl rfl) ?_)
      | fail)
    clear x10
    go_loopw [24] (fun i wr => ∃ q : Nat, q ≤ N ∧ i = .int .i64 q ∧ (∀ j (hj : j < b.bl.length), j < q → b.bl[j].ty ≠ 10) ∧ KpN w5 wr) (fun i _ => N - (intOf i).toNat)
    case atStart => exact ⟨0, Nat.zero_le _, rfl, fun j _ hj => by omega, Kp.refl _ _⟩
    case round =>
      obtain ⟨q, hq, rfl, hno, kr⟩ := hrel
      obtain ⟨hzA, hzB, hzC⟩ := H5.out.2.2.2.2.2.2
      have hzr := kr.size
      by_cases hlt : q < N
      · have hql : q < b.bl.length := by rw [HE.out.2]; exact hlt
        obtain ⟨g, cap, hv, hFg, -⟩ := H5.out.2.2.1.bl.row.form (by rw [H5.out.2.2.2.2.2.1]; omega)
        injection hv with hv1 hv2 hv3
        subst hv1
        subst hv3
        clear hv2
        obtain ⟨ad, cs, had, -, hrow0, ⟨⟨dw, rfl, hdw⟩, hxo⟩⟩ := H5.out.2.2.1.rd.bl.row q hql
        injection had with had
        subst had
        rw [add_plain'] at hrow0
        have hrow := hrow0.keepN kr
        have hdr := hdw.keepN kr
        have hda := (bdSize_len b).2.2 b.bl[q] (List.getElem_mem hql)
        have hds := HH.out.2.2.2.2.2.2.2
        have hyes : b.bl[q].ty = 10 → fstK b.bl 10 = some q := fun e => fstK_at hql hno e
        have hgo : b.bl[q].ty ≠ 10 → ∀ j (hj : j < b.bl.length), j < q + 1 → b.bl[j].ty ≠ 10 := fun e j hj hjq => by
          by_cases hje : j = q
          · subst hje; exact e
          · exact hno j hj (by omega)
        obtain ⟨x, hx⟩ : ∃ x, b.bl[q] = x := ⟨_, rfl⟩
        rw [hx] at hrow hdr hda hyes hgo
        obtain ⟨xt, xn, xf, xd⟩ := x
        dsimp only at hrow hdr hda hyes hgo
        obtain ⟨dA, dc, rfl, -⟩ := hdr.form
        have c0 := hrow.c0
        have c1 := hrow.fld 0 rfl
        have c2 := hrow.fld 1 rfl
        have c3 := hrow.fld 2 rfl
        obtain ⟨w6, hw6⟩ : ∃ w6, wr.alloc (.cells #[n64 xt, n64 xn, n64 xf, .slice dA xd.length dc] 37) = w6 := ⟨_, rfl⟩
        have k6 : KpN wr w6 := by rw [← hw6]; exact (Kp.refl _ _).alloc _
        have hX : CellsAt w6 wr.heap.size [n64 xt, n64 xn, n64 xf, .slice dA xd.length dc] := by rw [← hw6]; exact CellsAt.new wr [n64 xt, n64 xn, n64 xf, .slice dA xd.length dc] 37
        have hz6 : w6.heap.size = wr.heap.size + 1 := by rw [← hw6]; simp
        have x0 := hX.at_ 0 rfl
        have x3 := hX.at_ 3 rfl
        have k56 := kr.thenN k6
        have kw6 := H5.out.2.2.2.1.thenN k56
        have HX := Lib.hid (And.intro hw6 (And.intro k56 (And.intro hx (And.intro hyes (And.intro hgo (show wr.heap.size < w6.heap.size ∧ g < w4.heap.size ∧ w3.heap.size ≤ g by exact ⟨by omega, hFg.2, hFg.1⟩))))))
        by_cases hkt : xt = 10
        · have hC := hopF_c (hdr.keepN k6) (by omega)
          have hke : ((xt : Int) != 10) = false := by simp [hkt]
          have hlx := bdSize_laid b HE.out.1
          have HL := Lib.hid (And.intro hdr (And.intro hql (And.intro hlx (HX.out.2.2.2.1 hkt))))
          clear hrow hrow0 hdr hdw hda hxo hyes hgo hx kr k6 hX hw6 hz6 k56 kw6 hds hno hlx hFg hkt
          go_wp2_with (first
            | ((with_reducible show wpList _ _ _ _ _ (World.alloc wr _)); rw [HX.out.1])
            | fail)
          (try rw [HX.out.1])
          refine hC.mono ?_
          intro e w7 hnw
          clear hC
          have hnw2 : NewD w6 (hopBad xd) (hopNew xd) e w7 := hnw
          clear hnw
          obtain ⟨k7, hb1, hb2⟩ := hnw2
          have k57 := HX.out.2.1.thenN k7
          have hx7 := H5.out.2.1.keep (by omega) k57 (fun x => x)
          have hr7 := H5.out.2.2.2.2.1.keep (by omega) k57 (fun x => x)
          have hz7 := k7.size
          have kw7 := H5.out.2.2.2.1.thenN k57
          have hbD : b.bl[q].da = xd := by rw [HX.out.2.2.1]
          rcases hbad : hopBad xd with _ | _
          · obtain ⟨u, rfl, ou⟩ := hb2 hbad
            obtain ⟨hzx, hgx, hgy⟩ := HX.out.2.2.2.2.2
            obtain ⟨nd, hnd⟩ : ∃ z, hopNew xd = z := ⟨_, rfl⟩
            rw [hnd] at ou
            obtain ⟨uA, uc, rfl, -⟩ := ou.readsB.form
            have hndl : nd.length ≤ 64 := by rw [← hnd]; exact hopNew_len _
            have hchS := fun hl => chV_size (bad := hopBad) (mk := hopNew) HE.out.1 HL.out.2.1 (by rw [hbD]; exact hbad) hl
            have hchO := fun hl => chV_ok (bad := hopBad) (mk := hopNew) HE.out.1 HL.out.2.1 (by rw [hbD]; exact hbad) hl
            rw [hbD, hnd] at hchS hchO
            have ho7 := H5.out.2.2.1.keepN k57
            have hcf := ho7.bl.cell3 (i := q) (by rw [H5.out.2.2.2.2.2.1]; exact hlt)
            have hcv := hcf.1
            have hfv := hcf.2
            have ho8 := OwBd.setD (H := fun i => w3.heap.size ≤ i ∧ i < w7.heap.size) (i := q) (u := .slice uA nd.length uc) (d := nd) (ho7.wide (G := fun i => w3.heap.size ≤ i ∧ i < w4.heap.size) (fun i hi hh => hh)) (by rw [H5.out.2.2.2.2.2.1]; exact hlt) ou (fun i hi hh => by have := hi.2; have := hh.1; omega) H5.out.2.2.2.2.2.1.symm (fun i hi => ⟨hi.1, by have := hi.2; omega⟩) (fun i hi => ⟨by have := hi.1; omega, hi.2⟩)
            have k8 : Kp (fun k => k = g) w7 (w7.setCell ⟨g, q * 4 + 3, none⟩ (.slice uA nd.length uc)) := kp1_set3 _ _ _
            obtain ⟨w8, hw8⟩ : ∃ W, w7.setCell ⟨g, q * 4 + 3, none⟩ (.slice uA nd.length uc) = W := ⟨_, rfl⟩
            rw [hw8] at ho8 k8
            have hz8 := k8.size
            have x10 := hx7.at_ 10 rfl
            have hx8 := hx7.keep (by omega) k8 (fun e => by omega)
            have hr8 := hr7.keep (by omega) k8 (fun e => by omega)
            have kw8 : KpN w w8 := kw7.fresh k8 (fun i e => by omega)
            have hld8 := bd_loadN hx8 (by omega) (Kp.refl _ _)
            have hns : bdSize (newB b q nd) ≤ 10000000 := by have := newB_size b q nd; have := HL.out.2.2.1; omega
            have hLc : Calls Try.prog 60 #[bdV b (.slice (some ⟨g, 0, none⟩) N tc) (.slice qA b.pl.length qc)] w8 (GotB 5 w8 (laid (newB b q nd))) := laid_c ho8.rd hns
            obtain ⟨LL, hLL⟩ : ∃ z, laid (newB b q nd) = z := ⟨_, rfl⟩
            rw [hLL] at hLc hchS hchO
            have HF := Lib.hid (And.intro hw8 (And.intro hld8 (And.intro hx8 (And.intro hr8 (And.intro kw8 (And.intro ho8 (And.intro hchS (And.intro hchO (show w7.heap.size ≤ w8.heap.size from hz8)))))))))
            clear hw8 hld8 hx8 hr8 kw8 ho8 hchS hchO hns hLL k8 ho7 hcf ou hb1 hb2 hndl hnd hx7 hr7 kw7 hbD k57 k7 hbad
            go_wp2_with (first
              | ((with_reducible show wpList _ _ _ _ _ (World.setCell w7 _ _)); rw [HF.out.1])
              | ((with_reducible show wpList _ _ _ (Oper.mk (some 50) _ _ _ _ _ :: _) _ _); refine wpl_val rfl (run_load_opv HF.out.2.1 rfl) ?_)
              | fail)
            refine hLc.mono ?_
            rintro e w9 ⟨v9, rfl, o9, k9⟩
            clear hLc
            obtain ⟨vA, vc, rfl, -⟩ := o9.readsB.form
            have hx9 := HF.out.2.2.1.keep (by omega) k9 (fun x => x)
            have hr9 := HF.out.2.2.2.1.keep (by omega) k9 (fun x => x)
            have ho9 := HF.out.2.2.2.2.2.1.keepN k9
            have hz9 := k9.size
            have kw9 := HF.out.2.2.2.2.1.thenN k9
            by_cases hbig : 1024 < LL.length
            · have hbig' : (1024 : Int) < (LL.length : Int) := by omega
              obtain ⟨wf, hstf, hrf, kf, hzf⟩ := box_store hr9 34 zeros12 rfl (by kernel_rfl) (by kernel_rfl)
              have hfin := HQ.out _ _ (ChP.fail (by rw [HL.out.2.2.2]; exact HF.out.2.2.2.2.2.2.1 hbig) (kw9.fresh kf (fun i e => by omega)))
              have HG := Lib.hid (And.intro hstf (And.intro hrf hfin))
              clear hstf hrf kf hzf hfin hx9 hr9 ho9 hz9 kw9 k9 o9 hbig
              go_wp2_with (first
                | ((with_reducible show wpList _ _ _ (Oper.mk _ (Op.store 34 _ _) _ _ _ _ :: _) _ _); refine wpl_skip rfl (run_store_op HG.out.1 rfl rfl) ?_)
                | fail)
              (try simp only [Exit.inBlock, Exit.then])
              refine bodyPost_ret (results_cell_tmp_at rfl _ _ rfl HG.out.2.1.1 Try.underlying34 rfl (by kernel_rfl)) rfl ?_
              exact HG.out.2.2
            · have hbig' : ¬ (1024 : Int) < (LL.length : Int) := by omega
              have hld9 := bd_loadN hx9 (by omega) (Kp.refl _ _)
              obtain ⟨wf, hstf, hrf, kf, hzf⟩ := box_store hr9 34 #[n64 b.fl, n64 b.e0, n64 b.e1, n64 b.e2, n64 b.e3, n64 b.e4, n64 b.e5, n64 b.ti, n64 b.sq, n64 b.li, .slice (some ⟨g, 0, none⟩) N tc, .slice qA b.pl.length qc] rfl (by kernel_rfl) (by kernel_rfl)
              have hof := ho9
              have hfin : ChP b (fstK b.bl 10) hopBad hopNew w (.returned (.tuple #[bdV b (.slice (some ⟨g, 0, none⟩) N tc) (.slice qA b.pl.length qc), .int .i64 0])) wf := by
                unfold ChP
                rw [HL.out.2.2.2, HF.out.2.2.2.2.2.2.2.1 hbig]
                refine ⟨_, _, _, rfl, (HF.out.2.2.2.2.2.1.keepN k9).keep kf (fun i hi e => by have := hi.1; omega) |>.wide (fun i hi hh => ⟨by have := hh.1; omega, hi⟩), kw9.fresh kf (fun i e => by omega)⟩
              have hfin2 := HQ.out _ _ hfin
              have HG := Lib.hid (And.intro hstf (And.intro hrf (And.intro hld9 hfin2)))
              clear hstf hrf kf hzf hfin hfin2 hx9 hr9 ho9 hz9 kw9 k9 o9 hbig hld9 hof
              go_wp2_with (first
                | ((with_reducible show wpList _ _ _ (Oper.mk (some 55) _ _ _ _ _ :: _) _ _); refine wpl_val rfl (run_load_opv HG.out.2.2.1 rfl) ?_)
                | ((with_reducible show wpList _ _ _ (Oper.mk _ (Op.store 34 _ _) _ _ _ _ :: _) _ _); refine wpl_skip rfl (run_store_op HG.out.1 rfl rfl) ?_)
                | fail)
              (try simp only [Exit.inBlock, Exit.then])
              refine bodyPost_ret (results_cell_tmp_at rfl _ _ rfl HG.out.2.1.1 Try.underlying34 rfl (by kernel_rfl)) rfl ?_
              exact HG.out.2.2.2
          · have he := hb1 hbad
            subst he
            clear hb2 hb1
            obtain ⟨w8, hst8, hr8, k8, hz8⟩ := box_store hr7 34 zeros12 rfl (by kernel_rfl) (by kernel_rfl)
            have hfin := HQ.out _ _ (ChP.fail (by rw [HL.out.2.2.2]; exact chV_bad (mk := hopNew) (bad := hopBad) HE.out.1 HL.out.2.1 (by rw [hbD]; exact hbad)) (kw7.fresh k8 (fun i e => by omega)))
            have HF := Lib.hid (And.intro hst8 (And.intro hr8 hfin))
            clear hst8 hr8 k8 hz8 hfin k57 hx7 hr7 hz7 kw7 k7 hbD hbad
            go_wp2_with (first
              | ((with_reducible show wpList _ _ _ (Oper.mk _ (Op.store 34 _ _) _ _ _ _ :: _) _ _); refine wpl_skip rfl (run_store_op HF.out.1 rfl rfl) ?_)
              | fail)
            (try simp only [Exit.inBlock, Exit.then])
            refine bodyPost_ret (results_cell_tmp_at rfl _ _ rfl HF.out.2.1.1 Try.underlying34 rfl (by kernel_rfl)) rfl ?_
            exact HF.out.2.2
        · have hke : ((xt : Int) != 10) = true := by simp; omega
          clear hrow hrow0 hdr hdw hda hxo hyes hgo hx kr k6 hX hw6 hz6 kw6 hds hno
          go_wp2_with (first
            | ((with_reducible show wpList _ _ _ _ _ (World.alloc wr _)); rw [HX.out.1])
            | fail)
          go_roundw
          case rel => exact ⟨q + 1, by omega, by go_num, HX.out.2.2.2.2.1 hkt, k56⟩
          case measure => exact meas_up hlt
      · obtain rfl : q = N := by omega
        have hch : chV b (fstK b.bl 10) hopBad hopNew = (noBdl, 4) := by
          rw [fstK_none (fun j hj => hno j hj (by rw [← HE.out.2]; exact hj))]
          exact chV_none HE.out.1
        have hr7 := H5.out.2.2.2.2.1.keep (by omega) kr (fun x => x)
        obtain ⟨w8, hst8, hr8, k8, hz8⟩ := box_store hr7 34 zeros12 rfl (by kernel_rfl) (by kernel_rfl)
        have hfin := HQ.out _ _ (ChP.fail hch ((H5.out.2.2.2.1.thenN kr).fresh k8 (fun i e => by omega)))
        have HF := Lib.hid (And.intro hst8 (And.intro hr8 hfin))
        clear hst8 hr8 k8 hz8 hfin hr7 hch kr hno
        go_wp2_with (first
          | ((with_reducible show wpList _ _ _ (Oper.mk _ (Op.store 34 _ _) _ _ _ _ :: _) _ _); refine wpl_skip rfl (run_store_op HF.out.1 rfl rfl) ?_)
          | fail)
        (try simp only [Exit.inBlock, Exit.then])
        refine bodyPost_ret (results_cell_tmp_at rfl _ _ rfl HF.out.2.1.1 Try.underlying34 rfl (by kernel_rfl)) rfl ?_
        exact HF.out.2.2
  · have hE1 : (E == 0) = false := by simp [h0]
    have hE2 : (E != 0) = true := by simp [h0]
    have hz2 := HH.out.2.2.2.2.2.1
    obtain ⟨w8, hst8, hr8, k8, hz8⟩ := box_store (HH.out.2.2.2.1.keep (by omega) k3 (fun x => x)) 34 zeros12 rfl (by kernel_rfl) (by kernel_rfl)
    have hfin := HQ.out _ _ (ChP.fail (z := E) (by rw [← HE.out.1]; exact chV_val (by rw [HE.out.1]; exact h0)) ((HH.out.2.2.2.2.1.thenN k3).fresh k8 (fun i e => by omega)))
    have HF := Lib.hid (And.intro hst8 (And.intro hr8 hfin))
    clear hst8 hr8 k8 hz8 hfin k3 h0 hz2
    go_wp2_with (first
      | ((with_reducible show wpList _ _ _ (Oper.mk _ (Op.store 34 _ _) _ _ _ _ :: _) _ _); refine wpl_skip rfl (run_store_op HF.out.1 rfl rfl) ?_)
      | fail)
    (try simp only [Exit.inBlock, Exit.then])
    refine bodyPost_ret (results_cell_tmp_at rfl _ _ rfl HF.out.2.1.1 Try.underlying34 rfl (by kernel_rfl)) rfl ?_
    exact HF.out.2.2
set_option maxHeartbeats 12800000 in
theorem hopping_c {w : World} {bv pv : Value} {b : Bdl} (h : RdBd w bv pv b) (hsz : bdSize b ≤ 10000000) : Calls Try.prog 32 #[bdV b bv pv] w (ChP b (fstK b.bl 10) hopBad hopNew w) := by
  obtain ⟨bA, bc, rfl, -⟩ := h.bl.form
  obtain ⟨pA, pc, rfl, -⟩ := h.pl.form
  obtain ⟨C, hC⟩ : ∃ C, ChP b (fstK b.bl 10) hopBad hopNew = C := ⟨_, rfl⟩
  obtain ⟨w2, hw2, hx2, hr2, k2, hz2⟩ := bundle_box2 w b (.slice bA b.bl.length bc) (.slice pA b.pl.length pc)
  have hl2 := bd_loadN hx2 (by omega) (Kp.refl _ _)
  have hV := changedH_c (h.keepN k2) hsz
  obtain ⟨R, hR⟩ : ∃ z, chV b (fstK b.bl 10) hopBad hopNew = z := ⟨_, rfl⟩
  rw [hC] at ⊢
  have HC := Lib.hid (And.intro hC hR)
  have HH := Lib.hid (And.intro hw2 (And.intro hl2 (And.intro hr2 (And.intro k2 hz2))))
  clear hw2 hl2 hx2 hr2 k2 hz2 h hsz hC hR
  go_enter Try.func32, Try.ntmps32
  go_wp2_with (first
    | ((with_reducible show wpList _ _ _ _ _ (World.alloc (World.alloc w _) _)); rw [HH.out.1])
    | ((with_reducible show wpList _ _ _ (Oper.mk (some 4) _ _ _ _ _ :: _) _ _); refine wpl_val rfl (run_load_opv HH.out.2.1 rfl) ?_)
    | fail)
  refine hV.mono ?_
  intro e w3 hq
  unfold ChP at hq
  rw [HC.out.2] at hq
  obtain ⟨tv, qv, ls, rfl, ho, k3⟩ := hq
  clear hV
  obtain ⟨tA, tc, rfl, -⟩ := ho.rd.bl.form
  obtain ⟨qA, qc, rfl, -⟩ := ho.rd.pl.form
  have hz2 := HH.out.2.2.2.2
  obtain ⟨w4, hst, hr4, k4, hz4⟩ := box_store (HH.out.2.2.1.keep (by omega) k3 (fun x => x)) 34 #[n64 R.1.fl, n64 R.1.e0, n64 R.1.e1, n64 R.1.e2, n64 R.1.e3, n64 R.1.e4, n64 R.1.e5, n64 R.1.ti, n64 R.1.sq, n64 R.1.li, .slice tA R.1.bl.length tc, .slice qA R.1.pl.length qc] rfl (by kernel_rfl) (by kernel_rfl)
  have hfin : C w (.returned (.tuple #[bdV R.1 (.slice tA R.1.bl.length tc) (.slice qA R.1.pl.length qc), .int .i64 R.2])) w4 := by
    rw [← HC.out.1]
    unfold ChP
    rw [HC.out.2]
    refine ⟨_, _, _, rfl, (ho.keep k4 (fun i hi e => by have := hi.1; omega)).wide (fun i hi hh => ⟨by have := hh.1; omega, hi⟩), (HH.out.2.2.2.1.thenN k3).fresh k4 (fun i e => by omega)⟩
  have HF := Lib.hid (And.intro hst (And.intro hr4.1 hfin))
  clear hst hr4 k4 hz4 hfin ho k3 hz2
  go_wp2_with (first
    | ((with_reducible show wpList _ _ _ (Oper.mk _ (Op.store 34 _ _) _ _ _ _ :: _) _ _); refine wpl_skip rfl (run_store_op HF.out.1 rfl rfl) ?_)
    | fail)
  (try simp only [Exit.inBlock, Exit.then])
  refine bodyPost_ret (results_cell_tmp_at rfl _ _ rfl HF.out.2.1 Try.underlying34 rfl (by kernel_rfl)) rfl ?_
  exact HF.out.2.2
theorem bundle_box3 (W : World) (b : Bdl) (t : Nat) (bv pv : Value) : ∃ W2, (((W.alloc (.cells #[n64 b.fl, n64 b.e0, n64 b.e1, n64 b.e2, n64 b.e3, n64 b.e4, n64 b.e5, n64 b.ti, n64 b.sq, n64 b.li, bv, pv] 34)).alloc (.cells #[n64 t] 22)).alloc (.cells zeros12 34)) = W2 ∧ CellsAt W2 W.heap.size (bdC b bv pv) ∧ CellsAt W2 (W.heap.size + 1) [n64 t] ∧ CellsAt W2 (W.heap.size + 2) zeros12.toList ∧ KpN W W2 ∧ W2.heap.size = W.heap.size + 3 := by
  have k1 := (Kp.refl (fun _ => False) W).alloc (.cells #[n64 b.fl, n64 b.e0, n64 b.e1, n64 b.e2, n64 b.e3, n64 b.e4, n64 b.e5, n64 b.ti, n64 b.sq, n64 b.li, bv, pv] 34)
  have h1 := CellsAt.new W (bdC b bv pv) 34
  have z1 : (W.alloc (.cells #[n64 b.fl, n64 b.e0, n64 b.e1, n64 b.e2, n64 b.e3, n64 b.e4, n64 b.e5, n64 b.ti, n64 b.sq, n64 b.li, bv, pv] 34)).heap.size = W.heap.size + 1 := by simp
  generalize (W.alloc (.cells #[n64 b.fl, n64 b.e0, n64 b.e1, n64 b.e2, n64 b.e3, n64 b.e4, n64 b.e5, n64 b.ti, n64 b.sq, n64 b.li, bv, pv] 34)) = W1 at *
  have k2 := (Kp.refl (fun _ => False) W1).alloc (.cells #[n64 t] 22)
  have h2 := CellsAt.new W1 [n64 t] 22
  have z2 : (W1.alloc (.cells #[n64 t] 22)).heap.size = W1.heap.size + 1 := by simp
  generalize (W1.alloc (.cells #[n64 t] 22)) = W2 at *
  have k3 := (Kp.refl (fun _ => False) W2).alloc (.cells zeros12 34)
  have h3 := CellsAt.new W2 zeros12.toList 34
  refine ⟨_, rfl, (h1.keep (by omega) k2 (fun x => x)).keep (by omega) k3 (fun x => x), ?_, ?_, k1.thenN (k2.thenN k3), by simp; omega⟩
  · rw [z1] at h2
    exact h2.keep (by omega) k3 (fun x => x)
  · rwa [z2, z1] at h3
set_option maxHeartbeats 25600000 in
theorem changedA_c {w : World} {bv pv : Value} {b : Bdl} {T t : Nat} (hT0 : CellsAt w T [n64 t]) (hTl : T < w.heap.size) (ht : U64 t) (h : RdBd w bv pv b) (hsz : bdSize b ≤ 10000000) : Calls Try.prog 63 #[bdV b bv pv, .int .u64 7, .func (.func 69) #[] #[.pointer (some ⟨T, 0, none⟩)]] w (ChP b (fstK b.bl 7) (ageBad t) (ageNew t) w) := by
  have hbl := (bdSize_len b).1
  obtain ⟨N, hN⟩ : ∃ n, b.bl.length = n := ⟨_, rfl⟩
  have hf := h.bl.form
  rw [hN] at hf hbl
  obtain ⟨bA, bc, rfl, hbc⟩ := hf
  obtain ⟨pA, pc, rfl, -⟩ := h.pl.form
  have hnb : N ≤ 2500000 := by omega
  have hQ : ∀ e w', ChP b (fstK b.bl 7) (ageBad t) (ageNew t) w e w' → ChP b (fstK b.bl 7) (ageBad t) (ageNew t) w e w' := fun _ _ x => x
  obtain ⟨Q, hQQ⟩ : ∃ Q, ChP b (fstK b.bl 7) (ageBad t) (ageNew t) w = Q := ⟨_, rfl⟩
  rw [hQQ] at hQ ⊢
  rw [← hQQ] at hQ
  have HQ := Lib.hid (show ∀ e w', ChP b (fstK b.bl 7) (ageBad t) (ageNew t) w e w' → Q e w' by rw [hQQ]; exact fun _ _ x => x)
  clear hQ hQQ
  obtain ⟨w2, hw2, hx2, hr2, k2, hz2⟩ := bundle_box2 w b (.slice bA N bc) (.slice pA b.pl.length pc)
  have hl2 := bd_loadN hx2 (by omega) (Kp.refl _ _)
  have hV := valid_c (h.keepN k2) hsz
  obtain ⟨E, hE⟩ : ∃ z, valE b = z := ⟨_, rfl⟩
  rw [hE] at hV
  have HE := Lib.hid (And.intro hE hN)
  have HH := Lib.hid (And.intro hw2 (And.intro hl2 (And.intro hx2 (And.intro hr2 (And.intro k2 (And.intro hz2 (And.intro h hsz)))))))
  have HT := Lib.hid (And.intro hT0 (And.intro hTl ht))
  clear hw2 hl2 hx2 hr2 k2 hz2 h hsz hE hN hbl hT0 hTl ht
  go_enter Try.func63, Try.ntmps63
  go_wp2_with (first
    | ((with_reducible show wpList _ _ _ _ _ (World.alloc (World.alloc w _) _)); rw [HH.out.1])
    | ((with_reducible show wpList _ _ _ (Oper.mk (some 13) _ _ _ _ _ :: _) _ _); refine wpl_val rfl (run_load_opv HH.out.2.1 rfl) ?_)
    | fail)
  refine hV.mono ?_
  rintro e w3 ⟨rfl, k3⟩
  clear hV
  by_cases h0 : E = 0
  · subst h0
    have hz2 := HH.out.2.2.2.2.2.1
    have hz3 := k3.size
    have hl3 := bd_loadN HH.out.2.2.1 (by omega) k3
    have hT := twin_c (HH.out.2.2.2.2.2.2.1.keepN (HH.out.2.2.2.2.1.thenN k3)) HH.out.2.2.2.2.2.2.2
    have H3 := Lib.hid (And.intro hl3 k3)
    clear hl3 k3 hz2 hz3
    go_wp2_with (first
      | ((with_reducible show wpList _ _ _ (Oper.mk (some 19) _ _ _ _ _ :: _) _ _); refine wpl_val rfl (run_load_opv H3.out.1 rfl) ?_)
      | fail)
    refine hT.mono ?_
    intro e w4 hq
    unfold TwinP at hq
    obtain ⟨tv, qv, ls, rfl, ho, k4⟩ := hq
    clear hT
    have hf := ho.rd.bl.form
    rw [HE.out.2] at hf
    obtain ⟨tA, tc, rfl, -⟩ := hf
    obtain ⟨qA, qc, rfl, -⟩ := ho.rd.pl.form
    have hz2 := HH.out.2.2.2.2.2.1
    have hz3 := H3.out.2.size
    have hz4 := k4.size
    have hx4 := HH.out.2.2.1.keep (by omega) (H3.out.2.thenN k4) (fun x => x)
    obtain ⟨w5, hst5, hx5, k5, hz5⟩ := box_store hx4 34 #[n64 b.fl, n64 b.e0, n64 b.e1, n64 b.e2, n64 b.e3, n64 b.e4, n64 b.e5, n64 b.ti, n64 b.sq, n64 b.li, .slice tA N tc, .slice qA b.pl.length qc] rfl (by kernel_rfl) (by kernel_rfl)
    have ho5 := ho.keep k5 (fun i hi e => by have := hi.1; omega)
    have kw5 : KpN w w5 := (HH.out.2.2.2.2.1.thenN (H3.out.2.thenN k4)).fresh k5 (fun i e => by omega)
    have hr5 := (HH.out.2.2.2.1.keep (by omega) (H3.out.2.thenN k4) (fun x => x)).keep (by omega) k5 (fun e => by omega)
    have x10 := hx5.at_ 10 rfl
    have hls : ls.length = N := by
      have := congrArg List.length ho.eq
      rw [List.length_map] at this
      rw [this]
      exact HE.out.2
    have H5 := Lib.hid (And.intro hst5 (And.intro hx5 (And.intro ho5 (And.intro kw5 (And.intro hr5 (And.intro hls (show w.heap.size + 2 ≤ w3.heap.size ∧ w3.heap.size ≤ w4.heap.size ∧ w5.heap.size = w4.heap.size by omega)))))))
    clear hst5 hx5 ho5 kw5 hr5 hls hx4 k5 k4 ho hz2 hz3 hz4 hz5
    go_wp2_with (first
      | ((with_reducible show wpList _ _ _ (Oper.mk _ (Op.store 34 _ _) _ _ _ _ :: _) _ _); refine wpl_skip rfl (run_store_op H5.out.1 rfl rfl) ?_)
      | fail)
    clear x10
    go_loopw [24] (fun i wr => ∃ q : Nat, q ≤ N ∧ i = .int .i64 q ∧ (∀ j (hj : j < b.bl.length), j < q → b.bl[j].ty ≠ 7) ∧ KpN w5 wr) (fun i _ => N - (intOf i).toNat)
    case atStart => exact ⟨0, Nat.zero_le _, rfl, fun j _ hj => by omega, Kp.refl _ _⟩
    case round =>
      obtain ⟨q, hq, rfl, hno, kr⟩ := hrel
      obtain ⟨hzA, hzB, hzC⟩ := H5.out.2.2.2.2.2.2
      have hzr := kr.size
      by_cases hlt : q < N
      · have hql : q < b.bl.length := by rw [HE.out.2]; exact hlt
        obtain ⟨g, cap, hv, hFg, -⟩ := H5.out.2.2.1.bl.row.form (by rw [H5.out.2.2.2.2.2.1]; omega)
        injection hv with hv1 hv2 hv3
        subst hv1
        subst hv3
        clear hv2
        obtain ⟨ad, cs, had, -, hrow0, ⟨⟨dw, rfl, hdw⟩, hxo⟩⟩ := H5.out.2.2.1.rd.bl.row q hql
        injection had with had
        subst had
        rw [add_plain'] at hrow0
        have hrow := hrow0.keepN kr
        have hdr := hdw.keepN kr
        have hda := (bdSize_len b).2.2 b.bl[q] (List.getElem_mem hql)
        have hds := HH.out.2.2.2.2.2.2.2
        have hyes : b.bl[q].ty = 7 → fstK b.bl 7 = some q := fun e => fstK_at hql hno e
        have hgo : b.bl[q].ty ≠ 7 → ∀ j (hj : j < b.bl.length), j < q + 1 → b.bl[j].ty ≠ 7 := fun e j hj hjq => by
          by_cases hje : j = q
          · subst hje; exact e
          · exact hno j hj (by omega)
        obtain ⟨x, hx⟩ : ∃ x, b.bl[q] = x := ⟨_, rfl⟩
        rw [hx] at hrow hdr hda hyes hgo
        obtain ⟨xt, xn, xf, xd⟩ := x
        dsimp only at hrow hdr hda hyes hgo
        obtain ⟨dA, dc, rfl, -⟩ := hdr.form
        have c0 := hrow.c0
        have c1 := hrow.fld 0 rfl
        have c2 := hrow.fld 1 rfl
        have c3 := hrow.fld 2 rfl
        obtain ⟨w6, hw6⟩ : ∃ w6, wr.alloc (.cells #[n64 xt, n64 xn, n64 xf, .slice dA xd.length dc] 37) = w6 := ⟨_, rfl⟩
        have k6 : KpN wr w6 := by rw [← hw6]; exact (Kp.refl _ _).alloc _
        have hX : CellsAt w6 wr.heap.size [n64 xt, n64 xn, n64 xf, .slice dA xd.length dc] := by rw [← hw6]; exact CellsAt.new wr [n64 xt, n64 xn, n64 xf, .slice dA xd.length dc] 37
        have hz6 : w6.heap.size = wr.heap.size + 1 := by rw [← hw6]; simp
        have x0 := hX.at_ 0 rfl
        have x3 := hX.at_ 3 rfl
        have k56 := kr.thenN k6
        have kw6 := H5.out.2.2.2.1.thenN k56
        have HX := Lib.hid (And.intro hw6 (And.intro k56 (And.intro hx (And.intro hyes (And.intro hgo (show wr.heap.size < w6.heap.size ∧ g < w4.heap.size ∧ w3.heap.size ≤ g by exact ⟨by omega, hFg.2, hFg.1⟩))))))
        by_cases hkt : xt = 7
        · have hC := agedF_c (hdr.keepN k6) (by omega) (HT.out.1.keep HT.out.2.1 kw6 (fun x => x)) (by have := HT.out.2.1; have := kw6.size; omega) HT.out.2.2
          have hke : ((xt : Int) != 7) = false := by simp [hkt]
          have hlx := bdSize_laid b HE.out.1
          have HL := Lib.hid (And.intro hdr (And.intro hql (And.intro hlx (HX.out.2.2.2.1 hkt))))
          clear hrow hrow0 hdr hdw hda hxo hyes hgo hx kr k6 hX hw6 hz6 k56 kw6 hds hno hlx hFg hkt
          go_wp2_with (first
            | ((with_reducible show wpList _ _ _ _ _ (World.alloc wr _)); rw [HX.out.1])
            | fail)
          (try rw [HX.out.1])
          refine hC.mono ?_
          intro e w7 hnw
          clear hC
          have hnw2 : NewD w6 ((ageBad t) xd) ((ageNew t) xd) e w7 := hnw
          clear hnw
          obtain ⟨k7, hb1, hb2⟩ := hnw2
          have k57 := HX.out.2.1.thenN k7
          have hx7 := H5.out.2.1.keep (by omega) k57 (fun x => x)
          have hr7 := H5.out.2.2.2.2.1.keep (by omega) k57 (fun x => x)
          have hz7 := k7.size
          have kw7 := H5.out.2.2.2.1.thenN k57
          have hbD : b.bl[q].da = xd := by rw [HX.out.2.2.1]
          rcases hbad : (ageBad t) xd with _ | _
          · obtain ⟨u, rfl, ou⟩ := hb2 hbad
            obtain ⟨hzx, hgx, hgy⟩ := HX.out.2.2.2.2.2
            obtain ⟨nd, hnd⟩ : ∃ z, (ageNew t) xd = z := ⟨_, rfl⟩
            rw [hnd] at ou
            obtain ⟨uA, uc, rfl, -⟩ := ou.readsB.form
            have hndl : nd.length ≤ 64 := by rw [← hnd]; exact (ageNew_holds hbad).2
            have hchS := fun hl => chV_size (bad := (ageBad t)) (mk := (ageNew t)) HE.out.1 HL.out.2.1 (by rw [hbD]; exact hbad) hl
            have hchO := fun hl => chV_ok (bad := (ageBad t)) (mk := (ageNew t)) HE.out.1 HL.out.2.1 (by rw [hbD]; exact hbad) hl
            rw [hbD, hnd] at hchS hchO
            have ho7 := H5.out.2.2.1.keepN k57
            have hcf := ho7.bl.cell3 (i := q) (by rw [H5.out.2.2.2.2.2.1]; exact hlt)
            have hcv := hcf.1
            have hfv := hcf.2
            have ho8 := OwBd.setD (H := fun i => w3.heap.size ≤ i ∧ i < w7.heap.size) (i := q) (u := .slice uA nd.length uc) (d := nd) (ho7.wide (G := fun i => w3.heap.size ≤ i ∧ i < w4.heap.size) (fun i hi hh => hh)) (by rw [H5.out.2.2.2.2.2.1]; exact hlt) ou (fun i hi hh => by have := hi.2; have := hh.1; omega) H5.out.2.2.2.2.2.1.symm (fun i hi => ⟨hi.1, by have := hi.2; omega⟩) (fun i hi => ⟨by have := hi.1; omega, hi.2⟩)
            have k8 : Kp (fun k => k = g) w7 (w7.setCell ⟨g, q * 4 + 3, none⟩ (.slice uA nd.length uc)) := kp1_set3 _ _ _
            obtain ⟨w8, hw8⟩ : ∃ W, w7.setCell ⟨g, q * 4 + 3, none⟩ (.slice uA nd.length uc) = W := ⟨_, rfl⟩
            rw [hw8] at ho8 k8
            have hz8 := k8.size
            have x10 := hx7.at_ 10 rfl
            have hx8 := hx7.keep (by omega) k8 (fun e => by omega)
            have hr8 := hr7.keep (by omega) k8 (fun e => by omega)
            have kw8 : KpN w w8 := kw7.fresh k8 (fun i e => by omega)
            have hld8 := bd_loadN hx8 (by omega) (Kp.refl _ _)
            have hns : bdSize (newB b q nd) ≤ 10000000 := by have := newB_size b q nd; have := HL.out.2.2.1; omega
            have hLc : Calls Try.prog 60 #[bdV b (.slice (some ⟨g, 0, none⟩) N tc) (.slice qA b.pl.length qc)] w8 (GotB 5 w8 (laid (newB b q nd))) := laid_c ho8.rd hns
            obtain ⟨LL, hLL⟩ : ∃ z, laid (newB b q nd) = z := ⟨_, rfl⟩
            rw [hLL] at hLc hchS hchO
            have HF := Lib.hid (And.intro hw8 (And.intro hld8 (And.intro hx8 (And.intro hr8 (And.intro kw8 (And.intro ho8 (And.intro hchS (And.intro hchO (show w7.heap.size ≤ w8.heap.size from hz8)))))))))
            clear hw8 hld8 hx8 hr8 kw8 ho8 hchS hchO hns hLL k8 ho7 hcf ou hb1 hb2 hndl hnd hx7 hr7 kw7 hbD k57 k7 hbad
            go_wp2_with (first
              | ((with_reducible show wpList _ _ _ _ _ (World.setCell w7 _ _)); rw [HF.out.1])
              | ((with_reducible show wpList _ _ _ (Oper.mk (some 50) _ _ _ _ _ :: _) _ _); refine wpl_val rfl (run_load_opv HF.out.2.1 rfl) ?_)
              | fail)
            refine hLc.mono ?_
            rintro e w9 ⟨v9, rfl, o9, k9⟩
            clear hLc
            obtain ⟨vA, vc, rfl, -⟩ := o9.readsB.form
            have hx9 := HF.out.2.2.1.keep (by omega) k9 (fun x => x)
            have hr9 := HF.out.2.2.2.1.keep (by omega) k9 (fun x => x)
            have ho9 := HF.out.2.2.2.2.2.1.keepN k9
            have hz9 := k9.size
            have kw9 := HF.out.2.2.2.2.1.thenN k9
            by_cases hbig : 1024 < LL.length
            · have hbig' : (1024 : Int) < (LL.length : Int) := by omega
              obtain ⟨wf, hstf, hrf, kf, hzf⟩ := box_store hr9 34 zeros12 rfl (by kernel_rfl) (by kernel_rfl)
              have hfin := HQ.out _ _ (ChP.fail (by rw [HL.out.2.2.2]; exact HF.out.2.2.2.2.2.2.1 hbig) (kw9.fresh kf (fun i e => by omega)))
              have HG := Lib.hid (And.intro hstf (And.intro hrf hfin))
              clear hstf hrf kf hzf hfin hx9 hr9 ho9 hz9 kw9 k9 o9 hbig
              go_wp2_with (first
                | ((with_reducible show wpList _ _ _ (Oper.mk _ (Op.store 34 _ _) _ _ _ _ :: _) _ _); refine wpl_skip rfl (run_store_op HG.out.1 rfl rfl) ?_)
                | fail)
              (try simp only [Exit.inBlock, Exit.then])
              refine bodyPost_ret (results_cell_tmp_at rfl _ _ rfl HG.out.2.1.1 Try.underlying34 rfl (by kernel_rfl)) rfl ?_
              exact HG.out.2.2
            · have hbig' : ¬ (1024 : Int) < (LL.length : Int) := by omega
              have hld9 := bd_loadN hx9 (by omega) (Kp.refl _ _)
              obtain ⟨wf, hstf, hrf, kf, hzf⟩ := box_store hr9 34 #[n64 b.fl, n64 b.e0, n64 b.e1, n64 b.e2, n64 b.e3, n64 b.e4, n64 b.e5, n64 b.ti, n64 b.sq, n64 b.li, .slice (some ⟨g, 0, none⟩) N tc, .slice qA b.pl.length qc] rfl (by kernel_rfl) (by kernel_rfl)
              have hof := ho9
              have hfin : ChP b (fstK b.bl 7) (ageBad t) (ageNew t) w (.returned (.tuple #[bdV b (.slice (some ⟨g, 0, none⟩) N tc) (.slice qA b.pl.length qc), .int .i64 0])) wf := by
                unfold ChP
                rw [HL.out.2.2.2, HF.out.2.2.2.2.2.2.2.1 hbig]
                refine ⟨_, _, _, rfl, (HF.out.2.2.2.2.2.1.keepN k9).keep kf (fun i hi e => by have := hi.1; omega) |>.wide (fun i hi hh => ⟨by have := hh.1; omega, hi⟩), kw9.fresh kf (fun i e => by omega)⟩
              have hfin2 := HQ.out _ _ hfin
              have HG := Lib.hid (And.intro hstf (And.intro hrf (And.intro hld9 hfin2)))
              clear hstf hrf kf hzf hfin hfin2 hx9 hr9 ho9 hz9 kw9 k9 o9 hbig hld9 hof
              go_wp2_with (first
                | ((with_reducible show wpList _ _ _ (Oper.mk (some 55) _ _ _ _ _ :: _) _ _); refine wpl_val rfl (run_load_opv HG.out.2.2.1 rfl) ?_)
                | ((with_reducible show wpList _ _ _ (Oper.mk _ (Op.store 34 _ _) _ _ _ _ :: _) _ _); refine wpl_skip rfl (run_store_op HG.out.1 rfl rfl) ?_)
                | fail)
              (try simp only [Exit.inBlock, Exit.then])
              refine bodyPost_ret (results_cell_tmp_at rfl _ _ rfl HG.out.2.1.1 Try.underlying34 rfl (by kernel_rfl)) rfl ?_
              exact HG.out.2.2.2
          · have he := hb1 hbad
            subst he
            clear hb2 hb1
            obtain ⟨w8, hst8, hr8, k8, hz8⟩ := box_store hr7 34 zeros12 rfl (by kernel_rfl) (by kernel_rfl)
            have hfin := HQ.out _ _ (ChP.fail (by rw [HL.out.2.2.2]; exact chV_bad (mk := (ageNew t)) (bad := (ageBad t)) HE.out.1 HL.out.2.1 (by rw [hbD]; exact hbad)) (kw7.fresh k8 (fun i e => by omega)))
            have HF := Lib.hid (And.intro hst8 (And.intro hr8 hfin))
            clear hst8 hr8 k8 hz8 hfin k57 hx7 hr7 hz7 kw7 k7 hbD hbad
            go_wp2_with (first
              | ((with_reducible show wpList _ _ _ (Oper.mk _ (Op.store 34 _ _) _ _ _ _ :: _) _ _); refine wpl_skip rfl (run_store_op HF.out.1 rfl rfl) ?_)
              | fail)
            (try simp only [Exit.inBlock, Exit.then])
            refine bodyPost_ret (results_cell_tmp_at rfl _ _ rfl HF.out.2.1.1 Try.underlying34 rfl (by kernel_rfl)) rfl ?_
            exact HF.out.2.2
        · have hke : ((xt : Int) != 7) = true := by simp; omega
          clear hrow hrow0 hdr hdw hda hxo hyes hgo hx kr k6 hX hw6 hz6 kw6 hds hno
          go_wp2_with (first
            | ((with_reducible show wpList _ _ _ _ _ (World.alloc wr _)); rw [HX.out.1])
            | fail)
          go_roundw
          case rel => exact ⟨q + 1, by omega, by go_num, HX.out.2.2.2.2.1 hkt, k56⟩
          case measure => exact meas_up hlt
      · obtain rfl : q = N := by omega
        have hch : chV b (fstK b.bl 7) (ageBad t) (ageNew t) = (noBdl, 4) := by
          rw [fstK_none (fun j hj => hno j hj (by rw [← HE.out.2]; exact hj))]
          exact chV_none HE.out.1
        have hr7 := H5.out.2.2.2.2.1.keep (by omega) kr (fun x => x)
        obtain ⟨w8, hst8, hr8, k8, hz8⟩ := box_store hr7 34 zeros12 rfl (by kernel_rfl) (by kernel_rfl)
        have hfin := HQ.out _ _ (ChP.fail hch ((H5.out.2.2.2.1.thenN kr).fresh k8 (fun i e => by omega)))
        have HF := Lib.hid (And.intro hst8 (And.intro hr8 hfin))
        clear hst8 hr8 k8 hz8 hfin hr7 hch kr hno
        go_wp2_with (first
          | ((with_reducible show wpList _ _ _ (Oper.mk _ (Op.store 34 _ _) _ _ _ _ :: _) _ _); refine wpl_skip rfl (run_store_op HF.out.1 rfl rfl) ?_)
          | fail)
        (try simp only [Exit.inBlock, Exit.then])
        refine bodyPost_ret (results_cell_tmp_at rfl _ _ rfl HF.out.2.1.1 Try.underlying34 rfl (by kernel_rfl)) rfl ?_
        exact HF.out.2.2
  · have hE1 : (E == 0) = false := by simp [h0]
    have hE2 : (E != 0) = true := by simp [h0]
    have hz2 := HH.out.2.2.2.2.2.1
    obtain ⟨w8, hst8, hr8, k8, hz8⟩ := box_store (HH.out.2.2.2.1.keep (by omega) k3 (fun x => x)) 34 zeros12 rfl (by kernel_rfl) (by kernel_rfl)
    have hfin := HQ.out _ _ (ChP.fail (z := E) (by rw [← HE.out.1]; exact chV_val (by rw [HE.out.1]; exact h0)) ((HH.out.2.2.2.2.1.thenN k3).fresh k8 (fun i e => by omega)))
    have HF := Lib.hid (And.intro hst8 (And.intro hr8 hfin))
    clear hst8 hr8 k8 hz8 hfin k3 h0 hz2
    go_wp2_with (first
      | ((with_reducible show wpList _ _ _ (Oper.mk _ (Op.store 34 _ _) _ _ _ _ :: _) _ _); refine wpl_skip rfl (run_store_op HF.out.1 rfl rfl) ?_)
      | fail)
    (try simp only [Exit.inBlock, Exit.then])
    refine bodyPost_ret (results_cell_tmp_at rfl _ _ rfl HF.out.2.1.1 Try.underlying34 rfl (by kernel_rfl)) rfl ?_
    exact HF.out.2.2
set_option maxHeartbeats 12800000 in
theorem aging_c {w : World} {bv pv : Value} {b : Bdl} {t : Nat} (ht : U64 t) (h : RdBd w bv pv b) (hsz : bdSize b ≤ 10000000) : Calls Try.prog 34 #[bdV b bv pv, n64 t] w (ChP b (fstK b.bl 7) (ageBad t) (ageNew t) w) := by
  obtain ⟨bA, bc, rfl, -⟩ := h.bl.form
  obtain ⟨pA, pc, rfl, -⟩ := h.pl.form
  obtain ⟨C, hC⟩ : ∃ C, ChP b (fstK b.bl 7) (ageBad t) (ageNew t) = C := ⟨_, rfl⟩
  obtain ⟨w2, hw2, hx2, hT2, hr2, k2, hz2⟩ := bundle_box3 w b t (.slice bA b.bl.length bc) (.slice pA b.pl.length pc)
  have hl2 := bd_loadN hx2 (by omega) (Kp.refl _ _)
  have hV := changedA_c hT2 (by omega) ht (h.keepN k2) hsz
  obtain ⟨R, hR⟩ : ∃ z, chV b (fstK b.bl 7) (ageBad t) (ageNew t) = z := ⟨_, rfl⟩
  rw [hC] at ⊢
  have HC := Lib.hid (And.intro hC hR)
  have HH := Lib.hid (And.intro hw2 (And.intro hl2 (And.intro hr2 (And.intro k2 hz2))))
  clear hw2 hl2 hx2 hr2 k2 hz2 h hsz hC hR hT2
  go_enter Try.func34, Try.ntmps34
  go_wp2_with (first
    | ((with_reducible show wpList _ _ _ _ _ (World.alloc (World.alloc (World.alloc w _) _) _)); rw [HH.out.1])
    | ((with_reducible show wpList _ _ _ (Oper.mk (some 6) _ _ _ _ _ :: _) _ _); refine wpl_val rfl (run_load_opv HH.out.2.1 rfl) ?_)
    | fail)
  refine hV.mono ?_
  intro e w3 hq
  unfold ChP at hq
  rw [HC.out.2] at hq
  obtain ⟨tv, qv, ls, rfl, ho, k3⟩ := hq
  clear hV
  obtain ⟨tA, tc, rfl, -⟩ := ho.rd.bl.form
  obtain ⟨qA, qc, rfl, -⟩ := ho.rd.pl.form
  have hz2 := HH.out.2.2.2.2
  obtain ⟨w4, hst, hr4, k4, hz4⟩ := box_store (HH.out.2.2.1.keep (by omega) k3 (fun x => x)) 34 #[n64 R.1.fl, n64 R.1.e0, n64 R.1.e1, n64 R.1.e2, n64 R.1.e3, n64 R.1.e4, n64 R.1.e5, n64 R.1.ti, n64 R.1.sq, n64 R.1.li, .slice tA R.1.bl.length tc, .slice qA R.1.pl.length qc] rfl (by kernel_rfl) (by kernel_rfl)
  have hfin : C w (.returned (.tuple #[bdV R.1 (.slice tA R.1.bl.length tc) (.slice qA R.1.pl.length qc), .int .i64 R.2])) w4 := by
    rw [← HC.out.1]
    unfold ChP
    rw [HC.out.2]
    refine ⟨_, _, _, rfl, (ho.keep k4 (fun i hi e => by have := hi.1; omega)).wide (fun i hi hh => ⟨by have := hh.1; omega, hi⟩), (HH.out.2.2.2.1.thenN k3).fresh k4 (fun i e => by omega)⟩
  have HF := Lib.hid (And.intro hst (And.intro hr4.1 hfin))
  clear hst hr4 k4 hz4 hfin ho k3 hz2
  go_wp2_with (first
    | ((with_reducible show wpList _ _ _ (Oper.mk _ (Op.store 34 _ _) _ _ _ _ :: _) _ _); refine wpl_skip rfl (run_store_op HF.out.1 rfl rfl) ?_)
    | fail)
  (try simp only [Exit.inBlock, Exit.then])
  refine bodyPost_ret (results_cell_tmp_at rfl _ _ rfl HF.out.2.1 Try.underlying34 rfl (by kernel_rfl)) rfl ?_
  exact HF.out.2.2
end Go.Proofs.Yteokkpmndfekoaa
