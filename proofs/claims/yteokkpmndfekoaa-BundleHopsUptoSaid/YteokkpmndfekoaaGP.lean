/- The document's with. -/
import Derived.Test.YteokkpmndfekoaaGN
import Derived.Test.YteokkpmndfekoaaFD
namespace Go.Proofs.Yteokkpmndfekoaa
open Go Go.RowKit Go.ChangeShapes Go.WideShapes Go.ChangeAt
set_option maxRecDepth 100000

theorem sl_rows {w : World} {v : Value} {bl : List Blk} (h : SlAt w 4 BlkAt v bl) : ∃ ls : List (Value × Blk), ls.map Prod.snd = bl ∧ RdC w 4 v ls.length (blCs ls) ∧ ∀ p ∈ ls, RdB w p.1 p.2.da ∧ U64 p.2.ty ∧ U64 p.2.nu ∧ U64 p.2.fl := by
  obtain ⟨A, c, rfl, hc, hr⟩ := h
  have key : ∀ i (hi : i < bl.length), ∃ v, ∃ ad, A = some ad ∧ RowAt w (ad.add (i * 4)) (blC (v, bl[i])) ∧ RdB w v bl[i].da ∧ U64 bl[i].ty ∧ U64 bl[i].nu ∧ U64 bl[i].fl := fun i hi => by
    obtain ⟨ad, cs, ha, -, hrow, ⟨⟨dv, rfl, hd⟩, hu⟩⟩ := hr i hi
    exact ⟨dv, ad, ha, hrow, hd, hu⟩
  let f : Nat → Value := fun i => if h : i < bl.length then (key i h).choose else .nilFunc
  have hf : ∀ i (hi : i < bl.length), ∃ ad, A = some ad ∧ RowAt w (ad.add (i * 4)) (blC (f i, bl[i])) ∧ RdB w (f i) bl[i].da ∧ U64 bl[i].ty ∧ U64 bl[i].nu ∧ U64 bl[i].fl := fun i hi => by
    have h1 : f i = (key i hi).choose := by simp only [f, dif_pos hi]
    rw [h1]
    exact (key i hi).choose_spec
  have hl : (bl.mapIdx fun i x => (f i, x)).length = bl.length := by simp
  have hg : ∀ i (hi : i < (bl.mapIdx fun i x => (f i, x)).length), (bl.mapIdx fun i x => (f i, x))[i] = (f i, bl[i]'(by simpa using hi)) := fun i hi => by simp
  refine ⟨bl.mapIdx fun i x => (f i, x), ?_, ⟨by rw [blCs_len], A, c, by rw [hl], by rw [hl]; exact hc, fun j u hu => ?_⟩, fun p hp => ?_⟩
  · refine List.ext_getElem (by simp) fun i h1 h2 => by simp
  · have hj : j < bl.length * 4 := by
      have := (List.getElem?_eq_some_iff.1 hu).1
      rw [blCs_len, hl] at this
      exact this
    have hq : j / 4 < bl.length := by omega
    have e : j = j / 4 * 4 + j % 4 := by omega
    rw [e, blCs_get _ (j / 4) (by rw [hl]; exact hq) (j % 4) (by omega), hg] at hu
    obtain ⟨ad, ha, hrow, -⟩ := hf (j / 4) hq
    refine ⟨ad, ha, ?_⟩
    have := hrow _ _ hu
    rw [add_add] at this
    rw [e]
    exact this
  · obtain ⟨i, hi, rfl⟩ := List.mem_iff_getElem.1 hp
    rw [hg]
    obtain ⟨ad, ha, -, h2⟩ := hf i (by simpa using hi)
    exact h2
/-- a row of blocks of one's own whose data are anybody's -/
structure RoBl (w : World) (T : Nat) (F : Nat → Prop) (v : Value) (ls : List (Value × Blk)) : Prop where
  row : OwC w T 4 F v ls.length (blCs ls)
  each : ∀ p ∈ ls, RdB w p.1 p.2.da ∧ U64 p.2.ty ∧ U64 p.2.nu ∧ U64 p.2.fl
theorem RoBl.sl {w : World} {T : Nat} {F : Nat → Prop} {v : Value} {l : List (Value × Blk)} (h : RoBl w T F v l) : SlAt w 4 BlkAt v (l.map Prod.snd) := by
  obtain ⟨hl, A, c, rfl, hc, hr⟩ := h.row.reads
  refine ⟨A, c, by simp, by simpa using hc, fun j hj => ?_⟩
  have hj' : j < l.length := by simpa using hj
  have h0 : (blCs l)[j * 4]? = some (n64 l[j].2.ty) := by have := blCs_get l j hj' 0 (by omega); simpa [blC] using this
  obtain ⟨ad, rfl, -⟩ := hr _ _ h0
  have he := h.each _ (List.getElem_mem hj')
  refine ⟨ad, blC l[j], rfl, rfl, fun k u hk => ?_, ⟨⟨l[j].1, by simp [blC], by simpa using he.1⟩, by simpa using he.2⟩⟩
  have hk4 : k < 4 := by have := (List.getElem?_eq_some_iff.1 hk).1; simpa [blC] using this
  have h1 : (blCs l)[j * 4 + k]? = some u := by rw [blCs_get l j hj' k hk4]; exact hk
  obtain ⟨ad', e, hc2⟩ := hr _ _ h1
  injection e with e
  subst e
  rw [add_add]
  exact hc2
def WithP (b : Bdl) (q : Nat) (d : List UInt8) (w0 w : World) (dv : Value) (e : Ending) (w' : World) : Prop :=
  ∃ bv pv, e = .returned (.tuple #[bdV (if valE (newB b q d) = 0 then newB b q d else noBdl) bv pv, .int .i64 (valE (newB b q d))]) ∧ (∀ W, KpN w0 W → Kp (fun i => i < w.heap.size) w' W → RdB W dv d → RdBd W bv pv (if valE (newB b q d) = 0 then newB b q d else noBdl)) ∧ KpN w w'
theorem rbundle_box2 (W : World) (b : Bdl) (bv pv : Value) : ∃ W2, ((W.alloc (.cells #[n64 b.fl, n64 b.e0, n64 b.e1, n64 b.e2, n64 b.e3, n64 b.e4, n64 b.e5, n64 b.ti, n64 b.sq, n64 b.li, bv, pv] 29)).alloc (.cells zeros12 29)) = W2 ∧ CellsAt W2 W.heap.size (bdC b bv pv) ∧ CellsAt W2 (W.heap.size + 1) zeros12.toList ∧ KpN W W2 ∧ W2.heap.size = W.heap.size + 2 := by
  refine ⟨_, rfl, (CellsAt.new W (bdC b bv pv) 29).keep (by simp) ((Kp.refl (fun _ => False) _).alloc _) (fun x => x), ?_, ((Kp.refl _ _).alloc _).alloc _, by simp⟩
  have := CellsAt.new (W.alloc (.cells #[n64 b.fl, n64 b.e0, n64 b.e1, n64 b.e2, n64 b.e3, n64 b.e4, n64 b.e5, n64 b.ti, n64 b.sq, n64 b.li, bv, pv] 29)) zeros12.toList 29
  rwa [show (W.alloc (.cells #[n64 b.fl, n64 b.e0, n64 b.e1, n64 b.e2, n64 b.e3, n64 b.e4, n64 b.e5, n64 b.ti, n64 b.sq, n64 b.li, bv, pv] 29)).heap.size = W.heap.size + 1 by simp] at this
set_option maxHeartbeats 12800000 in
theorem with_c {w0 w : World} {bv pv dv : Value} {b : Bdl} {q : Nat} {d : List UInt8} (h : RdBd w0 bv pv b) (k0 : KpN w0 w) (hsz : bdSize b + d.length ≤ 10000000) (hq : q < b.bl.length) (hd : RdB w dv d) :
    Calls Try.prog 68 #[bdV b bv pv, .int .i64 (q : Int), dv] w (WithP b q d w0 w dv) := by
  have hbl := (bdSize_len b).1
  have hns : bdSize (newB b q d) ≤ 10000000 := by have := newB_size b q d; omega
  obtain ⟨N, hN⟩ : ∃ n, b.bl.length = n := ⟨_, rfl⟩
  have hf := h.bl.form
  rw [hN] at hf hbl
  obtain ⟨bA, bc, rfl, hbc⟩ := hf
  obtain ⟨pA, pc, rfl, -⟩ := h.pl.form
  obtain ⟨dA, dc, rfl, -⟩ := hd.form
  have hnb : N ≤ 2500000 := by omega
  have hqN : q < N := by omega
  have hqi : (q : Int) < (N : Int) := by omega
  obtain ⟨w2, hw2, hx2, hr2, k2, hz2⟩ := rbundle_box2 w b (.slice bA N bc) (.slice pA b.pl.length pc)
  have x10 := hx2.at_ 10 rfl
  obtain ⟨ls, hls, hrd, heach⟩ := sl_rows h.bl
  have hll : ls.length = N := by rw [← hN, ← hls, List.length_map]
  rw [hll] at hrd
  have h1s : ∀ u ∈ blCs ls, u.oneCell' = true := fun u hu => by
    obtain ⟨p, hp, hu⟩ := List.mem_flatMap.1 hu
    obtain ⟨A1, c1, he1, -⟩ := (heach p hp).1.form
    simp [blC] at hu
    rcases hu with rfl | rfl | rfl | rfl
    · rfl
    · rfl
    · rfl
    · rw [he1]; rfl
  obtain ⟨v3, w3, r3, o3, k3, -⟩ := run_app (P := Try.prog) w2 (t := 26) (ty := 26) Try.underlying26 rblkInfo rfl (by omega) (OwC.nil w2 40 4 (fun _ => False)) (hrd.keepN (k0.thenN k2)) h1s (by omega) (by omega)
  rw [Nat.zero_add, List.nil_append] at o3
  have k3 : KpN w2 w3 := k3.mono (fun i _ e => by simp [Value.ownBlock] at e)
  obtain ⟨g, cap, rfl, hFg, hcap⟩ := o3.form (by omega)
  have hg : w2.heap.size ≤ g ∧ g < w3.heap.size := by
    rcases hFg with hh | hh
    · exact hh.elim
    · exact hh
  have hqs : (blCs ls)[q * 4 + 3]? = some ls[q].1 := by rw [blCs_get ls q (by omega) 3 (by omega)]; rfl
  obtain ⟨zv, hzv⟩ : ∃ z, ls[q].1 = z := ⟨_, rfl⟩
  rw [hzv] at hqs
  have c3 : w3.cell? ⟨g, q * 4 + 3, none⟩ = some zv := by
    have := World.ownsRow.cells o3.own (g := g) rfl _ _ hqs
    rwa [add_plain'] at this
  have f3 : w3.frozen? ⟨g, q * 4 + 3, none⟩ = false := World.ownsRow.frozenAt o3.own _
  have k4g : Kp (fun k => k = g) w3 (w3.setCell ⟨g, q * 4 + 3, none⟩ (.slice dA d.length dc)) := kp1_set3 _ _ _
  have o4r : OwC (w3.setCell ⟨g, q * 4 + 3, none⟩ (.slice dA d.length dc)) 40 4 (fun k => False ∨ Iv w2.heap.size w3.heap.size k) (.slice (some ⟨g, 0, none⟩) N cap) N ((blCs ls).set (q * 4 + 3) (.slice dA d.length dc)) := ⟨(o3.own.stored _ _).1, o3.fit⟩
  obtain ⟨w4, hw4⟩ : ∃ W, w3.setCell ⟨g, q * 4 + 3, none⟩ (.slice dA d.length dc) = W := ⟨_, rfl⟩
  rw [hw4] at k4g o4r
  have kw4 : KpN w w4 := (k2.thenN k3).fresh k4g (fun i e => by omega)
  have hz3 := k3.size
  have hz4 := k4g.size
  have hRo : RoBl w4 40 (fun i => w2.heap.size ≤ i) (.slice (some ⟨g, 0, none⟩) N cap) (ls.set q (.slice dA d.length dc, { ls[q].2 with da := d })) := by
    refine ⟨?_, fun p hp => ?_⟩
    · have e1 := blCs_set ls q (.slice dA d.length dc) d (by omega)
      have hl2 : (ls.set q (Value.slice dA d.length dc, { ls[q].2 with da := d })).length = N := by rw [List.length_set, hll]
      rw [← e1, hl2]
      exact o4r.wide (fun i hi hh => by
        rcases hh with hh | hh
        · exact hh.elim
        · exact hh.1)
    · rcases List.mem_or_eq_of_mem_set hp with hp | rfl
      · exact ⟨(heach p hp).1.keepN (k0.thenN kw4), (heach p hp).2⟩
      · exact ⟨hd.keepN kw4, (heach _ (List.getElem_mem (by omega))).2⟩
  have hsl := hRo.sl
  have hib : q < b.bl.length := hq
  have hnew : (ls.set q (Value.slice dA d.length dc, { ls[q].2 with da := d })).map Prod.snd = newL b.bl q d := by
    rw [newL_eq _ _ _ hib, List.map_set, hls]
    have : b.bl[q] = ls[q].2 := by simp [← hls]
    rw [this]
  rw [hnew] at hsl
  have hx4 := (hx2.keep (by omega) k3 (fun x => x)).keep (by omega) k4g (fun e => by omega)
  have hr4 := (hr2.keep (by omega) k3 (fun x => x)).keep (by omega) k4g (fun e => by omega)
  have b10 := hx4.at_ 10 rfl
  have bf10 := hx4.2 10
  have hx5 := hx4.set 10 (.slice (some ⟨g, 0, none⟩) N cap) (by simp)
  have k5B : Kp (fun k => k = w.heap.size) w4 (w4.setCell ⟨w.heap.size, 10, none⟩ (.slice (some ⟨g, 0, none⟩) N cap)) := kp1_set3 _ _ _
  obtain ⟨w5, hw5⟩ : ∃ W, w4.setCell ⟨w.heap.size, 10, none⟩ (.slice (some ⟨g, 0, none⟩) N cap) = W := ⟨_, rfl⟩
  rw [hw5] at hx5 k5B
  have kw5 : KpN w w5 := kw4.fresh k5B (fun i e => by omega)
  have hz5 := k5B.size
  have hr5 := hr4.keep (by omega) k5B (fun e => by omega)
  have hx5' : CellsAt w5 w.heap.size (bdC (newB b q d) (.slice (some ⟨g, 0, none⟩) N cap) (.slice pA b.pl.length pc)) := hx5
  have hmk : ∀ W, KpN w0 W → Kp (fun i => i < w2.heap.size) w5 W → RdB W (.slice dA d.length dc) d → RdBd W (.slice (some ⟨g, 0, none⟩) N cap) (.slice pA b.pl.length pc) (newB b q d) := fun W kN kS hdW => by
    have hR : RoBl W 40 (fun i => w2.heap.size ≤ i) (.slice (some ⟨g, 0, none⟩) N cap) (ls.set q (.slice dA d.length dc, { ls[q].2 with da := d })) := by
      refine ⟨(hRo.row.keep k5B (fun i hi e => by omega)).keep kS (fun i hi e => by omega), fun p hp => ?_⟩
      rcases List.mem_or_eq_of_mem_set hp with hp | rfl
      · exact ⟨(heach p hp).1.keepN kN, (heach p hp).2⟩
      · exact ⟨hdW, (heach _ (List.getElem_mem (by omega))).2⟩
    have hs := hR.sl
    rw [hnew] at hs
    exact ⟨h.ok, hs, h.pl.keepN kN⟩
  have hrd5 := hmk w5 (k0.thenN kw5) (Kp.refl _ _) (hd.keepN kw5)
  have hld5 := rbd_loadN hx5' (by omega) (Kp.refl _ _)
  have hV := rvalid_c hrd5 hns
  obtain ⟨NB, hNB⟩ : ∃ z, newB b q d = z := ⟨_, rfl⟩
  obtain ⟨E, hE⟩ : ∃ z, valE NB = z := ⟨_, rfl⟩
  rw [hNB, hE] at hV
  rw [hNB] at hrd5 hmk
  have hQ : WithP b q d w0 w (.slice dA d.length dc) = fun e w' => ∃ bv pv, e = .returned (.tuple #[bdV (if E = 0 then NB else noBdl) bv pv, .int .i64 E]) ∧ (∀ W, KpN w0 W → Kp (fun i => i < w.heap.size) w' W → RdB W (.slice dA d.length dc) d → RdBd W bv pv (if E = 0 then NB else noBdl)) ∧ KpN w w' := by
    funext e w'
    unfold WithP
    rw [hNB, hE]
  obtain ⟨Q, hQQ⟩ : ∃ Q, WithP b q d w0 w (.slice dA d.length dc) = Q := ⟨_, rfl⟩
  rw [hQQ]
  have HQ := Lib.hid (hQQ.symm.trans hQ)
  have HN := Lib.hid hNB
  have HW := Lib.hid (And.intro hw2 (And.intro r3 (And.intro hw4 (And.intro hw5 (And.intro hld5 (And.intro hx5 (And.intro hr5 (And.intro hmk (And.intro kw5 (show w.heap.size + 2 ≤ w5.heap.size by omega))))))))))
  have hV' : Calls Try.prog 28 #[bdV b (.slice (some ⟨g, 0, none⟩) N cap) (.slice pA b.pl.length pc)] w5 fun e w' => e = .returned (.int .i64 E) ∧ KpN w5 w' := by
    rw [← hNB] at hV
    exact hV
  have hz2' := Lib.hid hz2
  clear hzv hw2 hx2 hr2 k2 hz2 hls hrd heach hll h1s o3 k3 hFg hg hqs k4g o4r hw4 kw4 hz3 hz4 hRo hsl hib hnew hx4 hr4 hx5 k5B hw5 kw5 hz5 hr5 hx5' hmk hrd5 hld5 hV hNB hE hQ hQQ r3 h hsz hq hd hns k0 hN hbl hbc hcap
  go_enter Try.func68, Try.ntmps68
  go_wp2_with (first
    | ((with_reducible show wpList _ _ _ _ _ (World.alloc (World.alloc w _) _)); rw [HW.out.1])
    | ((with_reducible show wpList _ _ _ (Oper.mk (some 13) _ _ _ _ _ :: _) _ _); refine app_op HW.out.2.1 rfl rfl ?_)
    | ((with_reducible show wpList _ _ _ _ _ (World.setCell w3 _ _)); rw [HW.out.2.2.1])
    | ((with_reducible show wpList _ _ _ _ _ (World.setCell w4 _ _)); rw [HW.out.2.2.2.1])
    | ((with_reducible show wpList _ _ _ (Oper.mk (some 21) _ _ _ _ _ :: _) _ _); refine wpl_val rfl (run_load_opv HW.out.2.2.2.2.1 rfl) ?_)
    | fail)
  refine hV'.mono ?_
  rintro e w6 ⟨rfl, k6⟩
  clear hV' x10 c3 f3 b10 bf10
  have hzw := HW.out.2.2.2.2.2.2.2.2.2
  have hr6 := HW.out.2.2.2.2.2.2.1.keep (by omega) k6 (fun x => x)
  by_cases h0 : E = 0
  · subst h0
    have hld6 := rbd_loadN (b := b) HW.out.2.2.2.2.2.1 (by omega) k6
    obtain ⟨wf, hst, hrf, kf, hzf⟩ := box_store hr6 29 #[n64 b.fl, n64 b.e0, n64 b.e1, n64 b.e2, n64 b.e3, n64 b.e4, n64 b.e5, n64 b.ti, n64 b.sq, n64 b.li, .slice (some ⟨g, 0, none⟩) N cap, .slice pA b.pl.length pc] rfl (by kernel_rfl) (by kernel_rfl)
    have hfin : Q (.returned (.tuple #[bdV b (.slice (some ⟨g, 0, none⟩) N cap) (.slice pA b.pl.length pc), .int .i64 0])) wf := by
      rw [HQ.out, if_pos rfl]
      have kk := (HW.out.2.2.2.2.2.2.2.2.1.thenN k6).fresh kf (fun i e => by omega)
      refine ⟨.slice (some ⟨g, 0, none⟩) N cap, .slice pA b.pl.length pc, by rw [← HN.out]; rfl, ?_, kk⟩
      intro W kN kS hdW
      exact HW.out.2.2.2.2.2.2.2.1 W kN ((k6.trans kf (U := fun i => i < w2.heap.size) (fun _ _ x => x.elim) (fun i _ e => by have := hz2'.out; omega)).trans kS (fun _ _ x => x) (fun i _ e => by have := hz2'.out; omega)) hdW
    have HF := Lib.hid (And.intro hst (And.intro hrf (And.intro hld6 hfin)))
    clear hst hrf kf hzf hfin hld6 hr6 k6 hzw
    go_wp2_with (first
      | ((with_reducible show wpList _ _ _ (Oper.mk (some 27) _ _ _ _ _ :: _) _ _); refine wpl_val rfl (run_load_opv HF.out.2.2.1 rfl) ?_)
      | ((with_reducible show wpList _ _ _ (Oper.mk _ (Op.store 29 _ _) _ _ _ _ :: _) _ _); refine wpl_skip rfl (run_store_op HF.out.1 rfl rfl) ?_)
      | fail)
    (try simp only [Exit.inBlock, Exit.then])
    refine bodyPost_ret (results_cell_tmp_at rfl _ _ rfl HF.out.2.1.1 Try.underlying29 rfl (by kernel_rfl)) rfl ?_
    exact HF.out.2.2.2
  · have hE1 : (E == 0) = false := by simp [h0]
    have hE2 : (E != 0) = true := by simp [h0]
    obtain ⟨wf, hst, hrf, kf, hzf⟩ := box_store hr6 29 zeros12 rfl (by kernel_rfl) (by kernel_rfl)
    have hfin : Q (.returned (.tuple #[.agg zeros12, .int .i64 E])) wf := by
      rw [HQ.out, if_neg h0]
      exact ⟨.slice none 0 0, .slice none 0 0, rfl, (fun W _ _ _ => RdBd.ofNone _), (HW.out.2.2.2.2.2.2.2.2.1.thenN k6).fresh kf (fun i e => by omega)⟩
    have HF := Lib.hid (And.intro hst (And.intro hrf hfin))
    clear hst hrf kf hzf hfin hr6 k6 hzw h0
    go_wp2_with (first
      | ((with_reducible show wpList _ _ _ (Oper.mk _ (Op.store 29 _ _) _ _ _ _ :: _) _ _); refine wpl_skip rfl (run_store_op HF.out.1 rfl rfl) ?_)
      | fail)
    (try simp only [Exit.inBlock, Exit.then])
    refine bodyPost_ret (results_cell_tmp_at rfl _ _ rfl HF.out.2.1.1 Try.underlying29 rfl (by kernel_rfl)) rfl ?_
    exact HF.out.2.2
end Go.Proofs.Yteokkpmndfekoaa
