/- The document's Hop. -/
import Derived.Test.YteokkpmndfekoaaGP
import Derived.Test.YteokkpmndfekoaaBG
namespace Go.Proofs.Yteokkpmndfekoaa
open Go Go.RowKit Go.ChangeShapes Go.WideShapes Go.ChangeAt
set_option maxRecDepth 100000

theorem fst_of {b : Bdl} (hg : good b = true) {k : Nat} (hk : known k = true) {q : Nat} (hq : q < b.bl.length) (h : b.bl[q].ty = k) : fstK b.bl k = some q :=
  fstK_at hq (fun _ hj hjq hjk => kind_first hg hk hj hq hjk h hjq) h
theorem fst_no {l : List Blk} {k : Nat} (h : findB l k = none) : fstK l k = none := by
  refine fstK_none fun j hj e => ?_
  unfold findB at h
  rw [List.find?_eq_none] at h
  exact h _ (List.getElem_mem hj) (by simpa using e)
theorem find_ty {l : List Blk} {k : Nat} {x : Blk} (h : findB l k = some x) : x.ty = k := by
  unfold findB at h
  simpa using List.find?_some h
theorem ch_with {b : Bdl} {k q : Nat} {bad : List UInt8 → Bool} {mk : List UInt8 → List UInt8} (h0 : valE b = 0) (hq : q < b.bl.length) (hk : b.bl[q].ty = k) (kn : known k = true) (hb : bad b.bl[q].da = false) (hh : holds k (mk b.bl[q].da) = true ∧ (mk b.bl[q].da).length ≤ 64) :
    chV b (fstK b.bl k) bad mk = (if valE (newB b q (mk b.bl[q].da)) = 0 then newB b q (mk b.bl[q].da) else noBdl, valE (newB b q (mk b.bl[q].da))) := by
  have hg := (valE_zero h0).1
  rw [fst_of hg kn hq hk]
  have hv := valE_new hq hg hh.2 (by rw [hk]; exact hh.1)
  by_cases hl : 1024 < (laid (newB b q (mk b.bl[q].da))).length
  · rw [chV_size h0 hq hb hl, hv, if_pos hl]
    rfl
  · rw [chV_ok h0 hq hb hl, hv, if_neg hl]
    rfl
def RChP (b : Bdl) (i : Option Nat) (bad : List UInt8 → Bool) (mk : List UInt8 → List UInt8) (w0 w : World) (e : Ending) (w' : World) : Prop :=
  ∃ bv pv, e = .returned (.tuple #[bdV (chV b i bad mk).1 bv pv, .int .i64 (chV b i bad mk).2]) ∧ (∀ W, KpN w0 W → Kp (fun i => i < w.heap.size) w' W → RdBd W bv pv (chV b i bad mk).1) ∧ KpN w w'
theorem RChP.fail {b : Bdl} {i : Option Nat} {bad : List UInt8 → Bool} {mk : List UInt8 → List UInt8} {w0 w w' : World} {z : Int} (h : chV b i bad mk = (noBdl, z)) (k : KpN w w') : RChP b i bad mk w0 w (.returned (.tuple #[.agg zeros12, .int .i64 z])) w' := by
  unfold RChP
  rw [h]
  exact ⟨.slice none 0 0, .slice none 0 0, rfl, (fun _ _ _ => RdBd.ofNone _), k⟩
set_option maxHeartbeats 25600000 in
theorem rhopping_c {w0 w : World} {bv pv : Value} {b : Bdl} (h0 : RdBd w0 bv pv b) (k0 : KpN w0 w) (hsz : bdSize b ≤ 10000000) : Calls Try.prog 33 #[bdV b bv pv] w (RChP b (fstK b.bl 10) hopBad hopNew w0 w) := by
  have h := h0.keepN k0
  have hbl := (bdSize_len b).1
  obtain ⟨N, hN⟩ : ∃ n, b.bl.length = n := ⟨_, rfl⟩
  have hf := h.bl.form
  rw [hN] at hf hbl
  obtain ⟨bA, bc, rfl, hbc⟩ := hf
  obtain ⟨pA, pc, rfl, -⟩ := h.pl.form
  have hnb : N ≤ 2500000 := by omega
  obtain ⟨Q, hQQ⟩ : ∃ Q, RChP b (fstK b.bl 10) hopBad hopNew w0 w = Q := ⟨_, rfl⟩
  rw [hQQ]
  have HQ := Lib.hid (show ∀ e w', RChP b (fstK b.bl 10) hopBad hopNew w0 w e w' → Q e w' by rw [hQQ]; exact fun _ _ x => x)
  clear hQQ
  obtain ⟨w2, hw2, hx2, hr2, k2, hz2⟩ := rbundle_box2 w b (.slice bA N bc) (.slice pA b.pl.length pc)
  have hl2 := rbd_loadN hx2 (by omega) (Kp.refl _ _)
  have hV := rvalid_c (h.keepN k2) hsz
  obtain ⟨E, hE⟩ : ∃ z, valE b = z := ⟨_, rfl⟩
  rw [hE] at hV
  have HE := Lib.hid (And.intro hE hN)
  have HH := Lib.hid (And.intro hw2 (And.intro hl2 (And.intro hx2 (And.intro hr2 (And.intro k2 (And.intro hz2 (And.intro h hsz)))))))
  have HK := Lib.hid (And.intro h0 k0)
  clear h0 k0 hw2 hl2 hx2 hr2 k2 hz2 h hsz hE hN hbl hbc
  go_enter Try.func33, Try.ntmps33
  go_wp2_with (first
    | ((with_reducible show wpList _ _ _ _ _ (World.alloc (World.alloc w _) _)); rw [HH.out.1])
    | ((with_reducible show wpList _ _ _ (Oper.mk _ (Op.load 29 _) _ _ _ _ :: _) _ w2); refine wpl_val rfl (run_load_opv HH.out.2.1 rfl) ?_)
    | fail)
  refine hV.mono ?_
  rintro e w3 ⟨rfl, k3⟩
  clear hV
  have hz2 := HH.out.2.2.2.2.2.1
  by_cases h0 : E = 0
  · subst h0
    have hz3 := k3.size
    have hl3 := rbd_loadN HH.out.2.2.1 (by omega) k3
    have hP : Calls Try.prog 40 #[bdV b (.slice bA N bc) (.slice pA b.pl.length pc), .int .u64 10] w3 (PlaceP b.bl 10 w3) := place_c (k := 10) (HH.out.2.2.2.2.2.2.1.keepN (HH.out.2.2.2.2.1.thenN k3)) HH.out.2.2.2.2.2.2.2 (by unfold U64; omega)
    have H3 := Lib.hid (And.intro hl3 k3)
    clear hl3 k3
    go_wp2_with (first
      | ((with_reducible show wpList _ _ _ (Oper.mk _ (Op.load 29 _) _ _ _ _ :: _) _ w3); refine wpl_val rfl (run_load_opv H3.out.1 rfl) ?_)
      | fail)
    refine hP.mono ?_
    intro e w4 hq
    unfold PlaceP at hq
    obtain ⟨hq, k4⟩ := hq
    clear hP
    have hz4 := k4.size
    have k24 := H3.out.2.thenN k4
    rcases hq with ⟨rfl, hnone⟩ | ⟨q, hql, rfl, hsome⟩
    · have hrX := HH.out.2.2.2.1.keep (by omega) k24 (fun x => x)
      have kwX := HH.out.2.2.2.2.1.thenN k24
      obtain ⟨wf, hst, hrf, kf, hzf⟩ := box_store hrX 29 zeros12 rfl (by kernel_rfl) (by kernel_rfl)
      have hfin := HQ.out _ _ (RChP.fail (z := 4) (by rw [fst_no hnone]; exact chV_none HE.out.1) (kwX.fresh kf (fun i e => by omega)))
      have HF := Lib.hid (And.intro hst (And.intro hrf hfin))
      clear hst hrf kf hzf hfin hrX kwX hnone k24 k4
      go_wp2_with (first
        | ((with_reducible show wpList _ _ _ (Oper.mk _ (Op.store 29 _ _) _ _ _ _ :: _) _ _); refine wpl_skip rfl (run_store_op HF.out.1 rfl rfl) ?_)
        | fail)
      (try simp only [Exit.inBlock, Exit.then])
      refine bodyPost_ret (results_cell_tmp_at rfl _ _ rfl HF.out.2.1.1 Try.underlying29 rfl (by kernel_rfl)) rfl ?_
      exact HF.out.2.2
    · have hty := find_ty hsome
      have hqN : q < N := by rw [← HE.out.2]; exact hql
      have hq0 : ¬ (q : Int) < 0 := by omega
      have hrd4 := HH.out.2.2.2.2.2.2.1.keepN (HH.out.2.2.2.2.1.thenN k24)
      obtain ⟨ad, cs, rfl, -, hrow, ⟨⟨dw, rfl, hdr⟩, hxo⟩⟩ := hrd4.bl.row q hql
      have hda := (bdSize_len b).2.2 b.bl[q] (List.getElem_mem hql)
      have hds := HH.out.2.2.2.2.2.2.2
      have hlx := bdSize_laid b HE.out.1
      obtain ⟨hg, -⟩ := valE_zero HE.out.1
      have htl := tells_at hg hql
      have hx4 := HH.out.2.2.1.keep (by omega) k24 (fun x => x)
      have x10 := hx4.at_ 10 rfl
      have hfst := fst_of hg (k := 10) (by decide) hql hty
      have hchW := fun hb hh => ch_with (bad := hopBad) (mk := hopNew) HE.out.1 hql hty (by decide) hb hh
      have hchB := fun hb => (show chV b (fstK b.bl 10) hopBad hopNew = (noBdl, 6) by rw [hfst]; exact chV_bad HE.out.1 hql hb)
      rw [hty] at htl
      obtain ⟨x, hx⟩ : ∃ x, b.bl[q] = x := ⟨_, rfl⟩
      rw [hx] at hrow hdr hda htl hchW hchB
      obtain ⟨xt, xn, xf, xd⟩ := x
      dsimp only at hrow hdr hda htl hchW hchB
      obtain ⟨dA, dc, rfl, -⟩ := hdr.form
      have c3 := hrow.fld 2 rfl
      have hTw := rtwo_c hdr (by omega)
      have hm := two_most' xd
      have hnl : hopBad xd = false → (hopNew xd).length ≤ 64 := fun hb => hopNew_len _
      have hhold : hopBad xd = false → holds 10 (hopNew xd) = true := fun hb => (hopNew_holds htl.2 hb).1
      obtain ⟨l, n, bb, hab⟩ : ∃ a b c, two xd = (a, b, c) := ⟨_, _, _, rfl⟩
      have hbadE : hopBad xd = decide (n = l) := by unfold hopBad; rw [hab]
      have hnewE : hopNew xd = sd l ++ sd (n + 1) := by unfold hopNew; rw [hab]
      rw [hbadE] at hchW hchB hnl hhold
      rw [hnewE] at hchW hnl hhold
      rw [hab] at hTw hm
      dsimp only at hTw hm
      have H4 := Lib.hid (And.intro k24 (And.intro hql (And.intro hx4 (And.intro hrd4 (And.intro hlx (And.intro hchW (And.intro hchB (And.intro hnl hhold))))))))
      clear k24 hx4 hrd4 hlx hchW hchB hnl hhold hbadE hnewE hab hfst hg htl hx hda hds hxo hdr hrow hsome hty k4
      go_wp2_with fail
      refine hTw.mono ?_
      rintro e w5 ⟨rfl, k5⟩
      clear hTw x10 c3
      have hz5 := k5.size
      have k25 := H4.out.1.thenN k5
      have kw5 := HH.out.2.2.2.2.1.thenN k25
      have hx5 := H4.out.2.2.1.keep (by omega) k5 (fun x => x)
      have hr5 := HH.out.2.2.2.1.keep (by omega) k25 (fun x => x)
      have hrd5 := H4.out.2.2.2.1.keepN k5
      by_cases hbad : n = l
      · subst hbad
        have hke : ((n : Int) == (n : Int)) = true := by simp
        have hrX := hr5
        have kwX := kw5
        obtain ⟨wf, hst, hrf, kf, hzf⟩ := box_store hrX 29 zeros12 rfl (by kernel_rfl) (by kernel_rfl)
        have hfin := HQ.out _ _ (RChP.fail (z := 6) (H4.out.2.2.2.2.2.2.1 (by simp)) (kwX.fresh kf (fun i e => by omega)))
        have HF := Lib.hid (And.intro hst (And.intro hrf hfin))
        clear hst hrf kf hzf hfin hrX kwX k25 kw5 hx5 hr5 hrd5 k5
        go_wp2_with (first
          | ((with_reducible show wpList _ _ _ (Oper.mk _ (Op.store 29 _ _) _ _ _ _ :: _) _ _); refine wpl_skip rfl (run_store_op HF.out.1 rfl rfl) ?_)
          | fail)
        (try simp only [Exit.inBlock, Exit.then])
        refine bodyPost_ret (results_cell_tmp_at rfl _ _ rfl HF.out.2.1.1 Try.underlying29 rfl (by kernel_rfl)) rfl ?_
        exact HF.out.2.2
      · have hke : ((n : Int) == (l : Int)) = false := by simp; omega
        have hD1 := digits_c l w5 (by omega)
        have H5 := Lib.hid (And.intro kw5 (And.intro hx5 (And.intro hr5 (And.intro hrd5 hz5))))
        have HBAD := Lib.hid (show decide (n = l) = false by simpa using hbad)
        have HM := Lib.hid hm
        clear k25 kw5 hx5 hr5 hrd5 k5 hbad
        go_wp2_with fail
        refine hD1.mono ?_
        rintro e w6 ⟨u, rfl, ou, k6⟩
        clear hD1
        obtain ⟨uA, uc, rfl, -⟩ := ou.readsB.form
        have hz6 := k6.size
        have hll := sd_length l (by have := HM.out.1; omega)
        have HL := Lib.hid (And.intro ou (And.intro k6 hll))
        clear ou k6 hll
        obtain ⟨RE, hRE⟩ : ∃ z, valE (newB b q (sd l ++ sd (n + 1))) = z := ⟨_, rfl⟩
        obtain ⟨RB, hRB⟩ : ∃ z, (if RE = 0 then newB b q (sd l ++ sd (n + 1)) else noBdl) = z := ⟨_, rfl⟩
        have HR := Lib.hid (And.intro hRB (And.intro hRE trivial))
        clear hRE hRB
        go_wp2_with fail
        refine rg_begin 10 (fun i => w2.heap.size ≤ i) (by kernel_rfl) (fun w7 d7 => ?_)
        have hwr : IntKind.u64.wrap ((n : Int) + 1) = (n : Int) + 1 := by
          have := HM.out.2
          unfold IntKind.wrap
          simp [IntKind.bits, IntKind.signed]
          omega
        have hx7 := (H5.out.2.1.keep (by omega) HL.out.2.1 (fun x => x)).keep (by omega) d7 (fun x => x)
        have hB7 : w.heap.size < w7.heap.size := by have := d7.size; omega
        have hrd7 := (H5.out.2.2.2.1.keepN HL.out.2.1).keepN d7
        have hr7 := (H5.out.2.2.1.keep (by omega) HL.out.2.1 (fun x => x)).keep (by omega) d7 (fun x => x)
        have kw7 := (H5.out.1.thenN HL.out.2.1).thenN d7
        have hou := HL.out.1.keepN d7
        have hz7 := d7.size
        refine rg_read 0 (d := (some 38)) (v := bdV b (.slice (some ad) N bc) (.slice pA b.pl.length pc)) (by decide) (by kernel_rfl) (by kernel_rfl) rfl rfl (by kernel_rfl) (by kernel_rfl) (by kernel_rfl) (fun _ _ _ h => h) rfl (fun W hW => by exact run_load_op (hx7.keep hB7 hW (fun x => by omega)).1 rfl Try.underlying29 rfl (by kernel_rfl)) ?_
        conv => arg 8; simp only [Act.put, List.setIfInBounds_toArray, List.set_cons_zero, List.set_cons_succ]
        refine rg_take 1 (d := (some 39)) (v := .int .i64 (q : Int)) (by decide) rfl rfl (by kernel_rfl) (by kernel_rfl) (by kernel_rfl) (fun _ _ _ h => h) rfl (fun W => rfl) ?_
        conv => arg 8; simp only [Act.put, List.setIfInBounds_toArray, List.set_cons_zero, List.set_cons_succ]
        refine rg_take 2 (d := (some 40)) (v := .slice uA (sd l).length uc) (by decide) rfl rfl (by kernel_rfl) (by kernel_rfl) (by kernel_rfl) (fun _ _ _ h => h) rfl (fun W => rfl) ?_
        conv => arg 8; simp only [Act.put, List.setIfInBounds_toArray, List.set_cons_zero, List.set_cons_succ]
        refine rg_take 3 (d := (some 41)) (v := n64 n) (by decide) rfl rfl (by kernel_rfl) (by kernel_rfl) (by kernel_rfl) (fun _ _ _ h => h) rfl (fun W => rfl) ?_
        conv => arg 8; simp only [Act.put, List.setIfInBounds_toArray, List.set_cons_zero, List.set_cons_succ]
        refine rg_take 4 (d := (some 42)) (v := n64 (n + 1)) (by decide) rfl rfl (by kernel_rfl) (by kernel_rfl) (by kernel_rfl) (fun _ _ _ h => h) rfl (fun W => by go_simp) ?_
        conv => arg 8; simp only [Act.put, List.setIfInBounds_toArray, List.set_cons_zero, List.set_cons_succ]
        refine rg_call 5 (d := (some 43)) (by kernel_rfl) (digits_c (n + 1) w7 (by have := HM.out.2; omega)) rfl rfl (by kernel_rfl) rfl rfl ?_
        rintro e w8 ⟨y, rfl, oy, k8⟩
        refine ⟨_, rfl, k8.mono (fun _ _ x => x.elim), ?_⟩
        conv => arg 8; simp only [Act.put, List.setIfInBounds_toArray, List.set_cons_zero, List.set_cons_succ]
        obtain ⟨yA, yc, rfl, -⟩ := oy.readsB.form
        have hz8 := k8.size
        have hyl := sd_length (n + 1) (by have := HM.out.2; omega)
        obtain ⟨v9, w9, r9, o9, k9, -⟩ := run_appB (P := Try.prog) w8 (t := 27) (ty := 27) Try.underlying27 u8info (hou.keepN k8) oy.readsB (by have := HL.out.2.2; omega)
        have hz9 := k9.size
        have k79 : KpN w w9 := (kw7.thenN k8).fresh k9 (fun i hi => by have := (HL.out.1.fit i hi).1; omega)
        obtain ⟨vA, vc, rfl, -⟩ := o9.readsB.form
        have hWc : Calls Try.prog 68 #[bdV b (.slice (some ad) N bc) (.slice pA b.pl.length pc), .int .i64 (q : Int), .slice vA (sd l ++ sd (n + 1)).length vc] w9 fun e w' => ∃ bv pv, e = .returned (.tuple #[bdV RB bv pv, .int .i64 RE]) ∧ (∀ W, KpN w0 W → Kp (fun i => i < w9.heap.size) w' W → RdB W (.slice vA (sd l ++ sd (n + 1)).length vc) (sd l ++ sd (n + 1)) → RdBd W bv pv RB) ∧ KpN w9 w' := by
          have := with_c HK.out.1 (HK.out.2.thenN k79) (by have := H4.out.2.2.2.2.1; have := H4.out.2.2.2.2.2.2.2.1 HBAD.out; omega) H4.out.2.1 o9.readsB
          unfold WithP at this
          rw [HR.out.2.1] at this
          rw [HR.out.1] at this
          exact this
        refine rg_onlyW 6 (w' := w9) (d := (some 44)) (v := .slice vA (sd l ++ sd (n + 1)).length vc) rfl rfl (by kernel_rfl) rfl (run_append_op r9 rfl rfl) (k9.mono (fun i _ hi => by have := (HL.out.1.fit i hi).1; omega)) ?_
        conv => arg 8; simp only [Act.put, List.setIfInBounds_toArray, List.set_cons_zero, List.set_cons_succ]
        refine rg_call 7 (d := (some 45)) (by kernel_rfl) (hWc) rfl rfl (by kernel_rfl) rfl rfl ?_
        rintro e wx ⟨tv, sv, rfl, hrdx, kx⟩
        refine ⟨_, rfl, kx.mono (fun _ _ x => x.elim), ?_⟩
        conv => arg 8; simp only [Act.put, List.setIfInBounds_toArray, List.set_cons_zero, List.set_cons_succ]
        have hrdx0 := hrdx wx (HK.out.2.thenN (k79.thenN kx)) (Kp.refl _ _) (o9.readsB.keepN kx)
        obtain ⟨tA, tc, rfl, -⟩ := hrdx0.bl.form
        obtain ⟨sA, sc, rfl, -⟩ := hrdx0.pl.form
        have hr9 := ((hr7.keep (by omega) k8 (fun x => x)).keep (by omega) k9 (fun hi => by have := (HL.out.1.fit _ hi).1; omega)).keep (by omega) kx (fun x => x)
        obtain ⟨wf, hst, hrf, kf, hzf⟩ := box_store hr9 29 #[n64 RB.fl, n64 RB.e0, n64 RB.e1, n64 RB.e2, n64 RB.e3, n64 RB.e4, n64 RB.e5, n64 RB.ti, n64 RB.sq, n64 RB.li, .slice tA RB.bl.length tc, .slice sA RB.pl.length sc] rfl (by kernel_rfl) (by kernel_rfl)
        refine rg_take 8 (d := (some 46)) (v := bdV RB (.slice tA RB.bl.length tc) (.slice sA RB.pl.length sc)) (by decide) rfl rfl (by kernel_rfl) (by kernel_rfl) (by kernel_rfl) (fun _ _ _ h => h) rfl (fun W => by go_simp) ?_
        conv => arg 8; simp only [Act.put, List.setIfInBounds_toArray, List.set_cons_zero, List.set_cons_succ]
        refine rg_take 9 (d := (some 47)) (v := .int .i64 RE) (by decide) rfl rfl (by kernel_rfl) (by kernel_rfl) (by kernel_rfl) (fun _ _ _ h => h) rfl (fun W => by go_simp) ?_
        conv => arg 8; simp only [Act.put, List.setIfInBounds_toArray, List.set_cons_zero, List.set_cons_succ]
        refine rg_lastS (G := fun _ => True) (wf) (d := none) rfl rfl (by kernel_rfl) rfl (run_store_op hst rfl rfl) (by kernel_rfl) ?_
        conv => arg 8; simp only [Act.put, List.setIfInBounds_toArray, List.set_cons_zero, List.set_cons_succ]
        refine rg_take 11 (d := (some 3)) (v := .int .i64 RE) (by decide) rfl rfl (by kernel_rfl) (by kernel_rfl) (by kernel_rfl) (fun _ _ _ h => h) rfl (fun W => rfl) ?_
        conv => arg 8; simp only [Act.put, List.setIfInBounds_toArray, List.set_cons_zero, List.set_cons_succ]
        refine rg_done (by kernel_rfl) ?_
        have hfin : Q (.returned (.tuple #[bdV RB (.slice tA RB.bl.length tc) (.slice sA RB.pl.length sc), .int .i64 RE])) wf := by
          refine HQ.out _ _ ?_
          unfold RChP
          rw [H4.out.2.2.2.2.2.1 HBAD.out ⟨H4.out.2.2.2.2.2.2.2.2 HBAD.out, H4.out.2.2.2.2.2.2.2.1 HBAD.out⟩, HR.out.2.1, HR.out.1]
          have kwf := (k79.thenN kx).fresh kf (fun i e => by omega)
          have hzx := kx.size
          refine ⟨_, _, rfl, fun W kN kS => hrdx W kN ((kf.mono (fun i _ e => by omega)).trans kS (fun _ _ x => x) (fun i _ e => by omega)) (RdB.keep (o9.readsB.keepN kx) (kf.trans kS (U := fun i => i < w2.heap.size) (fun i _ e => by omega) (fun i _ e => by omega)) (fun i hi e => ?_)), kwf⟩
          have := o9.fit i hi
          rcases this with hh | hh
          · have := hh.1; omega
          · have := hh.1; omega
        have HF := Lib.hid (And.intro hrf.1 hfin)
        clear hst hrf kf hzf hfin hr9 kx hrdx hrdx0 hWc r9 o9 k79 k9 hou hz7 kw7 hr7 hrd7 hB7 hx7 d7 hwr k8 oy hz8 hyl hz9
        go_wp2_with fail
        (try simp only [Exit.inBlock, Exit.then])
        refine bodyPost_ret (results_cell_tmp_at rfl _ _ rfl HF.out.1 Try.underlying29 rfl (by kernel_rfl)) rfl ?_
        exact HF.out.2
  · have hE1 : (E == 0) = false := by simp [h0]
    have hE2 : (E != 0) = true := by simp [h0]
    have hrX := HH.out.2.2.2.1.keep (by omega) k3 (fun x => x)
    have kwX := HH.out.2.2.2.2.1.thenN k3
    obtain ⟨wf, hst, hrf, kf, hzf⟩ := box_store hrX 29 zeros12 rfl (by kernel_rfl) (by kernel_rfl)
    have hfin := HQ.out _ _ (RChP.fail (z := E) (by rw [← HE.out.1]; exact chV_val (by rw [HE.out.1]; exact h0)) (kwX.fresh kf (fun i e => by omega)))
    have HF := Lib.hid (And.intro hst (And.intro hrf hfin))
    clear hst hrf kf hzf hfin hrX kwX k3 h0
    go_wp2_with (first
      | ((with_reducible show wpList _ _ _ (Oper.mk _ (Op.store 29 _ _) _ _ _ _ :: _) _ _); refine wpl_skip rfl (run_store_op HF.out.1 rfl rfl) ?_)
      | fail)
    (try simp only [Exit.inBlock, Exit.then])
    refine bodyPost_ret (results_cell_tmp_at rfl _ _ rfl HF.out.2.1.1 Try.underlying29 rfl (by kernel_rfl)) rfl ?_
    exact HF.out.2.2
set_option maxHeartbeats 25600000 in
theorem raging_c {w0 w : World} {bv pv : Value} {b : Bdl} {t : Nat} (ht : U64 t) (h0 : RdBd w0 bv pv b) (k0 : KpN w0 w) (hsz : bdSize b ≤ 10000000) : Calls Try.prog 35 #[bdV b bv pv, n64 t] w (RChP b (fstK b.bl 7) (ageBad t) (ageNew t) w0 w) := by
  have h := h0.keepN k0
  have hbl := (bdSize_len b).1
  obtain ⟨N, hN⟩ : ∃ n, b.bl.length = n := ⟨_, rfl⟩
  have hf := h.bl.form
  rw [hN] at hf hbl
  obtain ⟨bA, bc, rfl, hbc⟩ := hf
  obtain ⟨pA, pc, rfl, -⟩ := h.pl.form
  have hnb : N ≤ 2500000 := by omega
  obtain ⟨Q, hQQ⟩ : ∃ Q, RChP b (fstK b.bl 7) (ageBad t) (ageNew t) w0 w = Q := ⟨_, rfl⟩
  rw [hQQ]
  have HQ := Lib.hid (show ∀ e w', RChP b (fstK b.bl 7) (ageBad t) (ageNew t) w0 w e w' → Q e w' by rw [hQQ]; exact fun _ _ x => x)
  clear hQQ
  obtain ⟨w2, hw2, hx2, hr2, k2, hz2⟩ := rbundle_box2 w b (.slice bA N bc) (.slice pA b.pl.length pc)
  have hl2 := rbd_loadN hx2 (by omega) (Kp.refl _ _)
  have hV := rvalid_c (h.keepN k2) hsz
  obtain ⟨E, hE⟩ : ∃ z, valE b = z := ⟨_, rfl⟩
  rw [hE] at hV
  have HE := Lib.hid (And.intro hE hN)
  have HH := Lib.hid (And.intro hw2 (And.intro hl2 (And.intro hx2 (And.intro hr2 (And.intro k2 (And.intro hz2 (And.intro h hsz)))))))
  unfold U64 at ht
  have HK := Lib.hid (And.intro h0 k0)
  clear h0 k0 hw2 hl2 hx2 hr2 k2 hz2 h hsz hE hN hbl hbc
  go_enter Try.func35, Try.ntmps35
  go_wp2_with (first
    | ((with_reducible show wpList _ _ _ _ _ (World.alloc (World.alloc w _) _)); rw [HH.out.1])
    | ((with_reducible show wpList _ _ _ (Oper.mk _ (Op.load 29 _) _ _ _ _ :: _) _ w2); refine wpl_val rfl (run_load_opv HH.out.2.1 rfl) ?_)
    | fail)
  refine hV.mono ?_
  rintro e w3 ⟨rfl, k3⟩
  clear hV
  have hz2 := HH.out.2.2.2.2.2.1
  by_cases h0 : E = 0
  · subst h0
    have hz3 := k3.size
    have hl3 := rbd_loadN HH.out.2.2.1 (by omega) k3
    have hP : Calls Try.prog 40 #[bdV b (.slice bA N bc) (.slice pA b.pl.length pc), .int .u64 7] w3 (PlaceP b.bl 7 w3) := place_c (k := 7) (HH.out.2.2.2.2.2.2.1.keepN (HH.out.2.2.2.2.1.thenN k3)) HH.out.2.2.2.2.2.2.2 (by unfold U64; omega)
    have H3 := Lib.hid (And.intro hl3 k3)
    clear hl3 k3
    go_wp2_with (first
      | ((with_reducible show wpList _ _ _ (Oper.mk _ (Op.load 29 _) _ _ _ _ :: _) _ w3); refine wpl_val rfl (run_load_opv H3.out.1 rfl) ?_)
      | fail)
    refine hP.mono ?_
    intro e w4 hq
    unfold PlaceP at hq
    obtain ⟨hq, k4⟩ := hq
    clear hP
    have hz4 := k4.size
    have k24 := H3.out.2.thenN k4
    rcases hq with ⟨rfl, hnone⟩ | ⟨q, hql, rfl, hsome⟩
    · have hrX := HH.out.2.2.2.1.keep (by omega) k24 (fun x => x)
      have kwX := HH.out.2.2.2.2.1.thenN k24
      obtain ⟨wf, hst, hrf, kf, hzf⟩ := box_store hrX 29 zeros12 rfl (by kernel_rfl) (by kernel_rfl)
      have hfin := HQ.out _ _ (RChP.fail (z := 4) (by rw [fst_no hnone]; exact chV_none HE.out.1) (kwX.fresh kf (fun i e => by omega)))
      have HF := Lib.hid (And.intro hst (And.intro hrf hfin))
      clear hst hrf kf hzf hfin hrX kwX hnone k24 k4
      go_wp2_with (first
        | ((with_reducible show wpList _ _ _ (Oper.mk _ (Op.store 29 _ _) _ _ _ _ :: _) _ _); refine wpl_skip rfl (run_store_op HF.out.1 rfl rfl) ?_)
        | fail)
      (try simp only [Exit.inBlock, Exit.then])
      refine bodyPost_ret (results_cell_tmp_at rfl _ _ rfl HF.out.2.1.1 Try.underlying29 rfl (by kernel_rfl)) rfl ?_
      exact HF.out.2.2
    · have hty := find_ty hsome
      have hqN : q < N := by rw [← HE.out.2]; exact hql
      have hq0 : ¬ (q : Int) < 0 := by omega
      have hrd4 := HH.out.2.2.2.2.2.2.1.keepN (HH.out.2.2.2.2.1.thenN k24)
      obtain ⟨ad, cs, rfl, -, hrow, ⟨⟨dw, rfl, hdr⟩, hxo⟩⟩ := hrd4.bl.row q hql
      have hda := (bdSize_len b).2.2 b.bl[q] (List.getElem_mem hql)
      have hds := HH.out.2.2.2.2.2.2.2
      have hlx := bdSize_laid b HE.out.1
      obtain ⟨hg, -⟩ := valE_zero HE.out.1
      have htl := tells_at hg hql
      have hx4 := HH.out.2.2.1.keep (by omega) k24 (fun x => x)
      have x10 := hx4.at_ 10 rfl
      have hfst := fst_of hg (k := 7) (by decide) hql hty
      have hchW := fun hb hh => ch_with (bad := (ageBad t)) (mk := (ageNew t)) HE.out.1 hql hty (by decide) hb hh
      have hchB := fun hb => (show chV b (fstK b.bl 7) (ageBad t) (ageNew t) = (noBdl, 6) by rw [hfst]; exact chV_bad HE.out.1 hql hb)
      rw [hty] at htl
      obtain ⟨x, hx⟩ : ∃ x, b.bl[q] = x := ⟨_, rfl⟩
      rw [hx] at hrow hdr hda htl hchW hchB
      obtain ⟨xt, xn, xf, xd⟩ := x
      dsimp only at hrow hdr hda htl hchW hchB
      obtain ⟨dA, dc, rfl, -⟩ := hdr.form
      have c3 := hrow.fld 2 rfl
      have hTw := rone_c hdr (by omega)
      have hm := one_most' xd
      have hnl : (ageBad t) xd = false → ((ageNew t) xd).length ≤ 64 := fun hb => (ageNew_holds hb).2
      have hhold : (ageBad t) xd = false → holds 7 ((ageNew t) xd) = true := fun hb => (ageNew_holds hb).1
      obtain ⟨n, bb, hab⟩ : ∃ a b, one xd = (a, b) := ⟨_, _, rfl⟩
      have hbadE : (ageBad t) xd = decide (281474976710655 - n < t) := by unfold ageBad; rw [hab]
      have hnewE : (ageNew t) xd = sd (n + t) := by unfold ageNew; rw [hab]
      rw [hbadE] at hchW hchB hnl hhold
      rw [hnewE] at hchW hnl hhold
      rw [hab] at hTw hm
      dsimp only at hTw hm
      have H4 := Lib.hid (And.intro k24 (And.intro hql (And.intro hx4 (And.intro hrd4 (And.intro hlx (And.intro hchW (And.intro hchB (And.intro hnl hhold))))))))
      clear k24 hx4 hrd4 hlx hchW hchB hnl hhold hbadE hnewE hab hfst hg htl hx hda hds hxo hdr hrow hsome hty k4
      go_wp2_with fail
      refine hTw.mono ?_
      rintro e w5 ⟨rfl, k5⟩
      clear hTw x10 c3
      have hz5 := k5.size
      have k25 := H4.out.1.thenN k5
      have kw5 := HH.out.2.2.2.2.1.thenN k25
      have hx5 := H4.out.2.2.1.keep (by omega) k5 (fun x => x)
      have hr5 := HH.out.2.2.2.1.keep (by omega) k25 (fun x => x)
      have hrd5 := H4.out.2.2.2.1.keepN k5
      have hm' : (n : Int) ≤ 281474976710655 := by omega
      have hlo : (0 : Int) ≤ (n : Int) := by omega
      have hw : IntKind.u64.wrap (281474976710655 - (n : Int)) = 281474976710655 - (n : Int) := by
        unfold IntKind.wrap
        simp [IntKind.bits, IntKind.signed]
        omega
      by_cases hbad : 281474976710655 - n < t
      · have hb' : (281474976710655 : Int) - (n : Int) < (t : Int) := by omega
        have HBAD := Lib.hid (show decide (281474976710655 - n < t) = true by simpa using hbad)
        have hrX := hr5
        have kwX := kw5
        clear hbad
        obtain ⟨wf, hst, hrf, kf, hzf⟩ := box_store hrX 29 zeros12 rfl (by kernel_rfl) (by kernel_rfl)
        have hfin := HQ.out _ _ (RChP.fail (z := 6) (H4.out.2.2.2.2.2.2.1 HBAD.out) (kwX.fresh kf (fun i e => by omega)))
        have HF := Lib.hid (And.intro hst (And.intro hrf hfin))
        clear hst hrf kf hzf hfin hrX kwX k25 kw5 hx5 hr5 hrd5 k5
        go_wp2_with (first
          | ((with_reducible show wpList _ _ _ (Oper.mk _ (Op.store 29 _ _) _ _ _ _ :: _) _ _); refine wpl_skip rfl (run_store_op HF.out.1 rfl rfl) ?_)
          | fail)
        (try simp only [Exit.inBlock, Exit.then])
        refine bodyPost_ret (results_cell_tmp_at rfl _ _ rfl HF.out.2.1.1 Try.underlying29 rfl (by kernel_rfl)) rfl ?_
        exact HF.out.2.2
      · have hb' : ¬ (281474976710655 : Int) - (n : Int) < (t : Int) := by omega
        have hD1 : Calls Try.prog 67 #[.int .u64 ((n : Int) + (t : Int))] w5 (GotB 5 w5 (sd (n + t))) := by
          have := digits_c (n + t) w5 (by omega)
          rwa [show ((n + t : Nat) : Int) = (n : Int) + (t : Int) by omega] at this
        have H5 := Lib.hid (And.intro kw5 (And.intro hx5 (And.intro hr5 (And.intro hrd5 hz5))))
        have HBAD := Lib.hid (show decide (281474976710655 - n < t) = false by simpa using hbad)
        have hle : n + t ≤ 281474976710655 := by omega
        have HM := Lib.hid hle
        have HD := Lib.hid (fun W (k : KpN w5 W) => (show Calls Try.prog 67 #[.int .u64 ((n : Int) + (t : Int))] W (GotB 5 W (sd (n + t))) by
          have := digits_c (n + t) W (by omega)
          rwa [show ((n + t : Nat) : Int) = (n : Int) + (t : Int) by omega] at this))
        clear k25 kw5 hx5 hr5 hrd5 k5 hbad hle hD1
        obtain ⟨RE, hRE⟩ : ∃ z, valE (newB b q (sd (n + t))) = z := ⟨_, rfl⟩
        obtain ⟨RB, hRB⟩ : ∃ z, (if RE = 0 then newB b q (sd (n + t)) else noBdl) = z := ⟨_, rfl⟩
        have HR := Lib.hid (And.intro hRB (And.intro hRE trivial))
        clear hRE hRB
        go_wp2_with fail
        refine rg_begin 9 (fun i => w2.heap.size ≤ i) (by kernel_rfl) (fun w7 d7 => ?_)
        have hwr : IntKind.u64.wrap ((n : Int) + (t : Int)) = (n : Int) + (t : Int) := by
          have := HM.out
          unfold IntKind.wrap
          simp [IntKind.bits, IntKind.signed]
          omega
        have hx7 := H5.out.2.1.keep (by omega) d7 (fun x => x)
        have hB7 : w.heap.size < w7.heap.size := by have := d7.size; omega
        have hr7 := H5.out.2.2.1.keep (by omega) d7 (fun x => x)
        have kw7 := H5.out.1.thenN d7
        have hz7 := d7.size
        refine rg_read 0 (d := (some 36)) (v := bdV b (.slice (some ad) N bc) (.slice pA b.pl.length pc)) (by decide) (by kernel_rfl) (by kernel_rfl) rfl rfl (by kernel_rfl) (by kernel_rfl) (by kernel_rfl) (fun _ _ _ h => h) rfl (fun W hW => by exact run_load_op (hx7.keep hB7 hW (fun x => by omega)).1 rfl Try.underlying29 rfl (by kernel_rfl)) ?_
        conv => arg 8; simp only [Act.put, List.setIfInBounds_toArray, List.set_cons_zero, List.set_cons_succ]
        refine rg_take 1 (d := (some 37)) (v := .int .i64 (q : Int)) (by decide) rfl rfl (by kernel_rfl) (by kernel_rfl) (by kernel_rfl) (fun _ _ _ h => h) rfl (fun W => rfl) ?_
        conv => arg 8; simp only [Act.put, List.setIfInBounds_toArray, List.set_cons_zero, List.set_cons_succ]
        refine rg_take 2 (d := (some 38)) (v := n64 n) (by decide) rfl rfl (by kernel_rfl) (by kernel_rfl) (by kernel_rfl) (fun _ _ _ h => h) rfl (fun W => rfl) ?_
        conv => arg 8; simp only [Act.put, List.setIfInBounds_toArray, List.set_cons_zero, List.set_cons_succ]
        refine rg_take 3 (d := (some 39)) (v := n64 t) (by decide) rfl rfl (by kernel_rfl) (by kernel_rfl) (by kernel_rfl) (fun _ _ _ h => h) rfl (fun W => rfl) ?_
        conv => arg 8; simp only [Act.put, List.setIfInBounds_toArray, List.set_cons_zero, List.set_cons_succ]
        refine rg_take 4 (d := (some 40)) (v := .int .u64 ((n : Int) + (t : Int))) (by decide) rfl rfl (by kernel_rfl) (by kernel_rfl) (by kernel_rfl) (fun _ _ _ h => h) rfl (fun W => by go_simp) ?_
        conv => arg 8; simp only [Act.put, List.setIfInBounds_toArray, List.set_cons_zero, List.set_cons_succ]
        refine rg_call 5 (d := (some 41)) (by kernel_rfl) (HD.out w7 d7) rfl rfl (by kernel_rfl) rfl rfl ?_
        rintro e w9 ⟨y, rfl, o9, k9⟩
        refine ⟨_, rfl, k9.mono (fun _ _ x => x.elim), ?_⟩
        conv => arg 8; simp only [Act.put, List.setIfInBounds_toArray, List.set_cons_zero, List.set_cons_succ]
        obtain ⟨vA, vc, rfl, -⟩ := o9.readsB.form
        have hz9 := k9.size
        have k79 : KpN w w9 := kw7.thenN k9
        have hWc : Calls Try.prog 68 #[bdV b (.slice (some ad) N bc) (.slice pA b.pl.length pc), .int .i64 (q : Int), .slice vA (sd (n + t)).length vc] w9 fun e w' => ∃ bv pv, e = .returned (.tuple #[bdV RB bv pv, .int .i64 RE]) ∧ (∀ W, KpN w0 W → Kp (fun i => i < w9.heap.size) w' W → RdB W (.slice vA (sd (n + t)).length vc) (sd (n + t)) → RdBd W bv pv RB) ∧ KpN w9 w' := by
          have := with_c HK.out.1 (HK.out.2.thenN k79) (by have := H4.out.2.2.2.2.1; have := H4.out.2.2.2.2.2.2.2.1 HBAD.out; omega) H4.out.2.1 o9.readsB
          unfold WithP at this
          rw [HR.out.2.1] at this
          rw [HR.out.1] at this
          exact this
        refine rg_call 6 (d := (some 42)) (by kernel_rfl) (hWc) rfl rfl (by kernel_rfl) rfl rfl ?_
        rintro e wx ⟨tv, sv, rfl, hrdx, kx⟩
        refine ⟨_, rfl, kx.mono (fun _ _ x => x.elim), ?_⟩
        conv => arg 8; simp only [Act.put, List.setIfInBounds_toArray, List.set_cons_zero, List.set_cons_succ]
        have hrdx0 := hrdx wx (HK.out.2.thenN (k79.thenN kx)) (Kp.refl _ _) (o9.readsB.keepN kx)
        obtain ⟨tA, tc, rfl, -⟩ := hrdx0.bl.form
        obtain ⟨sA, sc, rfl, -⟩ := hrdx0.pl.form
        have hr9 := (hr7.keep (by omega) k9 (fun x => x)).keep (by omega) kx (fun x => x)
        obtain ⟨wf, hst, hrf, kf, hzf⟩ := box_store hr9 29 #[n64 RB.fl, n64 RB.e0, n64 RB.e1, n64 RB.e2, n64 RB.e3, n64 RB.e4, n64 RB.e5, n64 RB.ti, n64 RB.sq, n64 RB.li, .slice tA RB.bl.length tc, .slice sA RB.pl.length sc] rfl (by kernel_rfl) (by kernel_rfl)
        refine rg_take 7 (d := (some 43)) (v := bdV RB (.slice tA RB.bl.length tc) (.slice sA RB.pl.length sc)) (by decide) rfl rfl (by kernel_rfl) (by kernel_rfl) (by kernel_rfl) (fun _ _ _ h => h) rfl (fun W => by go_simp) ?_
        conv => arg 8; simp only [Act.put, List.setIfInBounds_toArray, List.set_cons_zero, List.set_cons_succ]
        refine rg_take 8 (d := (some 44)) (v := .int .i64 RE) (by decide) rfl rfl (by kernel_rfl) (by kernel_rfl) (by kernel_rfl) (fun _ _ _ h => h) rfl (fun W => by go_simp) ?_
        conv => arg 8; simp only [Act.put, List.setIfInBounds_toArray, List.set_cons_zero, List.set_cons_succ]
        refine rg_lastS (G := fun _ => True) (wf) (d := none) rfl rfl (by kernel_rfl) rfl (run_store_op hst rfl rfl) (by kernel_rfl) ?_
        conv => arg 8; simp only [Act.put, List.setIfInBounds_toArray, List.set_cons_zero, List.set_cons_succ]
        refine rg_take 10 (d := (some 5)) (v := .int .i64 RE) (by decide) rfl rfl (by kernel_rfl) (by kernel_rfl) (by kernel_rfl) (fun _ _ _ h => h) rfl (fun W => rfl) ?_
        conv => arg 8; simp only [Act.put, List.setIfInBounds_toArray, List.set_cons_zero, List.set_cons_succ]
        refine rg_done (by kernel_rfl) ?_
        have hfin : Q (.returned (.tuple #[bdV RB (.slice tA RB.bl.length tc) (.slice sA RB.pl.length sc), .int .i64 RE])) wf := by
          refine HQ.out _ _ ?_
          unfold RChP
          rw [H4.out.2.2.2.2.2.1 HBAD.out ⟨H4.out.2.2.2.2.2.2.2.2 HBAD.out, H4.out.2.2.2.2.2.2.2.1 HBAD.out⟩, HR.out.2.1, HR.out.1]
          have kwf := (k79.thenN kx).fresh kf (fun i e => by omega)
          have hzx := kx.size
          refine ⟨_, _, rfl, fun W kN kS => hrdx W kN ((kf.mono (fun i _ e => by omega)).trans kS (fun _ _ x => x) (fun i _ e => by omega)) (RdB.keep (o9.readsB.keepN kx) (kf.trans kS (U := fun i => i < w2.heap.size) (fun i _ e => by omega) (fun i _ e => by omega)) (fun i hi e => ?_)), kwf⟩
          have := (o9.fit i hi).1
          omega
        have HF := Lib.hid (And.intro hrf.1 hfin)
        clear hst hrf kf hzf hfin hr9 kx hrdx hrdx0 hWc o9 k79 k9 hz7 kw7 hr7 hB7 hx7 d7 hwr hz9
        go_wp2_with fail
        (try simp only [Exit.inBlock, Exit.then])
        refine bodyPost_ret (results_cell_tmp_at rfl _ _ rfl HF.out.1 Try.underlying29 rfl (by kernel_rfl)) rfl ?_
        exact HF.out.2
  · have hE1 : (E == 0) = false := by simp [h0]
    have hE2 : (E != 0) = true := by simp [h0]
    have hrX := HH.out.2.2.2.1.keep (by omega) k3 (fun x => x)
    have kwX := HH.out.2.2.2.2.1.thenN k3
    obtain ⟨wf, hst, hrf, kf, hzf⟩ := box_store hrX 29 zeros12 rfl (by kernel_rfl) (by kernel_rfl)
    have hfin := HQ.out _ _ (RChP.fail (z := E) (by rw [← HE.out.1]; exact chV_val (by rw [HE.out.1]; exact h0)) (kwX.fresh kf (fun i e => by omega)))
    have HF := Lib.hid (And.intro hst (And.intro hrf hfin))
    clear hst hrf kf hzf hfin hrX kwX k3 h0
    go_wp2_with (first
      | ((with_reducible show wpList _ _ _ (Oper.mk _ (Op.store 29 _ _) _ _ _ _ :: _) _ _); refine wpl_skip rfl (run_store_op HF.out.1 rfl rfl) ?_)
      | fail)
    (try simp only [Exit.inBlock, Exit.then])
    refine bodyPost_ret (results_cell_tmp_at rfl _ _ rfl HF.out.2.1.1 Try.underlying29 rfl (by kernel_rfl)) rfl ?_
    exact HF.out.2.2
end Go.Proofs.Yteokkpmndfekoaa
