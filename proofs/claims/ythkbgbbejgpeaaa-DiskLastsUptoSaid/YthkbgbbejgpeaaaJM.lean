/- DiskCuts: what the call does. -/
import Derived.Test.YthkbgbbejgpeaaaJK
import Derived.Test.YthkbgbbejgpeaaaJL
namespace Go.Proofs.Ythkbgbbejgpeaaa
open Go Go.RowKit
set_option maxRecDepth 100000

theorem Gr.disj {w w' : World} {F F' G : Nat → Prop} (h : Gr w w' F F') (hd : ∀ x, F x → ¬ G x) (hl : ∀ x, G x → x < w.heap.size) : ∀ x, F' x → ¬ G x := fun x hx hg => by
  rcases h x hx with h | h
  · exact hd x h hg
  · have := h.1; have := hl x hg; omega
theorem cuts_cut (s n : Nat) : cutD (cutD (cutD (newD s) 1152921504606846976) (-3)) (n : Int) = withF (newD s) false n := by
  simp [cutD, newD, withF]
  omega
theorem crash_self (b : Dk) (ch : List Int) : withF (crashD b ch) false (-1) = crashD b ch := withF_self _ rfl rfl
theorem run_min_op {P : Program} {a : Act} {dst : Option Tmp} {ty : TypeId} {ts : Array TypeId} {x y : Operand} {k : IntKind} {p q r : Int} {pos : String} {af : Array Edge} {gd : Option (Nat × Bool)} {W : World} (hr : min p q = r) (hx : a.eval x = .int k p) (hy : a.eval y = .int k q) :
    (execOp a.eval { dst := dst, op := .call { callee := .builtin .min, args := #[x, y], argTypes := ts }, type := ty, pos := pos, after := af, guard := gd }).run P W = .ok (.value (.int k r)) W := by
  unfold execOp
  simp only [resolve, invoke, builtin, Sem.run_bind, Sem.run_pure, Result.andThen_ok, List.map_toArray, List.map_cons, List.map_nil, hx, hy, run_min_int2]
  subst hr
  congr 3
  split <;> omega
/-- a flush that is done -/
theorem flush_yes (d : Dk) (ho : d.off = false) (hf : d.fuse = -1) : ∃ d', flushD d = (0, d') ∧ d'.off = false ∧ d'.fuse = -1 ∧ d'.n = d.n := by
  have hg : goesD d = (true, d) := by simp [goesD, ho, hf]
  refine ⟨bareD (flushI d (fun _ => false)), ?_, ho, hf, rfl⟩
  unfold flushD
  rw [hg]
  rfl
def CutRel (w : World) (l : List Stp) (p o i : Value) (wr : World) : Prop :=
  ∃ (q : Nat) (E : List (List Value × Stp)), q ≤ l.length ∧ E.length ≤ q ∧ i = .int .i64 q ∧ o = .int .i64 (E.length : Nat) ∧ OwSteps w wr (fun b => w.heap.size ≤ b) p E ∧ E.map Prod.snd = (l.take q).filter opB ∧ KpN w wr
set_option maxHeartbeats 6400000 in
theorem dcuts_walk {w : World} {sectors n : Int} {va vc : Value} {l : List Stp} {ch : List Int} (hs : I64 sectors) (ha : RdSteps w va l) (hla : stepsSize l ≤ 2000000) (hn : I64 n) (hc : RdI w vc ch) (hcl : ch.length ≤ 2000000) :
    Calls Try.prog 13 #[.int .i64 sectors, va, .int .i64 n, vc] w fun e w' => e = .returned (.bool true) ∧ KpN w w' := by
  obtain ⟨Aa, ca, rfl, -⟩ := SlAt.form ha
  obtain ⟨Ac, cc, rfl, -⟩ := RdC.form hc
  obtain ⟨s, hsz, hs1, hs2⟩ := span_nat (n := sectors) (lo := 1) (hi := 65536) (by omega) (by omega)
  have hll := stepsSize_len l
  obtain ⟨L, hL⟩ : ∃ L, l.length = L := ⟨_, rfl⟩
  obtain ⟨M, hM⟩ : ∃ M, ch.length = M := ⟨_, rfl⟩
  rw [hL] at ha hll ⊢
  rw [hM] at hc hcl ⊢
  have HA := Lib.hid ha
  have HC := Lib.hid hc
  have HSZ := Lib.hid hsz
  have HL := Lib.hid hL
  clear ha hc hsz hL hM
  go_enter Try.func13, Try.ntmps13
  go_wp2_with fail
  go_loopw [9, 10, 11] (fun p o i wr => CutRel w l p o i wr) (fun _ _ i _ => L - (intOf i).toNat)
  case atStart => exact ⟨0, [], Nat.zero_le _, Nat.le_refl _, rfl, rfl, OwSteps.nil _ _ _, rfl, Kp.refl _ _⟩
  case round =>
    obtain ⟨q, E, hq, hEq, rfl, rfl, hE, hmap, hk⟩ := hrel
    rw [HL.out] at hq
    by_cases hlt : q < L
    · have hql : q < l.length := by rw [HL.out]; exact hlt
      obtain ⟨st, hse⟩ : ∃ s, l[q] = s := ⟨_, rfl⟩
      obtain ⟨ad, cs, rfl, -, hrow0, hst0⟩ := HA.out.row q hql
      rw [hse] at hst0
      have hrow := hrow0.keepN hk
      have hst1 := hst0
      obtain ⟨⟨cv, rfl, hcv⟩, hd1, hd2, -⟩ := hst0
      obtain ⟨Av, cx, rfl, -⟩ := RdC.form hcv
      obtain ⟨Do, At, chs⟩ := st
      simp only at hrow hd1 hd2 hst1
      obtain ⟨CN, hCN⟩ : ∃ CN, chs.length = CN := ⟨_, rfl⟩
      rw [hCN] at hrow hst1
      have c0 := hrow.c0
      have c1 := hrow.fld 0 rfl
      have c2 := hrow.fld 1 rfl
      have htk : l.take (q + 1) = l.take q ++ [(Do, At, chs)] := by rw [List.take_succ_eq_append_getElem hql, hse]
      by_cases hop : 0 ≤ Do ∧ Do ≤ 2
      · have hB : opB (Do, At, chs) = true := by simp [opB, hop]
        obtain ⟨v', w', r, hE', hk'⟩ := run_appSt hE hst1 (by omega)
        have hmap' : (E ++ [([Value.int .i64 Do, Value.int .i64 At, Value.slice Av CN cx], ((Do, At, chs) : Stp))]).map Prod.snd = (l.take (q + 1)).filter opB := by
          rw [htk, List.filter_append, List.map_append, hmap]
          simp [hB]
        have hE2 : OwSteps w w' (fun b => w.heap.size ≤ b) v' (E ++ [([.int .i64 Do, .int .i64 At, .slice Av CN cx], (Do, At, chs))]) := ⟨hE'.row.wide (fun b _ hb => by rcases hb with hb | hb; exact hb; have := hb.1; have := hk.size; omega), hE'.each⟩
        have hk2 : KpN w w' := hk.fresh hk' (fun _ h => h)
        have HH := Lib.hid (And.intro hmap' (And.intro hE2 hk2))
        obtain ⟨o1, o2⟩ := hop
        obtain ⟨EL, hEL⟩ : ∃ EL, E.length = EL := ⟨_, rfl⟩
        rw [hEL] at hEq ⊢
        have HEL := Lib.hid hEL
        clear hmap' hE2 hk2 hE' hE hmap htk hB hse hrow0 hst1 hcv hEL hrow hCN
        go_wp2_with (refine app_op r rfl rfl ?_)
        go_roundw
        case rel => exact ⟨q + 1, _, by rw [HL.out]; omega, by simp [HEL.out]; omega, by go_num, by simp [HEL.out], HH.out.2.1, HH.out.1, HH.out.2.2⟩
        case measure => exact meas_up hlt
      · have hB : opB (Do, At, chs) = false := by simp [opB]; omega
        have hmap' : E.map Prod.snd = (l.take (q + 1)).filter opB := by
          rw [htk, List.filter_append, hmap]
          simp [hB]
        have HH := Lib.hid (And.intro hmap' hE)
        obtain ⟨EL, hEL⟩ : ∃ EL, E.length = EL := ⟨_, rfl⟩
        rw [hEL] at hEq ⊢
        have HEL := Lib.hid hEL
        clear hmap' hE hmap htk hB hse hrow0 hst1 hcv hEL hrow hCN
        by_cases o1 : 0 ≤ Do
        · have o2 : ¬ Do ≤ 2 := fun h => hop ⟨o1, h⟩
          clear hop
          go_wp2_with fail
          go_roundw
          case rel => exact ⟨q + 1, E, by rw [HL.out]; omega, by rw [HEL.out]; omega, by go_num, by rw [HEL.out], HH.out.2, HH.out.1, hk⟩
          case measure => exact meas_up hlt
        · have o1' : ¬ (Do ≥ 0) := o1
          clear hop
          go_wp2_with fail
          go_roundw
          case rel => exact ⟨q + 1, E, by rw [HL.out]; omega, by rw [HEL.out]; omega, by go_num, by rw [HEL.out], HH.out.2, HH.out.1, hk⟩
          case measure => exact meas_up hlt
    · have hqL : q = L := by omega
      subst hqL
      have hmap' : E.map Prod.snd = l.filter opB := by rw [hmap, ← HL.out, List.take_length]
      have hRd := hE.reads hk
      rw [hmap'] at hRd
      obtain ⟨lp, hlp⟩ : ∃ lp, l.filter opB = lp := ⟨_, rfl⟩
      have hlps : stepsSize lp ≤ stepsSize l := by rw [← hlp]; exact stepsSize_filter l opB
      have hops : ∀ s ∈ lp, OpS s := by rw [← hlp]; exact fun s hs => opB_S (List.mem_filter.1 hs).2
      rw [hlp] at hRd hmap'
      have hEl : E.length = lp.length := by rw [← hmap']; simp
      obtain ⟨ops, ho⟩ : ∃ ops, lp.length = ops := ⟨_, rfl⟩
      rw [hEl, ho] at hEq ⊢
      obtain ⟨Ap, cp, rfl, -⟩ := SlAt.form hRd
      rw [ho] at hRd ⊢
      obtain ⟨nn, hnn, hnn1, hnn2⟩ := span_nat (n := n) (lo := 0) (hi := (ops : Int) + 2) (by omega) (by omega)
      obtain ⟨b, hb1, hb2, hb3, hr1, hr2⟩ := cuts_law s nn ops lp (by omega) ho.symm hops
      obtain ⟨D', hD'⟩ : ∃ D', (if ops ≤ nn then withF b false (nn - ops : Nat) else withF b true (-1)) = D' := ⟨_, rfl⟩
      rw [hD'] at hr2
      have hcrash : crashD D' ch = crashD b ch := by
        rw [← hD']
        split
        · rw [crash_withF, crash_self]
        · rw [crash_withF, crash_self]
      have HR := Lib.hid (And.intro hr1 hr2)
      have HNN := Lib.hid hnn
      have HDD := Lib.hid hD'
      have HCR := Lib.hid hcrash
      have HRD := Lib.hid hRd
      have HOP := Lib.hid ho
      have HB3 := Lib.hid (And.intro hb1 (And.intro hb2 hb3))
      clear hr1 hr2 hnn hD' hcrash hRd hops hEl ho hmap' hlp hmap hE hb1 hb2 hb3
      have HK := Lib.hid hk
      go_wp2_with fail
      refine (span_c hs (by omega) (by omega) (by omega)).mono ?_
      rintro e w0 ⟨rfl, rfl⟩
      rw [HSZ.out]
      go_wp2_with fail
      refine (new_x (n := s) (by omega) (by omega)).mono ?_
      rintro e w1 ⟨g, rfl, hd1, k1⟩
      have HD1 := Lib.hid hd1.tight
      clear hd1
      go_wp2_with fail
      refine (new_x (n := s) (by omega) (by omega)).mono ?_
      rintro e w2 ⟨gt, rfl, ht2, k2⟩
      have HT2 := Lib.hid ht2.tight
      have hz0 := hk.size
      have hz1 := k1.size
      have hz2 := k2.size
      have HD2 := Lib.hid (HD1.out.keepN k2)
      have hk2 := (hk.thenN k1).thenN k2
      clear ht2
      go_wp2_with fail
      refine (span_c hn (by omega) (by omega) (by omega)).mono ?_
      rintro e w3 ⟨rfl, rfl⟩
      rw [HNN.out]
      go_wp2_with fail
      refine (cut_x (n := 1152921504606846976) HD2.out ⟨by omega, by omega⟩).mono ?_
      rintro e w3 ⟨⟨u3, rfl⟩, hd3, kp3⟩
      go_wp2_with fail
      refine (cut_x (n := -3) hd3 ⟨by omega, by omega⟩).mono ?_
      rintro e w4 ⟨⟨u4, rfl⟩, hd4, kp4⟩
      go_wp2_with fail
      refine (cut_x (n := (nn : Int)) hd4 ⟨by omega, by omega⟩).mono ?_
      rw [cuts_cut]
      rintro e w5 ⟨⟨u5, rfl⟩, hd5, kp5⟩
      have kp25 := (kp3.trans kp4 (fun _ _ x => x) (fun _ _ x => x)).trans kp5 (fun _ _ x => x) (fun _ _ x => x) (U := (fun b => Iv wr.heap.size w1.heap.size b ∧ b < w1.heap.size))
      have HD5 := Lib.hid hd5
      have HT5 := Lib.hid (HT2.out.keep kp25 (fun x h1 h2 => by have := h1.1.1; have := h2.2; omega))
      have hk5 : KpN w w5 := hk2.fresh kp25 (fun x hx => by have := hx.1.1; omega)
      have hkr5 : KpN wr w5 := (k1.thenN k2).fresh kp25 (fun x hx => hx.1.1)
      have hz5 := kp25.size
      clear hd3 hd4 hd5 kp3 kp4 kp5 kp25 HD2 HT2 HD1
      go_wp2_with fail
      refine (run_c (most := (ops : Int)) HD5.out HRD.out (by omega) hkr5 (fun x hx => hx.1.1) (by omega)).mono ?_
      rw [HR.out.2, HOP.out]
      rintro e w6 ⟨rfl, F6, k6', hk6, hd6, hg6, kp6⟩
      have HT6 := Lib.hid (HT5.out.keep kp6 (fun x h1 h2 => by have := h1.1.1; have := h2.2; omega))
      have hkr6 : KpN wr w6 := hkr5.fresh kp6 (fun x hx => hx.1.1)
      have hgex0 : ∀ x, F6 x → wr.heap.size ≤ x := hg6.ge (fun x hx => hx.1.1) hkr5.size
      have hdj6 : ∀ x, F6 x → ¬ (Iv w1.heap.size w2.heap.size x ∧ x < w2.heap.size) := hg6.disj (fun x h1 h2 => by have := h2.1.1; have := h1.2; omega) (fun x hx => by have := hx.2; omega)
      have HD6 := Lib.hid hd6.tight
      clear hd6 hg6
      go_wp2_with fail
      refine (run_c (most := (nn : Int)) HT6.out HRD.out (by omega) hkr6 (fun x hx => by have := hx.1.1; omega) (by omega)).mono ?_
      rw [HR.out.1, HOP.out]
      rintro e w7 ⟨rfl, F7, k7', hk7, ht7, hg7, kp7⟩
      have hdisj0 : ∀ x, (F6 x ∧ x < w6.heap.size) → ¬ F7 x := fun x h1 h2 => by
        rcases hg7 x h2 with h | h
        · exact hdj6 x h1.1 h
        · have := h.1; have := h1.2; omega
      have HDx0 := Lib.hid (HD6.out.keep kp7 (fun x h1 h2 => hdj6 x h1.1 h2))
      have HTx0 := Lib.hid ht7
      have hkx0 : KpN w w7 := hk.trans (hkr6.fresh kp7 (fun x hx => by have := hx.1.1; omega)) (fun _ _ x => x) (fun _ _ x => x.elim)
      have hget : ∀ x, F7 x → w.heap.size ≤ x := hg7.ge (fun x hx => by have := hx.1.1; omega) (by have := hk5.size; have := kp6.size; omega)
      have hgex0' : ∀ x, (F6 x ∧ x < w6.heap.size) → w.heap.size ≤ x := fun x hx => by have := hgex0 x hx.1; omega
      have hz6 := kp6.size
      clear ht7 hg7 HD6 HT6 HD5 HT5 hdj6
      have HGEX0 := Lib.hid hgex0'
      have HGET0 := Lib.hid hget
      have HDJ0 := Lib.hid hdisj0
      clear hgex0 hgex0' hget hdisj0
      by_cases hon : ops ≤ nn
      · have hD2 : D' = withF b false (nn - ops : Nat) := by rw [← HDD.out, if_pos hon]
        have hmin : min nn ops = ops := Nat.min_eq_right hon
        have hif : min (nn : Int) (ops : Int) = (ops : Int) := by omega
        have HIF := Lib.hid hif
        clear hif
        rw [hmin]
        have hdn := down_x HDx0.out
        rw [show D'.off = false by rw [hD2]; rfl] at hdn
        have htn := down_x HTx0.out
        rw [show b.off = false from HB3.out.1] at htn
        have HDx := HDx0
        have HTx := HTx0
        have hkx := hkx0
        have HGEX := HGEX0
        have HDJ := HDJ0
        have HGET := HGET0
        clear hmin hD2
        go_wp2_with (first | ((with_reducible show wpList _ _ _ (Oper.mk _ (Op.call _) _ _ _ _ :: _) _ _); refine wpl_val rfl (run_min_op HIF.out rfl rfl) ?_) | fail)
        refine hdn.mono ?_
        rintro e w8 ⟨rfl, rfl⟩
        go_wp2_with fail
        refine htn.mono ?_
        rintro e w8 ⟨rfl, rfl⟩
        go_wp2_with fail
        refine hdn.mono ?_
        rintro e w8 ⟨rfl, rfl⟩
        have hcrD : crashD D' ch = crashD b ch := HCR.out
        go_wp2_with fail
        refine (crash_x (ch := ch) HDx.out (by omega) (HC.out.keepN hkx) (fun hne x hx hF => by have := rdI_blk HC.out hne x hx; have := HGEX.out x hF; omega) (by omega)).mono ?_
        rw [hcrD]
        rintro e wa ⟨⟨ua, rfl⟩, hda, kpa⟩
        have HTa := Lib.hid (HTx.out.keep kpa (fun x h1 h2 => HDJ.out x h2 h1))
        have hka := hkx.fresh kpa HGEX.out
        have HDa := Lib.hid hda
        clear hda
        go_wp2_with fail
        refine (crash_x (ch := ch) HTa.out (by omega) (HC.out.keepN hka) (fun hne x hx hF => by have := rdI_blk HC.out hne x hx; have := HGET.out x hF; omega) (by omega)).mono ?_
        rintro e wb ⟨⟨ub, rfl⟩, htb, kpb⟩
        have HDb := Lib.hid (HDa.out.keep kpb HDJ.out)
        have hkb := hka.fresh kpb HGET.out
        have HTb := Lib.hid htb
        have hdn := down_x HDb.out
        rw [show (crashD b ch).off = false from rfl] at hdn
        clear htb kpa kpb
        go_wp2_with fail
        refine hdn.mono ?_
        rintro e wc ⟨rfl, rfl⟩
        go_wp2_with fail
        refine (image_x HDb.out).mono ?_
        rintro e wc ⟨vc, rfl, oc, kc⟩
        go_wp2_with fail
        refine (image_x (HTb.out.keepN kc)).mono ?_
        rintro e wd ⟨vd, rfl, od, kd⟩
        have himl := image_len (crashD b ch) HDb.out.len
        have hn2 := HDb.out.n2
        go_wp2_with fail
        refine (Bytes_c (oc.readsB.keepN kd) od.readsB (by omega)).mono ?_
        rintro e we ⟨rfl, ke⟩
        rw [show decide (imageD (crashD b ch) = imageD (crashD b ch)) = true by simp]
        have hde := ((HDb.out.keepN kc).keepN kd).keepN ke
        have HDe := Lib.hid hde
        have hke := ((hkb.thenN kc).thenN kd).thenN ke
        obtain ⟨d6, hf6, h6o, h6f, h6n⟩ := flush_yes (crashD b ch) rfl rfl
        have H6 := Lib.hid (And.intro h6o (And.intro h6f h6n))
        clear himl hn2 hde h6o h6f h6n
        go_wp2_with fail
        refine (flush_x HDe.out).mono ?_
        rw [hf6]
        rintro e wf ⟨rfl, F6, k6', hk6, hd6, hg6, kp6⟩
        have hkf := hke.fresh kp6 HGEX.out
        have hge6 := hg6.ge HGEX.out hke.size
        have HD6 := Lib.hid hd6.tight
        clear hd6 hf6 hg6 kp6
        go_wp2_with fail
        refine (fill_c (n := 2) (by omega)).mono ?_
        rintro e wg ⟨vg, rfl, og, kg⟩
        have hog := og.fit
        have hw7 := write_yes d6 0 (fillB 2) (by have := HD6.out.n1; omega) (fillB_len 2) H6.out.1 H6.out.2.1
        have hk6' : k6' ≤ 900000000 := by omega
        go_wp2_with fail
        refine (write_x (i := 0) (xs := fillB 2) (HD6.out.keepN kg) og.readsB (fun x hx hF => by have := (hog x hx).1; have := hF.2; omega) ⟨by omega, by omega⟩ (by omega)).mono ?_
        rw [show (0 : Int) = ((0 : Nat) : Int) from rfl, hw7]
        rintro e wh ⟨rfl, F7, k7', hk7, hd7, hg7, kp7⟩
        go_wp2_with fail
        go_ret
        exact ⟨rfl, (hkf.thenN kg).fresh kp7 (fun x hx => hge6 x hx.1)⟩
      · have hD2 : D' = withF b true (-1) := by rw [← HDD.out, if_neg hon]
        have hmin : min nn ops = nn := Nat.min_eq_left (by omega)
        have hif : min (nn : Int) (ops : Int) = (nn : Int) := by omega
        have HIF := Lib.hid hif
        clear hif
        rw [hmin]
        have hdn := down_x HDx0.out
        rw [show D'.off = true by rw [hD2]; rfl] at hdn
        have htn := down_x HTx0.out
        rw [show b.off = false from HB3.out.1] at htn
        have hg0 : goesD D' = (false, D') := by rw [hD2]; simp [goesD, withF]
        have hrd : readD D' 0 = ([], 5) := by
          have hB : hasB D' 0 = true := by rw [hD2]; simp [hasB, withF]; have := HB3.out.2.2; omega
          have ho : D'.off = true := by rw [hD2]; rfl
          simp [readD, hB, ho]
        have hwr : writeD D' 0 (fillB 1) = (5, D') := by
          have hB : hasB D' 0 = true := by rw [hD2]; simp [hasB, withF]; have := HB3.out.2.2; omega
          unfold writeD
          rw [if_neg (by simp [hB, fillB_len]), hg0]
          rfl
        have hfl : flushD D' = (5, D') := by
          unfold flushD
          rw [hg0]
          rfl
        have hcu : cutD D' 5 = D' := by rw [hD2]; rfl
        have HW := Lib.hid (And.intro hrd (And.intro hwr (And.intro hfl hcu)))
        clear hmin hD2 hg0 hrd hwr hfl hcu
        go_wp2_with (first | ((with_reducible show wpList _ _ _ (Oper.mk _ (Op.call _) _ _ _ _ :: _) _ _); refine wpl_val rfl (run_min_op HIF.out rfl rfl) ?_) | fail)
        refine hdn.mono ?_
        rintro e w8 ⟨rfl, rfl⟩
        go_wp2_with fail
        refine htn.mono ?_
        rintro e w8 ⟨rfl, rfl⟩
        go_wp2_with fail
        refine hdn.mono ?_
        rintro e w8 ⟨rfl, rfl⟩
        go_wp2_with fail
        refine (read_x (i := 0) HDx0.out ⟨by omega, by omega⟩).mono ?_
        rw [HW.out.1]
        rintro e w8 ⟨v8, rfl, o8, k8⟩
        obtain ⟨A8, c8, rfl, -⟩ := o8.readsB.form
        go_wp2_with fail
        refine (fill_c (n := 1) (by omega)).mono ?_
        rintro e w9 ⟨v9, rfl, o9, k9⟩
        have ho9 := o9.fit
        have hz7 := kp7.size
        have hz8 := k8.size
        go_wp2_with fail
        refine (write_x (i := 0) (xs := fillB 1) ((HDx0.out.keepN k8).keepN k9) o9.readsB (fun x hx hF => by have := (ho9 x hx).1; have := hF.2; omega) ⟨by omega, by omega⟩ (by omega)).mono ?_
        rw [HW.out.2.1]
        rintro e w10 ⟨rfl, F10, k10', hk10, hd10, hg10, kp10⟩
        have HGE10 := Lib.hid (show ∀ x, F10 x → w.heap.size ≤ x from hg10.ge HGEX0.out (by have := hkx0.size; have := k9.size; omega))
        have hz9 := k9.size
        have HDJ10 := Lib.hid (show ∀ x, F10 x → ¬ (F7 x ∧ x < w7.heap.size) from hg10.disj (fun x h1 h2 => HDJ0.out x h1 h2.1) (fun x hx => by have := hx.2; omega))
        have HD10 := Lib.hid hd10
        have HT10 := Lib.hid ((HTx0.out.tight.keepN (k8.thenN k9)).keep kp10 (fun x h1 h2 => HDJ0.out x h2 h1.1))
        have hk10' := (hkx0.thenN (k8.thenN k9)).fresh kp10 HGEX0.out
        clear hd10 hg10 
        go_wp2_with fail
        refine (flush_x HD10.out).mono ?_
        rw [HW.out.2.2.1]
        rintro e w11 ⟨rfl, F11, k11', hk11, hd11, hg11, kp11⟩
        have HGE11 := Lib.hid (show ∀ x, F11 x → w.heap.size ≤ x from hg11.ge HGE10.out hk10'.size)
        have hz10 := kp10.size
        have HDJ11 := Lib.hid (show ∀ x, F11 x → ¬ (F7 x ∧ x < w7.heap.size) from hg11.disj HDJ10.out (fun x hx => by have := hx.2; omega))
        have HD11 := Lib.hid hd11
        have HT11 := Lib.hid (HT10.out.keep kp11 (fun x h1 h2 => HDJ10.out x h2 h1))
        have hk11'' := hk10'.fresh kp11 HGE10.out
        clear hd11 hg11
        go_wp2_with fail
        refine (cut_x (n := 5) HD11.out ⟨by omega, by omega⟩).mono ?_
        rw [HW.out.2.2.2]
        rintro e w12 ⟨⟨u12, rfl⟩, hd12, kp12⟩
        have HDx := Lib.hid hd12
        have HTx := Lib.hid (HT11.out.keep kp12 (fun x h1 h2 => HDJ11.out x h2 h1))
        have hkx := hk11''.fresh kp12 HGE11.out
        have HGEX := HGE11
        have HDJ := HDJ11
        have HGET := Lib.hid (show ∀ x, (F7 x ∧ x < w7.heap.size) → w.heap.size ≤ x from fun x hx => HGET0.out x hx.1)
        have hcrD : crashD D' ch = crashD b ch := HCR.out
        go_wp2_with fail
        refine (crash_x (ch := ch) HDx.out (by omega) (HC.out.keepN hkx) (fun hne x hx hF => by have := rdI_blk HC.out hne x hx; have := HGEX.out x hF; omega) (by omega)).mono ?_
        rw [hcrD]
        rintro e wa ⟨⟨ua, rfl⟩, hda, kpa⟩
        have HTa := Lib.hid (HTx.out.keep kpa (fun x h1 h2 => HDJ.out x h2 h1))
        have hka := hkx.fresh kpa HGEX.out
        have HDa := Lib.hid hda
        clear hda
        go_wp2_with fail
        refine (crash_x (ch := ch) HTa.out (by omega) (HC.out.keepN hka) (fun hne x hx hF => by have := rdI_blk HC.out hne x hx; have := HGET.out x hF; omega) (by omega)).mono ?_
        rintro e wb ⟨⟨ub, rfl⟩, htb, kpb⟩
        have HDb := Lib.hid (HDa.out.keep kpb HDJ.out)
        have hkb := hka.fresh kpb HGET.out
        have HTb := Lib.hid htb
        have hdn := down_x HDb.out
        rw [show (crashD b ch).off = false from rfl] at hdn
        clear htb kpa kpb
        go_wp2_with fail
        refine hdn.mono ?_
        rintro e wc ⟨rfl, rfl⟩
        go_wp2_with fail
        refine (image_x HDb.out).mono ?_
        rintro e wc ⟨vc, rfl, oc, kc⟩
        go_wp2_with fail
        refine (image_x (HTb.out.keepN kc)).mono ?_
        rintro e wd ⟨vd, rfl, od, kd⟩
        have himl := image_len (crashD b ch) HDb.out.len
        have hn2 := HDb.out.n2
        go_wp2_with fail
        refine (Bytes_c (oc.readsB.keepN kd) od.readsB (by omega)).mono ?_
        rintro e we ⟨rfl, ke⟩
        rw [show decide (imageD (crashD b ch) = imageD (crashD b ch)) = true by simp]
        have hde := ((HDb.out.keepN kc).keepN kd).keepN ke
        have HDe := Lib.hid hde
        have hke := ((hkb.thenN kc).thenN kd).thenN ke
        obtain ⟨d6, hf6, h6o, h6f, h6n⟩ := flush_yes (crashD b ch) rfl rfl
        have H6 := Lib.hid (And.intro h6o (And.intro h6f h6n))
        clear himl hn2 hde h6o h6f h6n
        go_wp2_with fail
        refine (flush_x HDe.out).mono ?_
        rw [hf6]
        rintro e wf ⟨rfl, F6, k6', hk6, hd6, hg6, kp6⟩
        have hkf := hke.fresh kp6 HGEX.out
        have hge6 := hg6.ge HGEX.out hke.size
        have HD6 := Lib.hid hd6.tight
        clear hd6 hf6 hg6 kp6
        go_wp2_with fail
        refine (fill_c (n := 2) (by omega)).mono ?_
        rintro e wg ⟨vg, rfl, og, kg⟩
        have hog := og.fit
        have hw7 := write_yes d6 0 (fillB 2) (by have := HD6.out.n1; omega) (fillB_len 2) H6.out.1 H6.out.2.1
        have hk6' : k6' ≤ 900000000 := by omega
        go_wp2_with fail
        refine (write_x (i := 0) (xs := fillB 2) (HD6.out.keepN kg) og.readsB (fun x hx hF => by have := (hog x hx).1; have := hF.2; omega) ⟨by omega, by omega⟩ (by omega)).mono ?_
        rw [show (0 : Int) = ((0 : Nat) : Int) from rfl, hw7]
        rintro e wh ⟨rfl, F7, k7', hk7, hd7, hg7, kp7⟩
        go_wp2_with fail
        go_ret
        exact ⟨rfl, (hkf.thenN kg).fresh kp7 (fun x hx => hge6 x hx.1)⟩
end Go.Proofs.Ythkbgbbejgpeaaa
