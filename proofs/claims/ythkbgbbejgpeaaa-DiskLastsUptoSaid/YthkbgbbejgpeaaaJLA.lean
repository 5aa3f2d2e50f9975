/- DiskLasts: what the call does. -/
import Derived.Test.YthkbgbbejgpeaaaJY
namespace Go.Proofs.Ythkbgbbejgpeaaa
open Go Go.RowKit Go.ChangeShapes Go.WideShapes Go.ChangeAt
set_option maxRecDepth 100000

/-- lists of ints -/
def RdLists (w : World) (v : Value) (l : List (List Int)) : Prop := SlAt w 1 (fun W cs zs => (∃ u, cs = [u] ∧ RdI W u zs) ∧ ∀ z ∈ zs, I64 z) v l
theorem RdLists.keepN {w w' : World} {v : Value} {l : List (List Int)} (h : RdLists w v l) (k : KpN w w') : RdLists w' v l := SlAt.keep h k (fun h k => by obtain ⟨⟨u, hu, hr⟩, hz⟩ := h; exact ⟨⟨u, hu, hr.keepN k⟩, hz⟩)
def listsRd : Rd 59 (List (List Int)) := sliceRd intsRd _ Try.underlying59 (by kernel_rfl)
def listsSize (l : List (List Int)) : Nat := (l.map fun zs => zs.length + 1).sum
theorem listsSize_mem (l : List (List Int)) (s : List Int) (h : s ∈ l) : s.length + 1 ≤ listsSize l := by
  unfold listsSize
  induction l with
  | nil => cases h
  | cons a r ih =>
    simp only [List.map_cons, List.sum_cons]
    rcases List.mem_cons.1 h with rfl | h
    · omega
    · have := ih h
      omega
theorem listsSize_len (l : List (List Int)) : l.length ≤ listsSize l := by
  unfold listsSize
  induction l with
  | nil => simp
  | cons a r ih => simp only [List.map_cons, List.sum_cons, List.length_cons]; omega
theorem open_lists {H : Type} {enc : TypeId × Value → H} {W : World} {base : Nat} {sp : Nat → Bool} {held : Bool} {a : Option Addr} {len cap : Nat} {d : DataW H} {p : List MemPlace} (h0 : DataW.Trod enc Try.prog W base sp held 59 (.slice a len cap) d p) :
    ∃ l : List (List Int), RdLists W (.slice a len cap) l ∧ listsSize l ≤ Rows.uptoBulk d := by
  obtain ⟨raw, ⟨v, hv, hs⟩, hb⟩ := listsRd.open_ h0
  obtain rfl : Value.slice a len cap = v := by simpa [Value.cells] using hv
  refine ⟨raw, ?_, ?_⟩
  · have := hs.map id (rd' := fun W cs zs => (∃ u, cs = [u] ∧ RdI W u zs) ∧ ∀ z ∈ zs, I64 z) (fun cs y hy => by
      obtain ⟨u, rfl, hu⟩ := hy
      exact ⟨⟨u, rfl, (ints_of hu).1⟩, (ints_of hu).2⟩)
    rw [List.map_id] at this
    exact this
  · have hbk : listsRd.size raw = (raw.map intsRd.size).sum + 1 := rfl
    rw [hbk] at hb
    have : listsSize raw = (raw.map intsRd.size).sum := by
      unfold listsSize
      congr 1
      apply List.map_congr_left
      intro x _
      rw [intsRd_size]
    exact Nat.le_trans (Nat.le_of_eq this) (Nat.le_trans (Nat.le_succ _) hb)
/-- a crash of what is clean changes nothing -/
theorem clean_image (d : Dk) (ch : List Int) (h : ∀ i, i < d.n → d.ca i = []) : imageD (crashD d ch) = imageD d := by
  unfold imageD
  rw [crashD_n]
  refine rows_cong d.n (fun i hi => ?_)
  have := crash_at d ch i hi
  unfold effD at this
  rw [if_pos (.inl (h i hi))] at this
  injection this with a b
  unfold rowI
  rw [a, b]
theorem crB_clean : ∀ (may : List (List Int)) (ch : List Int) (k : Nat), (∀ l ∈ may, l.length = 1) → crB may ch k = may
  | [], _, _, _ => rfl
  | l :: r, ch, k, h => by
    unfold crB
    rw [if_pos (h l (by simp)), crB_clean r ch k (fun x hx => h x (by simp [hx]))]
/-- the crashes -/
def LastRel (w : World) (kb g n M : Nat) (im : List UInt8) (iv : Value) (mv : Value) (may : List (List Int)) (i : Value) (wr : World) : Prop := ∃ (q : Nat) (F B : Nat → Prop) (k : Nat) (d : Dk) (ls : List (Value × List Int)) (next : Nat), q ≤ M ∧ i = .int .i64 q ∧ k ≤ 10000000 ∧ next ≤ 10000000 ∧ d.n = n ∧ imageD d = im ∧ (∀ i, i < d.n → d.ca i = []) ∧ ls.map Prod.snd = may ∧ KS w wr F B kb g k d mv ls next ∧ RdB wr iv im ∧ (∀ x, iv.ownBlock = some x → ¬ F x)
set_option maxHeartbeats 6400000 in
theorem dlasts_walk {w : World} {sectors : Int} {va vc : Value} {l : List Stp} {cr : List (List Int)} (hs : I64 sectors) (ha : RdSteps w va l) (hla : stepsSize l ≤ 2000000) (hc : RdLists w vc cr) (hlc : listsSize cr ≤ 2000000) :
    Calls Try.prog 11 #[.int .i64 sectors, va, vc] w fun e w' => e = .returned (.bool true) ∧ KpN w w' := by
  obtain ⟨Aa, ca, rfl, -⟩ := SlAt.form ha
  obtain ⟨Ac, cc, rfl, -⟩ := SlAt.form hc
  obtain ⟨n, hn, hn1, hn2⟩ := span_nat (n := sectors) (lo := 1) (hi := 65536) (by omega) (by omega)
  have hll := stepsSize_len l
  have hcl := listsSize_len cr
  obtain ⟨L, hL⟩ : ∃ L, l.length = L := ⟨_, rfl⟩
  obtain ⟨CM, hCM⟩ : ∃ L, cr.length = L := ⟨_, rfl⟩
  rw [hL] at ha hll ⊢
  rw [hCM] at hc hcl ⊢
  have HA := Lib.hid ha
  have HC := Lib.hid hc
  have HL := Lib.hid hL
  have HCM := Lib.hid hCM
  have HN := Lib.hid hn
  clear ha hL hn hc hCM
  go_enter Try.func11, Try.ntmps11
  go_wp2_with fail
  refine (begin_c hs HN.out (by omega) (by omega)).mono ?_
  rintro e w1 ⟨kb, g, mv, ls, F, B, rfl, hks⟩
  have HK2 := Lib.hid hks
  clear hks
  go_wp2_with fail
  go_loopw [9] (fun i wr => PickRel w kb g n L i wr) (fun i _ => L - (intOf i).toNat)
  case atStart => exact ⟨0, _, _, _, _, _, _, _, Nat.zero_le _, rfl, Nat.le_refl _, Nat.le_refl _, rfl, HK2.out⟩
  case round =>
    clear HK2
    obtain ⟨q, F, B, k, d, mv, ls, next, hq, rfl, hkq, hnq, hdn, hks⟩ := hrel
    by_cases hlt : q < L
    · have hql : q < l.length := by rw [HL.out]; exact hlt
      obtain ⟨ad, Do, At, Av, nn, cv, rfl, hrow, hDo, hstep⟩ := step_at hks (by omega) (by omega) HA.out hla q hql
      have c0 := hrow.c0
      have c1 := hrow.fld 0 rfl
      have c2 := hrow.fld 1 rfl
      have HST := Lib.hid hstep
      have HDN := Lib.hid hdn
      clear hks hstep hDo hdn
      go_wp2_with fail
      refine HST.out.mono ?_
      rintro e w3 ⟨rfl, F3, B3, k3, d3, mv3, ls3, next3, hk3, hn3, hd3, hks3⟩
      have hd3n : d3.n = n := by rw [hd3]; exact HDN.out
      have HK3 := Lib.hid hks3
      clear c0 c1 c2 hrow hks3 hd3
      go_wp2_with fail
      go_roundw
      case rel => exact ⟨q + 1, _, _, _, _, _, _, _, by omega, by go_num, by omega, by omega, hd3n, HK3.out⟩
      case measure => exact meas_up hlt
    · have hlen3 := hks.ls_len
      obtain ⟨M, hM⟩ : ∃ M, ls.length = M := ⟨_, rfl⟩
      have hM1 : 1 ≤ M := by have := hks.dk.n1; omega
      have hM2 : M ≤ 65536 := by have := hks.dk.n2; omega
      obtain ⟨mb, mc, hmv, -, -⟩ := hks.bk.own.form (by omega)
      rw [hM] at hmv
      subst hmv
      have c0 := hks.bk.c0
      obtain ⟨d2, hfl, hok2⟩ := hks.ok.flush
      obtain ⟨may, hmay⟩ : ∃ may, ls.map Prod.snd = may := ⟨_, rfl⟩
      rw [hmay] at hok2
      have hml : may.length = M := by rw [← hmay, ← hM]; simp
      have hdn2 : d2.n = n := by have := flush_n d; rw [hfl] at this; rw [this]; exact hdn
      have hlens : ∀ j, j < M → 0 < (may.getD j []).length ∧ (may.getD j []).length ≤ 100000000 := fun j hj => by
        have hjl : j < ls.length := by omega
        have := hks.lens _ (List.getElem_mem hjl)
        have e : may.getD j [] = ls[j].2 := by rw [← hmay]; simp [hjl]
        rw [e]
        exact ⟨this.1, by omega⟩
      have hat : ∀ j (hj : j < ls.length), ls[j].2 = may.getD j [] := fun j hj => by rw [← hmay]; simp [hj]
      have hclean : ∀ i, i < d2.n → d2.ca i = [] := fun i hi => by
        have hj : i < (may.map fun l => [lastZ l]).length := by have := hok2.n; omega
        exact ((hok2.each i hj).nil).2 (by simp)
      have HK := Lib.hid hks
      have HM := Lib.hid (And.intro hM (And.intro hml (And.intro hlens (And.intro hat (And.intro hok2 (And.intro hdn2 hclean))))))
      have HFL := Lib.hid hfl
      clear hks hM hml hlens hat hok2 hdn2 hclean hfl hdn hlen3 hmay
      go_wp2_with fail
      refine (flush_x HK.out.dk).mono ?_
      rw [HFL.out]
      rintro e w2 ⟨rfl, F2, k2, hk2, hx2, hg2, kp2⟩
      have hb2 := HK.out.bk.keep kp2 (fun x hx hF => HK.out.dis x hF hx)
      have hfl2 : ∀ x, F2 x → w.heap.size ≤ x ∧ x < w2.heap.size := fun x hx => by
        rcases hg2 x hx with hh | hh
        · have := HK.out.fl x hh; exact ⟨this.1, by have := kp2.size; omega⟩
        · exact ⟨by have := hh.1; have := HK.out.kp.size; omega, hh.2⟩
      have hds2 : ∀ x, F2 x → ¬ B x := fun x hx hB => by
        rcases hg2 x hx with hh | hh
        · exact HK.out.dis x hh hB
        · have := hh.1; have := (HK.out.bl x hB).2; omega
      have hbl2 : ∀ x, B x → w.heap.size ≤ x ∧ x < w2.heap.size := fun x hx => ⟨(HK.out.bl x hx).1, by have := (HK.out.bl x hx).2; have := kp2.size; omega⟩
      have hkp2 : KpN w w2 := HK.out.kp.fresh kp2 (fun x hx => (HK.out.fl x hx).1)
      have c02 := hb2.c0
      have H2 := Lib.hid (And.intro hx2 (And.intro hds2 (And.intro hfl2 (And.intro hbl2 (And.intro hkp2 hb2)))))
      clear hx2 hg2 kp2 hb2 hfl2 hds2 hbl2 hkp2 c0
      go_wp2_with fail
      refine (image_x H2.out.1).mono ?_
      rintro e w3 ⟨iv, rfl, oi, k3⟩
      obtain ⟨im, him⟩ : ∃ im, imageD d2 = im := ⟨_, rfl⟩
      rw [him] at oi
      have hb3 := H2.out.2.2.2.2.2.keepN k3
      have hz3 := k3.size
      have hiB : ∀ x, iv.ownBlock = some x → ¬ B x ∧ ¬ F2 x ∧ x < w3.heap.size := fun x hx => by
        have h1 := oi.fit x hx
        exact ⟨fun h => by have := (H2.out.2.2.2.1 x h).2; have := h1.1; omega, fun h => by have := (H2.out.2.2.1 x h).2; have := h1.1; omega, h1.2⟩
      have HI := Lib.hid (And.intro oi.readsB (And.intro hiB him))
      have HB3 := Lib.hid hb3
      have K3 := Lib.hid k3
      clear oi hiB him hb3 c02 k3
      go_wp2_with fail
      go_loopw [11, 12] (fun i _ wr => FlRel w3 B kb g mb M mc next may i wr) (fun i _ _ => M - (intOf i).toNat)
      case atStart => exact ⟨0, ls, B, Nat.zero_le _, rfl, HB3.out, HM.out.1, fun j hj => by rw [if_neg (by omega)]; exact HM.out.2.2.2.1 j hj, Gr.refl _ _ _, Kp.refl _ _⟩
      case round =>
        obtain ⟨p, lq, B', hp, rfl, hb, hlq0, hls, hgr, hkp⟩ := hrel
        have c1 := hb.c1
        by_cases hpm : p < M
        · have hql : p < lq.length := by omega
          have hlq : lq[p].2 = may.getD p [] := by rw [hls p hql, if_neg (by omega)]
          have hps := HM.out.2.2.1 p hpm
          have hoq := hb.own.each p hql
          rw [hlq] at hoq
          obtain ⟨mq, hmq⟩ : ∃ mq, may.getD p [] = mq := ⟨_, rfl⟩
          rw [hmq] at hoq hps hlq
          obtain ⟨lv, hlv⟩ : ∃ lv, lq[p].1 = lv := ⟨_, rfl⟩
          have hmc := hb.own.cellAt p hql
          rw [hlv] at hoq hmc
          obtain ⟨lb, MM, lc, rfl, hMM, hlc⟩ := last_at hoq hps.1
          have hMb : MM ≤ 200000000 := by omega
          obtain ⟨Y, hY⟩ : ∃ Y, lastZ mq = Y := ⟨_, rfl⟩
          rw [hY] at hlc
          have HX := Lib.hid (And.intro hlq (And.intro hmq (And.intro hlv (And.intro hY (And.intro hb (And.intro hls (And.intro hgr hoq)))))))
          clear hlq hmq hlv hY hb hls hgr hoq hps hMM
          go_wp2_with fail
          refine rg_begin 13 (fun _ => False) (by kernel_rfl) (fun w4 d4 => ?_)
          obtain ⟨hlq, hmq, hlv, hY, hb, hls, hgr, hoq⟩ := HX.out
          have hb4 := hb.keepN d4
          have hmc4 := hb4.own.cellAt p hql
          rw [hlv] at hmc4
          have hmf4 := hb4.own.row.frozenAt' p
          have hmlt4 : mb < w4.heap.size := hb4.own.row.lt mb rfl
          have hlblt : lb < wr.heap.size := hoq.lt lb rfl
          have hlc4 : w4.cell? ⟨lb, MM, none⟩ = some (.int .i64 Y) := by rw [d4.cell hlblt (fun x => x)]; exact hlc
          have hz4 := d4.size
          have hwM : IntKind.i64.wrap (MM : Int) = (MM : Int) := IntWalk.i64_in _ (by omega)
          have hMn : ¬ ((MM : Int) + 1 ≤ (MM : Int)) := by omega
          refine rg_take 0 (d := (some 61)) (v := .pointer (some ⟨kb, 0, none⟩)) (by decide) rfl rfl (by kernel_rfl) (by kernel_rfl) (by kernel_rfl) (fun _ _ _ h => h) rfl (fun W => rfl) ?_
          conv => arg 8; simp only [Act.put, List.setIfInBounds_toArray, List.set_cons_zero, List.set_cons_succ]
          refine rg_take 1 (d := (some 62)) (v := .pointer (some ⟨kb, 0, none⟩)) (by decide) rfl rfl (by kernel_rfl) (by kernel_rfl) (by kernel_rfl) (fun _ _ _ h => h) rfl (fun W => by go_simp) ?_
          conv => arg 8; simp only [Act.put, List.setIfInBounds_toArray, List.set_cons_zero, List.set_cons_succ]
          refine rg_take 2 (d := (some 63)) (v := .pointer (some ⟨kb, 1, none⟩)) (by decide) rfl rfl (by kernel_rfl) (by kernel_rfl) (by kernel_rfl) (fun _ _ _ h => h) rfl (fun W => by go_simp) ?_
          conv => arg 8; simp only [Act.put, List.setIfInBounds_toArray, List.set_cons_zero, List.set_cons_succ]
          refine rg_read 3 (d := (some 64)) (v := .slice (some ⟨mb, 0, none⟩) M mc) (by decide) (by kernel_rfl) (by kernel_rfl) rfl rfl (by kernel_rfl) (by kernel_rfl) (by kernel_rfl) (fun _ _ _ h => h) rfl (fun W hW => by have hc := (hW.cell (p := ⟨kb, 1, none⟩) (hb4.lt) (fun x => x)).trans (hb4.c1); go_simp) ?_
          conv => arg 8; simp only [Act.put, List.setIfInBounds_toArray, List.set_cons_zero, List.set_cons_succ]
          refine rg_take 4 (d := (some 65)) (v := .int .i64 p) (by decide) rfl rfl (by kernel_rfl) (by kernel_rfl) (by kernel_rfl) (fun _ _ _ h => h) rfl (fun W => rfl) ?_
          conv => arg 8; simp only [Act.put, List.setIfInBounds_toArray, List.set_cons_zero, List.set_cons_succ]
          refine rg_take 5 (d := (some 66)) (v := .slice (some ⟨lb, 0, none⟩) (MM+1) lc) (by decide) rfl rfl (by kernel_rfl) (by kernel_rfl) (by kernel_rfl) (fun _ _ _ h => h) rfl (fun W => rfl) ?_
          conv => arg 8; simp only [Act.put, List.setIfInBounds_toArray, List.set_cons_zero, List.set_cons_succ]
          refine rg_take 6 (d := (some 67)) (v := .slice (some ⟨lb, 0, none⟩) (MM+1) lc) (by decide) rfl rfl (by kernel_rfl) (by kernel_rfl) (by kernel_rfl) (fun _ _ _ h => h) rfl (fun W => rfl) ?_
          conv => arg 8; simp only [Act.put, List.setIfInBounds_toArray, List.set_cons_zero, List.set_cons_succ]
          refine rg_take 7 (d := (some 68)) (v := .int .i64 ((MM : Int) + 1)) (by decide) rfl rfl (by kernel_rfl) (by kernel_rfl) (by kernel_rfl) (fun _ _ _ h => h) rfl (fun W => by go_simp) ?_
          conv => arg 8; simp only [Act.put, List.setIfInBounds_toArray, List.set_cons_zero, List.set_cons_succ]
          refine rg_take 8 (d := (some 69)) (v := .int .i64 (MM : Int)) (by decide) rfl rfl (by kernel_rfl) (by kernel_rfl) (by kernel_rfl) (fun _ _ _ h => h) rfl (fun W => by go_simp) ?_
          conv => arg 8; simp only [Act.put, List.setIfInBounds_toArray, List.set_cons_zero, List.set_cons_succ]
          refine rg_take 9 (d := (some 70)) (v := .pointer (some ⟨lb, MM, none⟩)) (by decide) rfl rfl (by kernel_rfl) (by kernel_rfl) (by kernel_rfl) (fun _ _ _ h => h) rfl (fun W => by go_simp) ?_
          conv => arg 8; simp only [Act.put, List.setIfInBounds_toArray, List.set_cons_zero, List.set_cons_succ]
          refine rg_read 10 (d := (some 71)) (v := .int .i64 Y) (by decide) (by kernel_rfl) (by kernel_rfl) rfl rfl (by kernel_rfl) (by kernel_rfl) (by kernel_rfl) (fun _ _ _ h => h) rfl (fun W hW => by have hc := (hW.cell (p := ⟨lb, MM, none⟩) ((show lb < _ by omega)) (fun x => x)).trans (hlc4); go_simp) ?_
          conv => arg 8; simp only [Act.put, List.setIfInBounds_toArray, List.set_cons_zero, List.set_cons_succ]
          refine rg_onlyW 11 (w' := w4.alloc (.cells #[.int .i64 Y] 3)) (d := (some 72)) (v := .slice (some ⟨w4.heap.size, 0, none⟩) 1 1) rfl rfl (by kernel_rfl) rfl (run_lit1_op Y w4 rfl) ((Kp.refl _ w4).alloc _) ?_
          conv => arg 8; simp only [Act.put, List.setIfInBounds_toArray, List.set_cons_zero, List.set_cons_succ]
          refine rg_take 12 (d := (some 73)) (v := .pointer (some ⟨mb, p, none⟩)) (by decide) rfl rfl (by kernel_rfl) (by kernel_rfl) (by kernel_rfl) (fun _ _ _ h => h) rfl (fun W => by go_simp) ?_
          conv => arg 8; simp only [Act.put, List.setIfInBounds_toArray, List.set_cons_zero, List.set_cons_succ]
          refine rg_lastS (G := fun _ => True) ((w4.alloc (.cells #[.int .i64 Y] 3)).setCell ⟨mb, p, none⟩ (.slice (some ⟨w4.heap.size, 0, none⟩) 1 1)) (d := none) rfl rfl (by kernel_rfl) rfl (run_store_op (run_storeAt_one _ mb p 29 _ (by rw [((Kp.refl (fun _ => False) w4).alloc (.cells #[.int .i64 Y] 3)).cell hmlt4 (fun x => x), hmc4]; rfl) (by rw [((Kp.refl (fun _ => False) w4).alloc (.cells #[.int .i64 Y] 3)).frozen hmlt4 (fun x => x)]; exact hmf4) (by kernel_rfl) rfl rfl) rfl rfl) (by kernel_rfl) ?_
          conv => arg 8; simp only [Act.put, List.setIfInBounds_toArray, List.set_cons_zero, List.set_cons_succ]
          refine rg_done (by kernel_rfl) ?_
          have ka := (Kp.refl (fun _ => False) w4).alloc (.cells #[.int .i64 Y] 3)
          have hput := hb4.put (G := fun x => B' x ∨ Iv w4.heap.size (w4.heap.size + 1) x) p hql (ka.mono (fun _ _ x => x.elim)) ((ow_lit1 Y w4).wide (fun x _ e => .inr ⟨by omega, by omega⟩)) (.inr (fun x e => by have e : w4.heap.size = x := Option.some.inj e; omega)) (fun x hx => .inl hx)
          have hsz : ((w4.alloc (.cells #[.int .i64 Y] 3)).setCell ⟨mb, p, none⟩ (.slice (some ⟨w4.heap.size, 0, none⟩) 1 1)).heap.size = w4.heap.size + 1 := by simp
          have hmbB : B' mb := hb.own.row.fit mb rfl
          have kall : Kp B' wr ((w4.alloc (.cells #[.int .i64 Y] 3)).setCell ⟨mb, p, none⟩ (.slice (some ⟨w4.heap.size, 0, none⟩) 1 1)) := (((Kp.refl B' wr).thenN d4).thenN ka).trans (kp1_set (F := fun x => x = mb) rfl p _) (fun _ _ x => x) (fun x _ e => by rw [e]; exact hmbB)
          have hrel' : FlRel w3 B kb g mb M mc next may (.int .i64 ((p : Int) + 1)) ((w4.alloc (.cells #[.int .i64 Y] 3)).setCell ⟨mb, p, none⟩ (.slice (some ⟨w4.heap.size, 0, none⟩) 1 1)) := by
            refine ⟨p + 1, _, _, by omega, by go_num, hput, by rw [List.length_set]; exact hlq0, fun j hj => ?_, hgr.trans (fun x hx => ?_) hkp.size kall.size, hgr.kp hkp kall⟩
            · rw [List.length_set] at hj
              by_cases hje : j = p
              · subst hje
                rw [List.getElem_set_self, if_pos (by omega), hmq, hY]
              · rw [List.getElem_set_ne (Ne.symm hje), hls j hj]
                by_cases hjq : j < p
                · rw [if_pos hjq, if_pos (by omega)]
                · rw [if_neg hjq, if_neg (by omega)]
            · rw [hsz]
              rcases hx with h | h
              · exact .inl h
              · exact .inr ⟨by have := h.1; omega, h.2⟩
          clear hput hsz kall hwM hMn
          generalize ((w4.alloc (.cells #[.int .i64 Y] 3)).setCell ⟨mb, p, none⟩ (.slice (some ⟨w4.heap.size, 0, none⟩) 1 1)) = WE at hrel' ⊢
          have HR := Lib.hid hrel'
          clear hrel' hlq hmq hlv hY hb hls hgr hoq hmc4 hmf4 hb4 hlc4
          go_wp2_with fail
          exact ⟨HR.out, meas_up hpm⟩
        · have hpM : M = p := by omega
          subst hpM
          have hfin : lq.map Prod.snd = may.map fun l => [lastZ l] := by
            have hml := HM.out.2.1
            apply List.ext_getElem
            · simp [hlq0, hml]
            · intro j h1 h2
              have hj : j < lq.length := by simpa using h1
              have hjm : j < may.length := by omega
              rw [List.getElem_map, hls j hj, if_pos (by omega)]
              simp [hjm]
          have hz3 := K3.out.size
          have hks := KS.after (w0 := w) (H2.out.1.keepN K3.out) H2.out.2.1 (fun x hx => ⟨(H2.out.2.2.1 x hx).1, by have := (H2.out.2.2.1 x hx).2; omega⟩) (fun x hx => ⟨(H2.out.2.2.2.1 x hx).1, by have := (H2.out.2.2.2.1 x hx).2; omega⟩) (H2.out.2.2.2.2.1.thenN K3.out) hb (by rw [hfin]; exact HM.out.2.2.2.2.1) hgr hkp
          have hir : RdB wr iv im := HI.out.1.keep hkp (fun x hx hB => (HI.out.2.1 x hx).1 hB)
          have HST : LastRel w kb g n CM im iv (.slice (some ⟨mb, 0, none⟩) M mc) (may.map fun l => [lastZ l]) (.int .i64 0) wr := ⟨0, F2, B', k2, d2, lq, next, Nat.zero_le _, rfl, by omega, by omega, HM.out.2.2.2.2.2.1, HI.out.2.2, HM.out.2.2.2.2.2.2, hfin, hks, hir, fun x hx => (HI.out.2.1 x hx).2.1⟩
          have HS := Lib.hid HST
          clear HST hks hir hfin hb hls hgr
          go_wp2_with fail
          go_loopw [13] (fun i wr => LastRel w kb g n CM im iv (.slice (some ⟨mb, 0, none⟩) M mc) (may.map fun l => [lastZ l]) i wr) (fun i _ => CM - (intOf i).toNat)
          case atStart => exact HS.out
          case round =>
            clear HS
            obtain ⟨t, F, B, k, d, ls, next, ht, rfl, hkb, hnb, hdn, him, hcln, hmay, hks, hir, hiF⟩ := hrel
            by_cases hltc : t < CM
            · have htl : t < cr.length := by rw [HCM.out]; exact hltc
              obtain ⟨cad, cs, rfl, -, hrow0, ⟨⟨cv, rfl, hcv⟩, hcz⟩⟩ := HC.out.row t htl
              have hsz := listsSize_mem cr cr[t] (List.getElem_mem htl)
              rw [Nat.mul_one] at hrow0
              have hclt : (cad.add t).block < w.heap.size := World.block_lt_of_cell? w _ hrow0.c0
              obtain ⟨Av, cvc, rfl, -⟩ := RdC.form hcv
              obtain ⟨ch, hch⟩ : ∃ ch, cr[t] = ch := ⟨_, rfl⟩
              rw [hch] at hcv hcz hsz hrow0
              obtain ⟨CL, hCL⟩ : ∃ CL, ch.length = CL := ⟨_, rfl⟩
              rw [hCL] at hcv hsz hrow0
              have HKS := Lib.hid hks
              have HD := Lib.hid (And.intro hdn (And.intro him (And.intro hcln (And.intro hmay (And.intro hir (And.intro hiF (And.intro hcv hcz)))))))
              clear hks hdn him hcln hmay hir hiF hcv hcz hch hCL
              go_wp2_with fail
              refine rg_begin 9 (fun b => F b) (by kernel_rfl) (fun w5 d5 => ?_)
              have h5 := HKS.out.keepN d5
              have hcn : ¬ F (cad.add t).block := fun h => by have := (HKS.out.fl _ h).1; omega
              have hr5 := (hrow0.keepN h5.kp).c0
              have hz5 := d5.size
              have hw5 := h5.kp.size
              have hcx := crash_x (ch := ch) h5.dk (by omega) (HD.out.2.2.2.2.2.2.1.keepN h5.kp) (fun hne x hx hF => by have := rdI_blk HD.out.2.2.2.2.2.2.1 hne x hx; have := (h5.fl x hF).1; omega) (by omega)
              refine rg_take 0 (d := (some 80)) (v := .pointer (some ⟨kb, 0, none⟩)) (by decide) rfl rfl (by kernel_rfl) (by kernel_rfl) (by kernel_rfl) (fun _ _ _ h => h) rfl (fun W => rfl) ?_
              conv => arg 8; simp only [Act.put, List.setIfInBounds_toArray, List.set_cons_zero, List.set_cons_succ]
              refine rg_take 1 (d := (some 81)) (v := .pointer (some ⟨kb, 0, none⟩)) (by decide) rfl rfl (by kernel_rfl) (by kernel_rfl) (by kernel_rfl) (fun _ _ _ h => h) rfl (fun W => by go_simp) ?_
              conv => arg 8; simp only [Act.put, List.setIfInBounds_toArray, List.set_cons_zero, List.set_cons_succ]
              refine rg_take 2 (d := (some 82)) (v := .pointer (some ⟨kb, 0, none⟩)) (by decide) rfl rfl (by kernel_rfl) (by kernel_rfl) (by kernel_rfl) (fun _ _ _ h => h) rfl (fun W => by go_simp) ?_
              conv => arg 8; simp only [Act.put, List.setIfInBounds_toArray, List.set_cons_zero, List.set_cons_succ]
              refine rg_read 3 (d := (some 83)) (v := ptrD g) (by decide) (by kernel_rfl) (by kernel_rfl) rfl rfl (by kernel_rfl) (by kernel_rfl) (by kernel_rfl) (fun _ _ _ h => h) rfl (fun W hW => by have hc := (hW.cell (p := ⟨kb, 0, none⟩) (h5.bk.lt) (fun hh => h5.dis _ hh h5.bk.fit)).trans (h5.bk.c0); go_simp) ?_
              conv => arg 8; simp only [Act.put, List.setIfInBounds_toArray, List.set_cons_zero, List.set_cons_succ]
              refine rg_take 4 (d := (some 84)) (v := .slice (some cad) CM cc) (by decide) rfl rfl (by kernel_rfl) (by kernel_rfl) (by kernel_rfl) (fun _ _ _ h => h) rfl (fun W => rfl) ?_
              conv => arg 8; simp only [Act.put, List.setIfInBounds_toArray, List.set_cons_zero, List.set_cons_succ]
              refine rg_take 5 (d := (some 85)) (v := .int .i64 t) (by decide) rfl rfl (by kernel_rfl) (by kernel_rfl) (by kernel_rfl) (fun _ _ _ h => h) rfl (fun W => rfl) ?_
              conv => arg 8; simp only [Act.put, List.setIfInBounds_toArray, List.set_cons_zero, List.set_cons_succ]
              refine rg_take 6 (d := (some 86)) (v := .pointer (some (cad.add t))) (by decide) rfl rfl (by kernel_rfl) (by kernel_rfl) (by kernel_rfl) (fun _ _ _ h => h) rfl (fun W => by go_simp) ?_
              conv => arg 8; simp only [Act.put, List.setIfInBounds_toArray, List.set_cons_zero, List.set_cons_succ]
              refine rg_read 7 (d := (some 87)) (v := .slice Av CL cvc) (by decide) (by kernel_rfl) (by kernel_rfl) rfl rfl (by kernel_rfl) (by kernel_rfl) (by kernel_rfl) (fun _ _ _ h => h) rfl (fun W hW => by have hc := (hW.cell (p := (cad.add t)) ((by omega)) (fun hh => hcn hh)).trans (hr5); go_simp) ?_
              conv => arg 8; simp only [Act.put, List.setIfInBounds_toArray, List.set_cons_zero, List.set_cons_succ]
              refine rg_call 8 (d := (some 88)) (by kernel_rfl) (hcx) rfl rfl (by kernel_rfl) rfl rfl ?_
              rintro e w6 ⟨⟨u6, rfl⟩, hx6, kp6⟩
              refine ⟨_, rfl, kp6, ?_⟩
              conv => arg 8; simp only [Act.put, List.setIfInBounds_toArray, List.set_cons_zero, List.set_cons_succ]
              refine rg_done (by kernel_rfl) ?_
              have hb6 := h5.bk.keep kp6 (fun x hx hF => h5.dis x hF hx)
              have hok6 := h5.ok.crash ch
              rw [HD.out.2.2.2.1, crB_clean _ _ _ (fun l hl => by obtain ⟨x, _, rfl⟩ := List.mem_map.1 hl; rfl)] at hok6
              rw [← HD.out.2.2.2.1] at hok6
              have hks6 : KS w w6 F B kb g k (crashD d ch) (.slice (some ⟨mb, 0, none⟩) M mc) ls next := ⟨hx6, hb6, hok6, h5.dis, fun x hx => ⟨(h5.fl x hx).1, by have := (h5.fl x hx).2; have := kp6.size; omega⟩, fun x hx => ⟨(h5.bl x hx).1, by have := (h5.bl x hx).2; have := kp6.size; omega⟩, h5.kp.fresh kp6 (fun x hx => (h5.fl x hx).1)⟩
              have him6 : imageD (crashD d ch) = im := by rw [clean_image d ch HD.out.2.2.1]; exact HD.out.2.1
              have hir6 : RdB w6 iv im := (HD.out.2.2.2.2.1.keepN d5).keep kp6 (fun x hx hF => HD.out.2.2.2.2.2.1 x hx hF)
              have himl := image_len (crashD d ch) hx6.len
              rw [him6] at himl
              have hn6 := hx6.n2
              have H6 := Lib.hid (And.intro hks6 (And.intro him6 (And.intro hir6 himl)))
              clear h5 hcn hr5 hcx hx6 hb6 hok6 hks6 him6 hir6 himl
              go_wp2_with fail
              refine (present_c H6.out.1 (by omega) (fun l hl => by have := (H6.out.1.lens l hl).2; omega)).mono ?_
              rintro e w7 ⟨rfl, k7⟩
              have c07 := (H6.out.1.keepN k7).bk.c0
              go_wp2_with fail
              refine (image_x (H6.out.1.keepN k7).dk).mono ?_
              rw [H6.out.2.1]
              rintro e w8 ⟨v8, rfl, o8, k8⟩
              clear c07
              go_wp2_with fail
              refine (Bytes_c o8.readsB ((H6.out.2.2.1.keepN k7).keepN k8) (by rw [H6.out.2.2.2]; omega)).mono ?_
              rintro e w9 ⟨rfl, k9⟩
              rw [show decide (im = im) = true by simp]
              have k69 := (k7.thenN k8).thenN k9
              go_wp2_with fail
              go_roundw
              case rel => exact ⟨t + 1, F, B, k, _, ls, next, by omega, by go_num, hkb, hnb, by rw [crashD_n]; exact HD.out.1, H6.out.2.1, fun i _ => rfl, HD.out.2.2.2.1, H6.out.1.keepN k69, H6.out.2.2.1.keepN k69, HD.out.2.2.2.2.2.1⟩
              case measure => exact meas_up hltc
            · have hkp := hks.kp
              clear hks hir
              go_wp2_with fail
              go_ret
              exact ⟨rfl, hkp⟩
end Go.Proofs.Ythkbgbbejgpeaaa
