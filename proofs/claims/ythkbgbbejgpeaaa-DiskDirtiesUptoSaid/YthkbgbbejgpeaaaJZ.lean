/- DiskDirties: what the call does. -/
import Derived.Test.YthkbgbbejgpeaaaJY
namespace Go.Proofs.Ythkbgbbejgpeaaa
open Go Go.RowKit
set_option maxRecDepth 100000

def dirtyQ (may : List (List Int)) (q : Nat) : List Int := ((List.range q).filter fun i => decide (1 < (may.getD i []).length)).map fun (i : Nat) => (i : Int)
def versQ (may : List (List Int)) (q : Nat) : List Int := ((List.range q).filter fun i => decide (1 < (may.getD i []).length)).map fun (i : Nat) => (((may.getD i []).length - 1 : Nat) : Int)
theorem dirtyQ_yes (may : List (List Int)) (q : Nat) (h : 1 < (may.getD q []).length) : dirtyQ may (q + 1) = dirtyQ may q ++ [(q : Int)] ∧ versQ may (q + 1) = versQ may q ++ [(((may.getD q []).length - 1 : Nat) : Int)] := by
  unfold dirtyQ versQ
  rw [List.range_succ, List.filter_append, List.map_append, List.map_append]
  simp only [List.filter_cons, List.filter_nil, h, decide_true, if_true, List.map_cons, List.map_nil]
  exact ⟨trivial, trivial⟩
theorem dirtyQ_no (may : List (List Int)) (q : Nat) (h : ¬ 1 < (may.getD q []).length) : dirtyQ may (q + 1) = dirtyQ may q ∧ versQ may (q + 1) = versQ may q := by
  unfold dirtyQ versQ
  rw [List.range_succ, List.filter_append, List.map_append, List.map_append]
  simp only [List.filter_cons, List.filter_nil, h, decide_false, if_false, List.map_nil, List.append_nil, Bool.false_eq_true]
  exact ⟨trivial, trivial⟩
theorem dirtyQ_len (may : List (List Int)) (q : Nat) : (dirtyQ may q).length ≤ q ∧ (versQ may q).length ≤ q := by
  unfold dirtyQ versQ
  rw [List.length_map, List.length_map]
  have : ((List.range q).filter fun i => decide (1 < (may.getD i []).length)).length ≤ (List.range q).length := List.length_filter_le _ _
  simp at this
  simp
  omega
/-- one int more -/
theorem run_appI {w : World} {F : Nat → Prop} {v : Value} {zs : List Int} (h : OwI w F v zs) (z : Int) (hl : zs.length ≤ 100000000) :
    ∃ v' w', (Builtin.append_ #[29, 29] 29 #[v, .slice (some ⟨w.heap.size, 0, none⟩) 1 1]).run Try.prog (w.alloc (.cells #[.int .i64 z] 3)) = .ok v' w' ∧ OwI w' (fun b => F b ∨ Iv w.heap.size w'.heap.size b) v' (zs ++ [z]) ∧ Kp (fun b => v.ownBlock = some b) w w' ∧ (v'.ownBlock = v.ownBlock ∨ ∀ b, v'.ownBlock = some b → w.heap.size ≤ b) := by
  have kl : KpN w (w.alloc (.cells #[.int .i64 z] 3)) := (Kp.refl _ _).alloc _
  obtain ⟨v', w', r, o, k, hat⟩ := run_app (P := Try.prog) (t := 29) (ty := 29) (w.alloc (.cells #[.int .i64 z] 3)) Try.underlying29 intInfo rfl (by omega) (h.keepN kl).c (ow_lit1 z w).rd (by intro u hu; simp at hu; subst hu; rfl) (by simp; omega) (by simp; omega)
  have hz := kl.size
  refine ⟨v', w', r, ?_, Kp.after kl k, ?_⟩
  · unfold OwI
    rw [List.length_append, List.map_append]
    exact o.wide (fun b _ hb => by
      rcases hb with hb | hb
      · exact .inl hb
      · exact .inr ⟨by have := hb.1; omega, hb.2⟩)
  · rcases hat with h | h
    · exact .inl h
    · exact .inr (fun b hb => by rw [h] at hb; have e := Option.some.inj hb; omega)
def DirRel (wb : World) (L : Nat) (may : List (List Int)) (lv nv i : Value) (wr : World) : Prop := ∃ q : Nat, q ≤ L ∧ i = .int .i64 q ∧ OwI wr (fun b => wb.heap.size ≤ b) lv (dirtyQ may q) ∧ OwI wr (fun b => wb.heap.size ≤ b) nv (versQ may q) ∧ (∀ b, lv.ownBlock = some b → nv.ownBlock ≠ some b) ∧ KpN wb wr
theorem cast_sub1 (n : Nat) (h : 1 ≤ n) : (n : Int) - 1 = ((n - 1 : Nat) : Int) := by omega
set_option maxHeartbeats 6400000 in
theorem ddirties_walk {w : World} {sectors : Int} {va : Value} {l : List Stp} (hs : I64 sectors) (ha : RdSteps w va l) (hla : stepsSize l ≤ 2000000) :
    Calls Try.prog 9 #[.int .i64 sectors, va] w fun e w' => e = .returned (.bool true) ∧ KpN w w' := by
  obtain ⟨Aa, ca, rfl, -⟩ := SlAt.form ha
  obtain ⟨n, hn, hn1, hn2⟩ := span_nat (n := sectors) (lo := 1) (hi := 65536) (by omega) (by omega)
  have hll := stepsSize_len l
  obtain ⟨L, hL⟩ : ∃ L, l.length = L := ⟨_, rfl⟩
  rw [hL] at ha hll ⊢
  have HA := Lib.hid ha
  have HL := Lib.hid hL
  have HN := Lib.hid hn
  clear ha hL hn
  go_enter Try.func9, Try.ntmps9
  go_wp2_with fail
  refine (begin_c hs HN.out (by omega) (by omega)).mono ?_
  rintro e w1 ⟨kb, g, mv, ls, F, B, rfl, hks⟩
  have HK2 := Lib.hid hks
  clear hks
  go_wp2_with fail
  go_loopw [7] (fun i wr => PickRel w kb g n L i wr) (fun i _ => L - (intOf i).toNat)
  case atStart => exact ⟨0, _, _, _, _, _, _, _, Nat.zero_le _, rfl, Nat.le_refl _, Nat.le_refl _, rfl, HK2.out⟩
  case round =>
    clear HK2
    obtain ⟨q, F, B, k, d, mv, ls, next, hq, rfl, hkq, hnq, hdn, hks⟩ := hrel
    by_cases hlt : q < L
    · have hql : q < l.length := by rw [HL.out]; exact hlt
      obtain ⟨ad, Do, At, Ac, nn, cc, rfl, hrow, hDo, hstep⟩ := step_at hks (by omega) (by omega) HA.out hla q hql
      have c0 := hrow.c0
      have c1 := hrow.fld 0 rfl
      have c2 := hrow.fld 1 rfl
      have HST := Lib.hid hstep
      have HDN := Lib.hid hdn
      clear hks hstep hDo hdn
      go_wp2_with fail
      refine HST.out.mono ?_
      rintro e w3 ⟨rfl, F3, B3, k3, d3, mv3, ls3, next3, hk3, hn3, hd3, hks3⟩
      have hd3n : d3.n = n := by rw [hd3]; exact HDN.out
      have hlen3 := hks3.ls_len
      obtain ⟨M, hM⟩ : ∃ M, ls3.length = M := ⟨_, rfl⟩
      have hM1 : 1 ≤ M := by have := hks3.dk.n1; omega
      have hM2 : M ≤ 65536 := by have := hks3.dk.n2; omega
      obtain ⟨mb, mc, hmv, -, -⟩ := hks3.bk.own.form (by omega)
      rw [hM] at hmv
      subst hmv
      obtain ⟨may, hmay⟩ : ∃ may, ls3.map Prod.snd = may := ⟨_, rfl⟩
      have hml : may.length = M := by rw [← hmay, ← hM]; simp
      have hlens : ∀ j, j < M → 0 < (may.getD j []).length ∧ (may.getD j []).length ≤ 100000000 := fun j hj => by
        have hjl : j < ls3.length := by omega
        have := hks3.lens _ (List.getElem_mem hjl)
        have e : may.getD j [] = ls3[j].2 := by rw [← hmay]; simp [hjl]
        rw [e]
        exact ⟨this.1, by omega⟩
      have hdz := hks3.ok.dirty
      rw [hmay] at hdz
      have e1 : dirtyB may = dirtyQ may M := by unfold dirtyB dirtyQ; rw [hml]
      have e2 : versB may = versQ may M := by unfold versB versQ; rw [hml]
      rw [e1, e2] at hdz
      have HK3 := Lib.hid hks3
      have HD3 := Lib.hid hd3n
      have HM := Lib.hid (And.intro hM (And.intro hmay (And.intro hlens (And.intro hdz (hks3.bk.sep mb rfl)))))
      clear c0 c1 c2 hrow hks3 hd3 hd3n hlen3 hM hmay hml hlens hdz e1 e2
      go_wp2_with fail
      go_loopw [8, 9, 10] (fun lv nv i wr => DirRel w3 M may lv nv i wr) (fun _ _ i _ => M - (intOf i).toNat)
      case atStart => exact ⟨0, Nat.zero_le _, rfl, OwI.nil _ _, OwI.nil _ _, fun b hb => (by cases hb), Kp.refl _ _⟩
      case round =>
        obtain ⟨p, hp, rfl, ol, on, hdj, hk⟩ := hrel
        have hs := HK3.out.keepN hk
        have c1 := hs.bk.c1
        by_cases hpm : p < M
        · have hpl : p < ls3.length := by have := HM.out.1; omega
          have hmc := hs.bk.own.cellAt p hpl
          have hoq := hs.bk.own.each p hpl
          have e : may.getD p [] = ls3[p].2 := by rw [← HM.out.2.1]; simp [hpl]
          have hle := HM.out.2.2.1 p hpm
          have hdq := dirtyQ_len may p
          obtain ⟨Al, cl, hlv, -⟩ := RdC.form hoq.rd
          rw [hlv, ← e] at hmc
          obtain ⟨LL, hLL⟩ : ∃ LL, (may.getD p []).length = LL := ⟨_, rfl⟩
          rw [hLL] at hmc hle
          obtain ⟨Av, cv, rfl, -⟩ := RdC.form ol.rd
          obtain ⟨An, cn, rfl, -⟩ := RdC.form on.rd
          obtain ⟨DL, hDL⟩ : ∃ DL, (dirtyQ may p).length = DL := ⟨_, rfl⟩
          obtain ⟨VL, hVL⟩ : ∃ VL, (versQ may p).length = VL := ⟨_, rfl⟩
          rw [hDL] at ol hdj ⊢
          rw [hVL] at on hdj ⊢
          have hkb : kb < wr.heap.size := hs.bk.lt
          have hmb : mb < wr.heap.size := hs.bk.own.row.lt mb rfl
          by_cases hgt : 1 < LL
          · obtain ⟨v1, w4, r1, o1, kp1, hat1⟩ := run_appI ol (p : Int) (by omega)
            have on4 := on.keepB kp1 (fun b h1 h2 => hdj b h2 h1)
            have hz4 := kp1.size
            obtain ⟨v2, w5, r2, o2, kp2, hat2⟩ := run_appI on4 (((LL - 1 : Nat) : Int)) (by omega)
            have hz5 := kp2.size
            have kN1 : KpN w3 w4 := hk.fresh kp1 (fun b e => ol.fit b e)
            have kN2 : KpN w3 w5 := kN1.fresh kp2 (fun b e => on.fit b e)
            have hnew : ∀ b, v1.ownBlock = some b → (Value.slice An VL cn).ownBlock ≠ some b := fun b h1 h2 => by
              rcases hat1 with h | h
              · exact hdj b (by rw [← h]; exact h1) h2
              · have := h b h1; have := on.lt b h2; omega
            have o1' := o1.keepB kp2 (fun b h1 h2 => hnew b h1 h2)
            have hyes := dirtyQ_yes may p (by rw [hLL]; exact hgt)
            rw [hLL] at hyes
            have hfin : DirRel w3 M may v1 v2 (.int .i64 ((p : Int) + 1)) w5 := by
              refine ⟨p + 1, by omega, by go_num, by rw [hyes.1]; exact o1'.wide (fun b _ hb => by rcases hb with hb | hb; exact hb; have := hb.1; have := hk.size; omega), by rw [hyes.2]; exact o2.wide (fun b _ hb => by rcases hb with hb | hb; exact hb; have := hb.1; have := hk.size; omega), fun b h1 h2 => ?_, kN2⟩
              rcases hat2 with h | h
              · exact hnew b h1 (by rw [← h]; exact h2)
              · have := h b h2; have := o1.lt b h1; omega
            have HF := Lib.hid hfin
            have c14 : w4.cell? ⟨kb, 1, none⟩ = some (.slice (some ⟨mb, 0, none⟩) M mc) := by
              have := (HK3.out.keepN kN1).bk.c1; exact this
            have c24 : w4.cell? ⟨mb, p, none⟩ = some (.slice Al LL cl) := by
              have h9 := (HK3.out.keepN kN1).bk.own.cellAt p hpl
              rw [hlv, ← e, hLL] at h9
              exact h9
            have hcs := cast_sub1 LL (by omega)
            rw [← hcs] at r2
            clear hfin hyes o1' hnew on4 o1 o2 hat1 hat2 kN1 kN2 hs hoq hlv e hLL hDL hVL ol on hdj hcs
            go_wp2_with (at_builtin; (with_reducible first | refine app_op r1 rfl rfl ?_ | refine app_op r2 rfl rfl ?_))
            exact ⟨HF.out, meas_up hpm⟩
          · have hno := dirtyQ_no may p (by rw [hLL]; exact hgt)
            have hfin : DirRel w3 M may (.slice Av DL cv) (.slice An VL cn) (.int .i64 ((p : Int) + 1)) wr := ⟨p + 1, by omega, by go_num, by rw [hno.1]; exact ol, by rw [hno.2]; exact on, hdj, hk⟩
            have HF := Lib.hid hfin
            have hLL1 : LL = 1 := by omega
            clear hfin hno hs hoq hlv e hLL hDL hVL ol on hdj
            go_wp2_with fail
            exact ⟨HF.out, meas_up hpm⟩
        · have hpM : M = p := by omega
          subst hpM
          have c0 := hs.bk.c0
          have hdd := dirty_y hs.dk (by omega)
          have hdq := dirtyQ_len may M
          have HOL := Lib.hid ol.rd
          have HON := Lib.hid on.rd
          have HDD := Lib.hid hdd
          have HDQ := Lib.hid hdq
          clear hs ol on hdd hdj hdq
          go_wp2_with fail
          refine HDD.out.mono ?_
          rintro e w6 ⟨x, y, rfl, ox, oy, k6⟩
          rw [HM.out.2.2.2.1.1] at ox
          rw [HM.out.2.2.2.1.2] at oy
          go_wp2_with fail
          refine (Ints_c ox.rd (HOL.out.keepN k6) (by have := HDQ.out.1; omega)).mono ?_
          rintro e w7 ⟨rfl, k7⟩
          rw [show decide (dirtyQ may M = dirtyQ may M) = true by simp]
          go_wp2_with fail
          refine (Ints_c (oy.rd.keepN k7) ((HON.out.keepN k6).keepN k7) (by have := HDQ.out.2; omega)).mono ?_
          rintro e w8 ⟨rfl, k8⟩
          rw [show decide (versQ may M = versQ may M) = true by simp]
          go_wp2_with fail
          go_roundw
          case rel => exact ⟨q + 1, _, _, _, _, _, _, _, by omega, by go_num, by omega, by omega, HD3.out, (((HK3.out.keepN hk).keepN k6).keepN k7).keepN k8⟩
          case measure => exact meas_up hlt
    · have HK3 := Lib.hid hks
      clear hks
      go_wp2_with fail
      go_ret
      exact ⟨rfl, HK3.out.kp⟩
end Go.Proofs.Ythkbgbbejgpeaaa
