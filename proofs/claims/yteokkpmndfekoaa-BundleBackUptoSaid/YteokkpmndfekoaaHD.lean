/- BundleBack: the walk. -/
import Derived.Test.YteokkpmndfekoaaHC
import Derived.Test.YteokkpmndfekoaaBJ
namespace Go.Proofs.Yteokkpmndfekoaa
open Go Go.RowKit Go.ChangeShapes Go.WideShapes Go.ChangeAt
set_option maxRecDepth 100000

set_option maxHeartbeats 51200000 in
theorem backs_walk {w : World} {bv pv xv : Value} {b : Bdl} {text : List UInt8} (h : RdBd w bv pv b) (hsz : bdSize b ≤ 10000000) (hx : RdB w xv text) (hxl : text.length ≤ 10000000) : Calls Try.prog 9 #[bdV b bv pv, xv] w (TrueP w) := by
  obtain ⟨bA, bc, rfl, -⟩ := h.bl.form
  obtain ⟨pA, pc, rfl, -⟩ := h.pl.form
  obtain ⟨xA, xc, rfl, -⟩ := hx.form
  have hts := decB_size text
  have htd := fun (hh : decE text = 0) => dec_good hh
  obtain ⟨TB, hTB⟩ : ∃ z, decB text = z := ⟨_, rfl⟩
  obtain ⟨TE, hTE⟩ : ∃ z, decE text = z := ⟨_, rfl⟩
  have htc : ∀ W, KpN w W → Calls Try.prog 23 #[.slice xA text.length xc] W fun e w' => ∃ bv pv ls, e = .returned (.tuple #[bdV TB bv pv, .int .i64 TE]) ∧ OwBd w' 37 (Iv W.heap.size w'.heap.size) bv pv TB ls ∧ KpN W w' := fun W k => by
    have := decode_c (hx.keepN k) (by omega)
    unfold DecP DecQ at this
    rw [hTB, hTE] at this
    exact this
  rw [hTB] at hts htd
  rw [hTE] at htd
  have HT := Lib.hid (And.intro htc (And.intro hts (And.intro htd hx)))
  clear htc hts htd hTB hTE hx hxl
  obtain ⟨TL, hTL⟩ : ∃ z, text.length = z := ⟨_, rfl⟩
  rw [hTL] at HT ⊢
  clear hTL
  obtain ⟨w1, hw1, hx1, k1, hz1⟩ := rbundle_box w b (.slice bA b.bl.length bc) (.slice pA b.pl.length pc)
  have hl1 : ∀ W, KpN w1 W → (Instr.loadAt 29 (.pointer (some ⟨w.heap.size, 0, none⟩))).run Try.prog W = .ok (bdV b (.slice bA b.bl.length bc) (.slice pA b.pl.length pc)) W := fun W k => rbd_loadN hx1 (by omega) k
  have hgv : ∀ W, KpN w1 W → Calls Try.prog 13 #[bdV b (.slice bA b.bl.length bc) (.slice pA b.pl.length pc)] W (GivenP b W) := fun W k => given_c (h.keepN (k1.thenN k)) hsz
  have hsm := smallT_c w1
  obtain ⟨E, hE⟩ : ∃ E, valE b = E := ⟨_, rfl⟩
  have henc : ∀ W bv pv, RdBd W bv pv b → Calls Try.prog 26 #[bdV b bv pv] W fun e w' => ∃ v, e = .returned (.tuple #[v, .int .i64 E]) ∧ OwB w' 5 (Iv W.heap.size w'.heap.size) v (encB b) ∧ KpN W w' := fun W bv pv hh => by
    have := encode_c hh hsz
    unfold EncP at this
    rw [hE] at this
    exact this
  have hval : ∀ W bv pv, RdBd W bv pv b → Calls Try.prog 25 #[bdV b bv pv] W fun e w' => e = .returned (.int .i64 E) ∧ KpN W w' := fun W bv pv hh => by
    have := valid_c hh hsz
    rw [hE] at this
    exact this
  have HH := Lib.hid (And.intro hw1 (And.intro hl1 (And.intro k1 (And.intro h (And.intro hsz (And.intro hgv (And.intro henc (And.intro hval hE))))))))
  clear hw1 hx1 hz1 hl1 k1 h hsz hgv henc hval hE
  go_enter Try.func9, Try.ntmps9
  go_wp2_with (first
    | ((with_reducible show wpList _ _ _ _ _ (World.alloc w _)); rw [HH.out.1])
    | fail)
  (try rw [HH.out.1])
  refine hsm.mono ?_
  rintro e w2 ⟨rfl, k2⟩
  clear hsm
  have hg2 := HH.out.2.2.2.2.2.1 w2 k2
  have H2 := Lib.hid (And.intro (HH.out.2.1 w2 k2) k2)
  clear k2
  go_wp2_with (first
    | ((with_reducible show wpList _ _ _ (Oper.mk (some 17) _ _ _ _ _ :: _) _ _); refine wpl_val rfl (run_load_opv H2.out.1 rfl) ?_)
    | fail)
  refine hg2.mono ?_
  rintro e w3 ⟨g, dv, uv, rfl, hgm, k3⟩
  clear hg2
  obtain ⟨uA, uc, rfl, -⟩ := hgm.pay.rd.form
  have he3 := HH.out.2.2.2.2.2.2.1 _ _ _ (hgm.rd HH.out.2.2.2.1)
  have H3 := Lib.hid (H2.out.2.thenN k3)
  clear hgm k3
  go_wp2_with fail
  refine he3.mono ?_
  rintro e w4 ⟨v, rfl, ov, k4⟩
  clear he3
  obtain ⟨vA, vc, rfl, -⟩ := ov.readsB.form
  have hk4 := H3.out.thenN k4
  have hg4 := HH.out.2.2.2.2.2.1 w4 hk4
  have H4 := Lib.hid (And.intro (HH.out.2.1 w4 hk4) (And.intro hk4 ov))
  clear hk4 k4 ov
  by_cases h0 : E = 0
  · subst h0
    have hEL := enc_laid HH.out.2.2.2.2.2.2.2.2
    obtain ⟨hdB1, hdB2⟩ := dec_back HH.out.2.2.2.2.2.2.2.2
    have hdL := dec_less HH.out.2.2.2.2.2.2.2.2
    have hdM := dec_more HH.out.2.2.2.2.2.2.2.2
    have hpos := laid_pos b
    have hle := (valE_zero HH.out.2.2.2.2.2.2.2.2).2
    rw [hEL] at H4 ⊢
    obtain ⟨LL, hLL⟩ : ∃ z, laid b = z := ⟨_, rfl⟩
    rw [hLL] at hdB1 hdB2 hdL hdM hpos hle H4 ⊢
    obtain ⟨M, hM⟩ : ∃ M, LL.length = M + 1 := ⟨LL.length - 1, by omega⟩
    have HL := Lib.hid (And.intro hdB1 (And.intro hdB2 (And.intro hdL (And.intro hdM (And.intro hM hle)))))
    rw [hM] at H4 hle ⊢
    clear hEL hdB1 hdB2 hdL hdM hpos hLL hM
    go_wp2_with (first
      | ((with_reducible show wpList _ _ _ (Oper.mk (some 24) _ _ _ _ _ :: _) _ _); refine wpl_val rfl (run_load_opv H4.out.1 rfl) ?_)
      | fail)
    refine hg4.mono ?_
    rintro e w5 ⟨g5, dv5, uv5, rfl, hgm, k5⟩
    clear hg4
    obtain ⟨uA5, uc5, rfl, -⟩ := hgm.pay.rd.form
    have hv5 := HH.out.2.2.2.2.2.2.2.1 _ _ _ (hgm.rd HH.out.2.2.2.1)
    have H5 := Lib.hid (And.intro (H4.out.2.1.thenN k5) (H4.out.2.2.readsB.keepN k5))
    clear hgm k5
    go_wp2_with fail
    refine hv5.mono ?_
    rintro e w6 ⟨rfl, k6⟩
    clear hv5
    have hd6 : Calls Try.prog 23 #[.slice vA (M + 1) vc] w6 fun e w' => ∃ bv pv ls, e = .returned (.tuple #[bdV b bv pv, .int .i64 0]) ∧ OwBd w' 37 (Iv w6.heap.size w'.heap.size) bv pv b ls ∧ KpN w6 w' := by
      have := decode_c (H5.out.2.keepN k6) (by have := HL.out.2.2.2.2.2; omega)
      unfold DecP DecQ at this
      rw [HL.out.1, HL.out.2.1] at this
      exact this
    have H6 := Lib.hid (And.intro (H5.out.1.thenN k6) (H5.out.2.keepN k6))
    clear k6
    go_wp2_with fail
    refine hd6.mono ?_
    rintro e w7 ⟨bv, pv, ls, rfl, ho, k7⟩
    clear hd6
    have hrd := ho.rd
    obtain ⟨tA, tc, rfl, -⟩ := hrd.bl.form
    obtain ⟨qA, qc, rfl, -⟩ := hrd.pl.form
    obtain ⟨w8, hst, hx8, k8, hz8⟩ := bundle_put w7 b tA qA b.bl.length tc b.pl.length qc
    have hl8 := bd_loadN hx8 (by omega) (Kp.refl _ _)
    have hk8 := H6.out.1.thenN (k7.thenN k8)
    have his := is_c (hrd.keepN k8) (HH.out.2.2.2.1.keepN (HH.out.2.2.1.thenN hk8)) HH.out.2.2.2.2.1
    have H8 := Lib.hid (And.intro hst (And.intro hl8 (And.intro (HH.out.2.1 w8 hk8) (And.intro hk8 (H6.out.2.keepN (k7.thenN k8))))))
    clear hst hx8 hz8 hl8 hk8 hrd ho k7 k8
    go_wp2_with (first
      | ((with_reducible show wpList _ _ _ (Oper.mk _ (Op.store 34 _ _) _ _ _ _ :: _) _ _); refine wpl_skip rfl (run_store_op H8.out.1 rfl rfl) ?_)
      | ((with_reducible show wpList _ _ _ (Oper.mk (some 39) _ _ _ _ _ :: _) _ _); refine wpl_vg rfl (run_load_opv H8.out.2.1 rfl) ?_)
      | ((with_reducible show wpList _ _ _ (Oper.mk (some 40) _ _ _ _ _ :: _) _ _); refine wpl_vg rfl (run_load_opv H8.out.2.2.1 rfl) ?_)
      | fail)
    refine his.mono ?_
    rintro e w9 ⟨rfl, k9⟩
    clear his
    have hrl := H8.out.2.2.2.2.keepN k9
    have hk9 := H8.out.2.2.2.1.thenN k9
    have hvc : M + 1 ≤ vc := by
      obtain ⟨_, A', c', hv, hc', _⟩ := hrl
      injection hv with _ _ hv
      have := HL.out.2.2.2.2.1
      omega
    have htk := RdB.take hrl M (by omega)
    rw [show LL.take M = LL.dropLast by rw [List.dropLast_eq_take, HL.out.2.2.2.2.1]; rfl] at htk
    have hd9 : Calls Try.prog 23 #[.slice vA M vc] w9 fun e w' => ∃ bv pv ls, e = .returned (.tuple #[bdV (decB LL.dropLast) bv pv, .int .i64 10]) ∧ OwBd w' 37 (Iv w9.heap.size w'.heap.size) bv pv (decB LL.dropLast) ls ∧ KpN w9 w' := by
      have := decode_c htk (by rw [List.length_dropLast]; have := HL.out.2.2.2.2.2; omega)
      unfold DecP DecQ at this
      rw [HL.out.2.2.1] at this
      exact this
    have H9 := Lib.hid (And.intro hk9 hrl)
    clear hk9 hrl htk k9
    have b1 : ((M : Int) + 1 - 1) = (M : Int) := by omega
    have b2 : (0 : Int) ≤ (M : Int) := by omega
    have b3 : (M : Int) ≤ (vc : Int) := by omega
    go_wp2_with fail
    refine hd9.mono ?_
    rintro e wa ⟨bv, pv, ls, rfl, -, ka⟩
    clear hd9 b1 b2 b3
    obtain ⟨u, wb, rb, ob, kb⟩ := run_appB_nil (P := Try.prog) wa (t := 27) (ty := 27) Try.underlying27 u8info (H9.out.2.keepN ka) (by have := HL.out.2.2.2.2.2; omega)
    obtain ⟨uA, uc, hu, -⟩ := ob.readsB.form
    subst hu
    obtain ⟨wc, hwc⟩ : ∃ W, wb.alloc (.cells #[.int .u8 0] 5) = W := ⟨_, rfl⟩
    have kc : KpN wb wc := by rw [← hwc]; exact (Kp.refl _ _).alloc _
    have hzc : wc.heap.size = wb.heap.size + 1 := by rw [← hwc]; simp
    have h1c : RdB wc (.slice (some ⟨wb.heap.size, 0, none⟩) 1 1) [0] := by
      have := (OwB.lit wb 5 [0] #[.int .u8 0] rfl (by simp)).readsB
      rwa [hwc] at this
    obtain ⟨y, wd, rd, od, kd, -⟩ := run_appB (P := Try.prog) wc (t := 27) (ty := 27) Try.underlying27 u8info (ob.keepN kc) h1c (by have := HL.out.2.2.2.2.2; simp; omega)
    obtain ⟨yA, yc, hy, -⟩ := od.readsB.form
    subst hy
    have hkd : KpN wa wd := (kb.thenN kc).fresh kd (fun i hi => (ob.fit i hi).1)
    have hlen2 : (LL ++ [0]).length = M + 2 := by rw [List.length_append, HL.out.2.2.2.2.1]; rfl
    obtain ⟨F, hF⟩ : ∃ F, (if LL.length = 1024 then (81 : Int) else 11) = F := ⟨_, rfl⟩
    obtain ⟨EB, hEB⟩ : ∃ z, decB (LL ++ [0]) = z := ⟨_, rfl⟩
    have hdd : Calls Try.prog 23 #[.slice yA (M + 2) yc] wd fun e w' => ∃ bv pv ls, e = .returned (.tuple #[bdV EB bv pv, .int .i64 F]) ∧ OwBd w' 37 (Iv wd.heap.size w'.heap.size) bv pv EB ls ∧ KpN wd w' := by
      have := decode_c od.readsB (by have := HL.out.2.2.2.2.2; simp; omega)
      unfold DecP DecQ at this
      rw [HL.out.2.2.2.1, hF, hEB, hlen2] at this
      exact this
    rw [hlen2] at rd
    rw [HL.out.2.2.2.2.1] at hF rb rd
    have HD := Lib.hid (And.intro rb (And.intro hwc (And.intro rd (H9.out.1.thenN (ka.thenN hkd)))))
    have HFF := Lib.hid hF
    clear rb hwc rd ob kb kc hzc h1c od kd hkd ka hF hEB hlen2
    go_wp2_with (first
      | ((with_reducible show wpList _ _ _ (Oper.mk (some 55) _ _ _ _ _ :: _) _ _); refine app_op HD.out.1 rfl rfl ?_)
      | ((with_reducible show wpList _ _ _ _ _ (World.alloc wb _)); rw [HD.out.2.1])
      | ((with_reducible show wpList _ _ _ (Oper.mk (some 57) _ _ _ _ _ :: _) _ _); refine app_op HD.out.2.2.1 rfl rfl ?_)
      | fail)
    refine hdd.mono ?_
    rintro e we ⟨bv, pv, ls, rfl, ho, ke⟩
    clear hdd
    have hrd := ho.rd
    obtain ⟨tA, tc, rfl, -⟩ := hrd.bl.form
    obtain ⟨qA, qc, rfl, -⟩ := hrd.pl.form
    obtain ⟨wg, hst, hxg, kg, hzg⟩ := bundle_put we EB tA qA EB.bl.length tc EB.pl.length qc
    have HG := Lib.hid (And.intro hst (HD.out.2.2.2.thenN (ke.thenN kg)))
    have HZ := Lib.hid (HH.out.2.2.1.thenN HG.out.2)
    clear hst hxg kg hzg hrd ho ke
    by_cases hcut : M + 1 = 1024
    · obtain rfl : M = 1023 := by omega
      obtain rfl : F = 81 := by rw [← HFF.out]; rfl
      clear hcut
      go_wp2_with (first
        | ((with_reducible show wpList _ _ _ (Oper.mk _ (Op.store 34 _ _) _ _ _ _ :: _) _ _); refine wpl_skip rfl (run_store_op HG.out.1 rfl rfl) ?_)
        | fail)
      refine (HT.out.1 _ HZ.out).mono ?_
      rintro e wt ⟨bv, pv, ls, rfl, ho, kt⟩
      have hrd := ho.rd
      obtain ⟨tA, tc, rfl, -⟩ := hrd.bl.form
      obtain ⟨qA, qc, rfl, -⟩ := hrd.pl.form
      obtain ⟨wu, hst, hxu, ku, hzu⟩ := bundle_put wt TB tA qA TB.bl.length tc TB.pl.length qc
      have hlu : ∀ W, KpN wu W → (Instr.loadAt 34 (.pointer (some ⟨wt.heap.size, 0, none⟩))).run Try.prog W = .ok (bdV TB (.slice tA TB.bl.length tc) (.slice qA TB.pl.length qc)) W := fun W k => bd_loadN hxu (by omega) k
      have hru := hrd.keepN ku
      have HU := Lib.hid (And.intro hst (And.intro hlu (And.intro hru (HZ.out.thenN (kt.thenN ku)))))
      clear hst hxu hzu hlu hru hrd ho kt ku
      by_cases hT0 : TE = 0
      · subst hT0
        have hen : Calls Try.prog 26 #[bdV TB (.slice tA TB.bl.length tc) (.slice qA TB.pl.length qc)] wu fun e w' => ∃ v, e = .returned (.tuple #[v, .int .i64 0]) ∧ OwB w' 5 (Iv wu.heap.size w'.heap.size) v text ∧ KpN wu w' := by
          have := encode_c HU.out.2.2.1 HT.out.2.1
          unfold EncP at this
          rw [(HT.out.2.2.1 (by simp)).1, (HT.out.2.2.1 (by simp)).2] at this
          exact this
        go_wp2_with (first
          | ((with_reducible show wpList _ _ _ (Oper.mk _ (Op.store 34 _ _) _ _ _ _ :: _) _ _); refine wpl_skip rfl (run_store_op HU.out.1 rfl rfl) ?_)
          | ((with_reducible show wpList _ _ _ (Oper.mk (some 89) _ _ _ _ _ :: _) _ _); refine wpl_val rfl (run_load_opv (HU.out.2.1 wu (Kp.refl _ _)) rfl) ?_)
          | fail)
        refine hen.mono ?_
        rintro e wv ⟨v, rfl, ov, kv⟩
        clear hen
        have hk := HU.out.2.2.2.thenN kv
        have hcv := toStr_eq ov.readsB (HT.out.2.2.2.keepN hk)
        have hva : Calls Try.prog 25 #[bdV TB (.slice tA TB.bl.length tc) (.slice qA TB.pl.length qc)] wv fun e w' => e = .returned (.int .i64 0) ∧ KpN wv w' := by
          have := valid_c (HU.out.2.2.1.keepN kv) HT.out.2.1
          rw [(HT.out.2.2.1 (by simp)).1] at this
          exact this
        have HV := Lib.hid (And.intro hcv (And.intro (HU.out.2.1 wv kv) hk))
        clear hcv ov kv hk
        go_wp2_with (first
          | ((with_reducible show wpList _ _ _ (Oper.mk (some 97) (Op.convert _ _ _) _ _ _ _ :: _) _ _); refine conv_opg HV.out.1.1 rfl rfl ?_)
          | ((with_reducible show wpList _ _ _ (Oper.mk (some 99) (Op.convert _ _ _) _ _ _ _ :: _) _ _); refine conv_opg HV.out.1.2 rfl rfl ?_)
          | ((with_reducible show wpList _ _ _ (Oper.mk (some 103) _ _ _ _ _ :: _) _ _); refine wpl_vg rfl (run_load_opv HV.out.2.1 rfl) ?_)
          | fail)
        refine hva.mono ?_
        rintro e wf ⟨rfl, kf⟩
        go_wp2_with fail
        go_ret
        exact ⟨rfl, HV.out.2.2.thenN kf⟩
      · have hE1 : (TE == 0) = false := by simp [hT0]
        have hE2 : (TE != 0) = true := by simp [hT0]
        go_wp2_with (first
          | ((with_reducible show wpList _ _ _ (Oper.mk _ (Op.store 34 _ _) _ _ _ _ :: _) _ _); refine wpl_skip rfl (run_store_op HU.out.1 rfl rfl) ?_)
          | fail)
        go_ret
        exact ⟨rfl, HU.out.2.2.2⟩
    · obtain rfl : F = 11 := by rw [← HFF.out, if_neg hcut]
      have hlt : ((M : Int) + 1 < 1024) := by omega
      have hne : ((M : Int) + 1 == 1024) = false := by simp; omega
      clear hcut
      go_wp2_with (first
        | ((with_reducible show wpList _ _ _ (Oper.mk _ (Op.store 34 _ _) _ _ _ _ :: _) _ _); refine wpl_skip rfl (run_store_op HG.out.1 rfl rfl) ?_)
        | fail)
      refine (HT.out.1 _ HZ.out).mono ?_
      rintro e wt ⟨bv, pv, ls, rfl, ho, kt⟩
      have hrd := ho.rd
      obtain ⟨tA, tc, rfl, -⟩ := hrd.bl.form
      obtain ⟨qA, qc, rfl, -⟩ := hrd.pl.form
      obtain ⟨wu, hst, hxu, ku, hzu⟩ := bundle_put wt TB tA qA TB.bl.length tc TB.pl.length qc
      have hlu : ∀ W, KpN wu W → (Instr.loadAt 34 (.pointer (some ⟨wt.heap.size, 0, none⟩))).run Try.prog W = .ok (bdV TB (.slice tA TB.bl.length tc) (.slice qA TB.pl.length qc)) W := fun W k => bd_loadN hxu (by omega) k
      have hru := hrd.keepN ku
      have HU := Lib.hid (And.intro hst (And.intro hlu (And.intro hru (HZ.out.thenN (kt.thenN ku)))))
      clear hst hxu hzu hlu hru hrd ho kt ku
      by_cases hT0 : TE = 0
      · subst hT0
        have hen : Calls Try.prog 26 #[bdV TB (.slice tA TB.bl.length tc) (.slice qA TB.pl.length qc)] wu fun e w' => ∃ v, e = .returned (.tuple #[v, .int .i64 0]) ∧ OwB w' 5 (Iv wu.heap.size w'.heap.size) v text ∧ KpN wu w' := by
          have := encode_c HU.out.2.2.1 HT.out.2.1
          unfold EncP at this
          rw [(HT.out.2.2.1 (by simp)).1, (HT.out.2.2.1 (by simp)).2] at this
          exact this
        go_wp2_with (first
          | ((with_reducible show wpList _ _ _ (Oper.mk _ (Op.store 34 _ _) _ _ _ _ :: _) _ _); refine wpl_skip rfl (run_store_op HU.out.1 rfl rfl) ?_)
          | ((with_reducible show wpList _ _ _ (Oper.mk (some 89) _ _ _ _ _ :: _) _ _); refine wpl_val rfl (run_load_opv (HU.out.2.1 wu (Kp.refl _ _)) rfl) ?_)
          | fail)
        refine hen.mono ?_
        rintro e wv ⟨v, rfl, ov, kv⟩
        clear hen
        have hk := HU.out.2.2.2.thenN kv
        have hcv := toStr_eq ov.readsB (HT.out.2.2.2.keepN hk)
        have hva : Calls Try.prog 25 #[bdV TB (.slice tA TB.bl.length tc) (.slice qA TB.pl.length qc)] wv fun e w' => e = .returned (.int .i64 0) ∧ KpN wv w' := by
          have := valid_c (HU.out.2.2.1.keepN kv) HT.out.2.1
          rw [(HT.out.2.2.1 (by simp)).1] at this
          exact this
        have HV := Lib.hid (And.intro hcv (And.intro (HU.out.2.1 wv kv) hk))
        clear hcv ov kv hk
        go_wp2_with (first
          | ((with_reducible show wpList _ _ _ (Oper.mk (some 97) (Op.convert _ _ _) _ _ _ _ :: _) _ _); refine conv_opg HV.out.1.1 rfl rfl ?_)
          | ((with_reducible show wpList _ _ _ (Oper.mk (some 99) (Op.convert _ _ _) _ _ _ _ :: _) _ _); refine conv_opg HV.out.1.2 rfl rfl ?_)
          | ((with_reducible show wpList _ _ _ (Oper.mk (some 103) _ _ _ _ _ :: _) _ _); refine wpl_vg rfl (run_load_opv HV.out.2.1 rfl) ?_)
          | fail)
        refine hva.mono ?_
        rintro e wf ⟨rfl, kf⟩
        go_wp2_with fail
        go_ret
        exact ⟨rfl, HV.out.2.2.thenN kf⟩
      · have hE1 : (TE == 0) = false := by simp [hT0]
        have hE2 : (TE != 0) = true := by simp [hT0]
        go_wp2_with (first
          | ((with_reducible show wpList _ _ _ (Oper.mk _ (Op.store 34 _ _) _ _ _ _ :: _) _ _); refine wpl_skip rfl (run_store_op HU.out.1 rfl rfl) ?_)
          | fail)
        go_ret
        exact ⟨rfl, HU.out.2.2.2⟩
  · have hE1 : (E == 0) = false := by simp [h0]
    have hE2 : (E != 0) = true := by simp [h0]
    go_wp2_with (first
      | ((with_reducible show wpList _ _ _ (Oper.mk (some 24) _ _ _ _ _ :: _) _ _); refine wpl_val rfl (run_load_opv H4.out.1 rfl) ?_)
      | fail)
    refine hg4.mono ?_
    rintro e w5 ⟨g5, dv5, uv5, rfl, hgm, k5⟩
    clear hg4
    obtain ⟨uA5, uc5, rfl, -⟩ := hgm.pay.rd.form
    have hv5 := HH.out.2.2.2.2.2.2.2.1 _ _ _ (hgm.rd HH.out.2.2.2.1)
    have H5 := Lib.hid (H4.out.2.1.thenN k5)
    clear hgm k5
    go_wp2_with fail
    refine hv5.mono ?_
    rintro e w6 ⟨rfl, k6⟩
    clear hv5
    have HZ := Lib.hid (HH.out.2.2.1.thenN (H5.out.thenN k6))
    clear k6
    go_wp2_with fail
    refine (HT.out.1 _ HZ.out).mono ?_
    rintro e wt ⟨bv, pv, ls, rfl, ho, kt⟩
    have hrd := ho.rd
    obtain ⟨tA, tc, rfl, -⟩ := hrd.bl.form
    obtain ⟨qA, qc, rfl, -⟩ := hrd.pl.form
    obtain ⟨wu, hst, hxu, ku, hzu⟩ := bundle_put wt TB tA qA TB.bl.length tc TB.pl.length qc
    have hlu : ∀ W, KpN wu W → (Instr.loadAt 34 (.pointer (some ⟨wt.heap.size, 0, none⟩))).run Try.prog W = .ok (bdV TB (.slice tA TB.bl.length tc) (.slice qA TB.pl.length qc)) W := fun W k => bd_loadN hxu (by omega) k
    have hru := hrd.keepN ku
    have HU := Lib.hid (And.intro hst (And.intro hlu (And.intro hru (HZ.out.thenN (kt.thenN ku)))))
    clear hst hxu hzu hlu hru hrd ho kt ku
    by_cases hT0 : TE = 0
    · subst hT0
      have hen : Calls Try.prog 26 #[bdV TB (.slice tA TB.bl.length tc) (.slice qA TB.pl.length qc)] wu fun e w' => ∃ v, e = .returned (.tuple #[v, .int .i64 0]) ∧ OwB w' 5 (Iv wu.heap.size w'.heap.size) v text ∧ KpN wu w' := by
        have := encode_c HU.out.2.2.1 HT.out.2.1
        unfold EncP at this
        rw [(HT.out.2.2.1 (by simp)).1, (HT.out.2.2.1 (by simp)).2] at this
        exact this
      go_wp2_with (first
        | ((with_reducible show wpList _ _ _ (Oper.mk _ (Op.store 34 _ _) _ _ _ _ :: _) _ _); refine wpl_skip rfl (run_store_op HU.out.1 rfl rfl) ?_)
        | ((with_reducible show wpList _ _ _ (Oper.mk (some 89) _ _ _ _ _ :: _) _ _); refine wpl_val rfl (run_load_opv (HU.out.2.1 wu (Kp.refl _ _)) rfl) ?_)
        | fail)
      refine hen.mono ?_
      rintro e wv ⟨v, rfl, ov, kv⟩
      clear hen
      have hk := HU.out.2.2.2.thenN kv
      have hcv := toStr_eq ov.readsB (HT.out.2.2.2.keepN hk)
      have hva : Calls Try.prog 25 #[bdV TB (.slice tA TB.bl.length tc) (.slice qA TB.pl.length qc)] wv fun e w' => e = .returned (.int .i64 0) ∧ KpN wv w' := by
        have := valid_c (HU.out.2.2.1.keepN kv) HT.out.2.1
        rw [(HT.out.2.2.1 (by simp)).1] at this
        exact this
      have HV := Lib.hid (And.intro hcv (And.intro (HU.out.2.1 wv kv) hk))
      clear hcv ov kv hk
      go_wp2_with (first
        | ((with_reducible show wpList _ _ _ (Oper.mk (some 97) (Op.convert _ _ _) _ _ _ _ :: _) _ _); refine conv_opg HV.out.1.1 rfl rfl ?_)
        | ((with_reducible show wpList _ _ _ (Oper.mk (some 99) (Op.convert _ _ _) _ _ _ _ :: _) _ _); refine conv_opg HV.out.1.2 rfl rfl ?_)
        | ((with_reducible show wpList _ _ _ (Oper.mk (some 103) _ _ _ _ _ :: _) _ _); refine wpl_vg rfl (run_load_opv HV.out.2.1 rfl) ?_)
        | fail)
      refine hva.mono ?_
      rintro e wf ⟨rfl, kf⟩
      go_wp2_with fail
      go_ret
      exact ⟨rfl, HV.out.2.2.thenN kf⟩
    · have hE1 : (TE == 0) = false := by simp [hT0]
      have hE2 : (TE != 0) = true := by simp [hT0]
      go_wp2_with (first
        | ((with_reducible show wpList _ _ _ (Oper.mk _ (Op.store 34 _ _) _ _ _ _ :: _) _ _); refine wpl_skip rfl (run_store_op HU.out.1 rfl rfl) ?_)
        | fail)
      go_ret
      exact ⟨rfl, HU.out.2.2.2⟩
end Go.Proofs.Yteokkpmndfekoaa
