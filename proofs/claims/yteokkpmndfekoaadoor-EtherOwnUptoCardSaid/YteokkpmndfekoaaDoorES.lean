/- EtherOwn: the walk. -/
import Derived.Test.YteokkpmndfekoaaDoorER
namespace Go.Proofs.YteokkpmndfekoaaDoor
open Go Go.RowKit
set_option maxRecDepth 100000
-- %lastw

set_option maxHeartbeats 12800000 in
theorem own_walk {w : World} {aA bA : Option Addr} {aL bL ac bc : Nat} {xs ys : List UInt8} (hbo : BitsOk w) (ha : RdB w (.slice aA aL ac) xs) (hb : RdB w (.slice bA bL bc) ys) (hla : aL ≤ 10000000) (hlb : bL ≤ 10000000) :
    Calls Tryd.prog 4 #[.slice aA aL ac, .slice bA bL bc] w (TrueP w) := by
  by_cases h1 : 2048 < aL
  · clear ha hb
    go_enter Tryd.func4, Tryd.ntmps4
    go_wp2
    go_ret
    exact ⟨rfl, Kp.refl _ _⟩
  by_cases h2 : 2048 < bL
  · clear ha hb
    go_enter Tryd.func4, Tryd.ntmps4
    go_wp2
    go_ret
    exact ⟨rfl, Kp.refl _ _⟩
  have HA := Lib.hid (And.intro ha ha.len)
  have HB := Lib.hid (And.intro hb hb.len)
  clear ha hb
  have hN : Calls Tryd.prog 14 #[.int .i64 6] w _ := way_new (n := 6) (w := w) (by omega) (by omega) PT
  go_enter Tryd.func4, Tryd.ntmps4
  go_wp2_with fail
  refine hN.mono ?_
  rintro e w1 ⟨g, rfl, hg, k1⟩
  clear hN
  have o1 : OneW w w1 _ g 6 [] := ⟨⟨_, _, hg, rfl⟩, k1, fun x hx => ⟨hx.1, hx.2⟩⟩
  go_wp2_with fail
  refine (bytes_c (HA.out.1.keepN o1.kp) (by have := HA.out.2; omega)).mono ?_
  rintro e w2 ⟨u, rfl, mk, iu, k2⟩
  have o2 := o1.keepN k2
  obtain ⟨go, rfl, hob⟩ := id mk
  have hgo := iu go rfl
  rw [← HA.out.2] at hob
  rw [← HA.out.2]
  have hP := way_put o2.p (mk.rd) (L := xs.length) (by have := HA.out.2; omega)
  rw [put0 xs (by have := HA.out.2; omega), ← HA.out.2] at hP
  have hz1 := k1.size
  have hz2 := k2.size
  clear o1 mk hg iu k2
  go_wp2_with fail
  refine hP.mono ?_
  rintro e w3 ⟨rfl, F3, hX3, hG3, k3⟩
  have o3 := o2.next hX3 hG3 k3
  have hz3 := k3.size
  have hoF : ∀ x, F3 x → ¬ x = go := fun x hx e => by
    rcases hG3 x hx with hh | hh
    · have := (o2.fl x hh).2; have := hgo.1; have := hh.2; omega
    · have := hh.1; have := hgo.2; omega
  have hob3 := hob.keepB k3 (fun b hb hF => by
    obtain rfl : go = b := Option.some.inj hb
    have := hF.2; have := hgo.1; omega)
  clear hX3 hG3 k3 hP hob o2
  go_wp2_with fail
  refine (bytes_c (HB.out.1.keepN o3.kp) (by have := HB.out.2; omega)).mono ?_
  rintro e w4 ⟨u4, rfl, mk4, iu4, k4⟩
  have o4 := o3.keepN k4
  have hob4 := hob3.keepN k4
  have hz4 := k4.size
  obtain ⟨g4, rfl, -⟩ := id mk4
  have hg4 := iu4 g4 rfl
  have hP := way_put o4.p (mk4.rd) (L := ys.length) (by have := HB.out.2; omega)
  rw [put1 xs ys (by have := HB.out.2; omega)] at hP
  clear o3 hob3 mk4 iu4 k4
  go_wp2_with fail
  refine hP.mono ?_
  rintro e w5 ⟨rfl, F5, hX5, hG5, k5⟩
  have o5 := o4.next hX5 hG5 k5
  have hz5 := k5.size
  have hoF5 : ∀ x, F5 x → ¬ x = go := fun x hx e => by
    rcases hG5 x hx with hh | hh
    · exact hoF x hh e
    · have := hh.1; have := hgo.2; omega
  have hob5 := hob4.keepB k5 (fun b hb hF => by
    obtain rfl : go = b := Option.some.inj hb
    exact hoF _ hF rfl)
  have hP := way_double (i := 0) o5.p
  rw [double0 xs ys] at hP
  clear hX5 hG5 k5 hob4 o4 hoF
  go_wp2_with fail
  refine hP.mono ?_
  rintro e w6 ⟨rfl, F6, hX6, hG6, k6⟩
  have o6 := o5.next hX6 hG6 k6
  have hz6 := k6.size
  have hoF6 : ∀ x, F6 x → ¬ x = go := fun x hx e => by
    rcases hG6 x hx with hh | hh
    · exact hoF5 x hh e
    · have := hh.1; have := hgo.2; omega
  have hob6 := hob5.keepB k6 (fun b hb hF => by
    obtain rfl : go = b := Option.some.inj hb
    exact hoF5 _ hF rfl)
  have hP := way_double (i := 0) o6.p
  rw [double1 xs ys] at hP
  clear hX6 hG6 k6 hob5 o5 hoF5
  go_wp2_with fail
  refine hP.mono ?_
  rintro e w7 ⟨rfl, F7, hX7, hG7, k7⟩
  have o7 := o6.next hX7 hG7 k7
  have hz7 := k7.size
  have hoF7 : ∀ x, F7 x → ¬ x = go := fun x hx e => by
    rcases hG7 x hx with hh | hh
    · exact hoF6 x hh e
    · have := hh.1; have := hgo.2; omega
  have hob7 := hob6.keepB k7 (fun b hb hF => by
    obtain rfl : go = b := Option.some.inj hb
    exact hoF6 _ hF rfl)
  have HO7 := Lib.hid (And.intro o7 (And.intro hob7 hoF7))
  have hgow : w.heap.size ≤ go := by have := hgo.1; omega
  clear hX7 hG7 k7 hob6 o6 hoF6 hP o7 hob7 hoF7
  go_wp2_with fail
  go_loopw [8] (fun i wr => ∃ q : Nat, q ≤ aL ∧ i = .int .i64 q ∧ OneW w wr F7 g 6 (st4 xs ys) ∧ w7.heap.size ≤ wr.heap.size ∧ (∃ zs : List UInt8, zs.length = aL + 4 ∧ OwB wr 5 (fun b => b = go) (.slice (some ⟨go, 0, none⟩) (aL + 4) (aL + 4)) zs)) (fun i _ => aL - (intOf i).toNat)
  case atStart => exact ⟨0, Nat.zero_le _, rfl, HO7.out.1, Nat.le_refl _, xs ++ m4, by rw [List.length_append, ← HA.out.2]; rfl, HO7.out.2.1⟩
  case round =>
    obtain ⟨q, hq, rfl, ht, hsz, zs, hzs, ho⟩ := hrel
    by_cases hlt : q < aL
    · have hc := ho.byteAt hzs.symm q (by omega)
      have hf := ho.frozenAt q
      obtain ⟨y, hy⟩ : ∃ y, zs[q]'(by omega) = y := ⟨_, rfl⟩
      rw [hy] at hc
      have hx : bits BinOp.xor IntKind.u8 (y.toNat : Int) 85 = (((y ^^^ 85).toNat : Nat) : Int) := xor_bv y 85
      have ho2 := ho.putB hzs.symm q (y ^^^ 85)
      have ks : Kp (fun k => k = go) wr (wr.setCell ⟨go, q, none⟩ (bv (y ^^^ 85))) := (Kp.refl (fun k => k = go) wr).setCell (p := ⟨go, q, none⟩) (.inl rfl) _
      have hyl : (zs.set q (y ^^^ 85)).length = aL + 4 := by rw [List.length_set]; exact hzs
      have ht2 := ht.keep ks HO7.out.2.2 (fun x hx => by omega)
      have hsz2 : w7.heap.size ≤ (wr.setCell ⟨go, q, none⟩ (bv (y ^^^ 85))).heap.size := by simpa using hsz
      have HN := Lib.hid (And.intro ht2 (And.intro hsz2 (And.intro hyl ho2)))
      have hbv : bv (y ^^^ 85) = .int .u8 (((y ^^^ 85).toNat : Nat) : Int) := rfl
      rw [hbv] at HN
      have hq4 : q < aL + 4 := by omega
      simp only [bv] at hc
      generalize y ^^^ 85 = z at *
      clear ho ho2 ks hyl ht2 hy hzs hbv ht hsz hsz2
      go_wp2
      go_roundw
      case rel => exact ⟨q + 1, by omega, by go_num, HN.out.1, HN.out.2.1, _, HN.out.2.2.1, HN.out.2.2.2⟩
      case measure => exact meas_up hlt
    · clear ho hzs
      have rA := run_toStr (P := Tryd.prog) (w := wr) Tryd.underlying26 Tryd.underlying5 Tryd.underlying9 (HA.out.1.keepN ht.kp)
      have rB := run_toStr (P := Tryd.prog) (w := wr) Tryd.underlying26 Tryd.underlying5 Tryd.underlying9 (HB.out.1.keepN ht.kp)
      obtain ⟨SA, hSA⟩ : ∃ SA, bs xs = SA := ⟨_, rfl⟩
      obtain ⟨SB, hSB⟩ : ∃ SB, bs ys = SB := ⟨_, rfl⟩
      rw [hSA] at rA
      rw [hSB] at rB
      obtain ⟨WW, hWW⟩ : ∃ WW, wr.alloc (.cells #[.string SA, .string SB, .string SA, .string SA, .string SA, .string SB, .string SA, .string SA, .string SA] 9) = WW := ⟨_, rfl⟩
      obtain ⟨gw, hgw⟩ : ∃ gw, wr.heap.size = gw := ⟨_, rfl⟩
      have kW : KpN wr WW := by rw [← hWW]; exact (Kp.refl _ _).alloc _
      have hzW : WW.heap.size = gw + 1 := by rw [← hWW, ← hgw]; simp
      have hwant : ∀ i, i < 9 → WW.cell? ⟨gw, i, none⟩ = some (.string (bs ((wantL xs ys).getD i []))) := by
        intro i hi
        rw [← hWW, ← hgw, cell_of_row _ _ _ _ _ _ (heap_alloc_new _ _), ← hSA, ← hSB]
        match i, hi with
        | 0, _ => rfl
        | 1, _ => rfl
        | 2, _ => rfl
        | 3, _ => rfl
        | 4, _ => rfl
        | 5, _ => rfl
        | 6, _ => rfl
        | 7, _ => rfl
        | 8, _ => rfl
      have oW := ht.keepN kW
      have hFW : ∀ x, F7 x → x < gw := fun x hx => by have := (ht.fl x hx).2; omega
      have HW := Lib.hid (And.intro hWW (And.intro hgw (And.intro oW (And.intro hwant hFW))))
      clear hWW hgw oW hwant hFW hSA hSB ht hsz kW HO7
      go_wp2_with (first | ((with_reducible show wpList _ _ _ (Oper.mk _ (Op.convert _ _ _) _ _ _ _ :: _) _ _); first | refine conv_op rA rfl ?_ | refine conv_op rB rfl ?_) | fail)
      rw [HW.out.1, HW.out.2.1]
      clear rA rB
      go_loopw [9, 11] (fun lv i wr => ∃ (q : Nat) (ls : List (Value × List UInt8)), q ≤ 8 ∧ i = .int .i64 q ∧ Own2 wr 26 5 (fun k => WW.heap.size ≤ k) lv ls ∧ ls.map Prod.snd = (wantL xs ys).take q ∧ KpN WW wr) (fun _ i _ => 8 - (intOf i).toNat)
      case atStart => exact ⟨0, [], by omega, rfl, Own2.nil _ _ _ _, rfl, Kp.refl _ _⟩
      case round =>
        obtain ⟨q, ls, hq, rfl, hO, hls, kr⟩ := hrel
        by_cases hlt : q < 8
        · obtain ⟨r, hr⟩ : ∃ r, q % 4 = r := ⟨_, rfl⟩
          have hri : (q : Int) % 4 = (r : Int) := by omega
          have hr4 : r < 4 := by omega
          have hat := st4_at xs ys q hlt
          rw [hr] at hat
          obtain ⟨v, lsd, hW0, hst⟩ := (HW.out.2.2.1.keepN kr).p
          have hlen : r < lsd.length := by rw [← stOf_len, hst]; exact hr4
          have hL := way_look hW0 hlen
          have hb2 : lsd[r].b = (wantL xs ys).getD q [] := by
            have h3 := stOf_get lsd r hlen
            have h4 : (stOf lsd)[r]'(by rw [stOf_len]; exact hlen) = (st4 xs ys).getD r ([], false) := by
              simp [hst, List.getD, hr4, st4]
            rw [h4, hat] at h3
            exact (congrArg Prod.fst h3).symm
          rw [hb2] at hL
          have HL := Lib.hid (And.intro hO (And.intro hls (And.intro kr (show ls.length = q by have := congrArg List.length hls; simp [wantL] at this; omega))))
          clear hb2 hlen hst hW0 hat hr hls kr
          obtain ⟨cc, hcc⟩ : ∃ cc, (wantL xs ys).getD q [] = cc := ⟨_, rfl⟩
          rw [hcc] at hL
          have HCC := Lib.hid hcc
          clear hcc
          go_wp2_with fail
          refine hL.mono ?_
          rintro e w9 ⟨u, rfl, ou, k9⟩
          obtain ⟨Au, cu, rfl, -⟩ := ou.readsB.form
          have hz9 := k9.size
          have hzr := HL.out.2.2.1.size
          have kl9 := (Kp.refl (fun _ => False) w9).alloc (.cells #[.slice Au cc.length cu] 26)
          have hO9 := ((hO.wide (G := fun k => WW.heap.size ≤ k ∧ k < wr.heap.size) (fun k hk hf => ⟨hf, hk⟩)).keepN k9).keepN kl9
          obtain ⟨v10, w10, r10, O10, k10⟩ := run_app2 (P := Tryd.prog) (ty := 39) (w9.alloc (.cells #[.slice Au cc.length cu] 26)) Tryd.underlying39 rowinfo rfl hO9 (own2_one ou) (fun k h1 h2 => by rcases h2 with h2 | h2 <;> (have := h1.2; have := h2.1; omega)) (by have := HL.out.2.2.2; simp; omega) (by have := HL.out.2.2.2; simp; omega)
          have hz10 := k10.size
          have hzl : (w9.alloc (.cells #[.slice Au cc.length cu] 26)).heap.size = w9.heap.size + 1 := by simp
          have kk10 : KpN WW w10 := ((HL.out.2.2.1.thenN k9).thenN kl9).fresh k10 (fun i hi => hO.row.fit i hi)
          have O11 := O10.wide (G := fun k => WW.heap.size ≤ k) (fun k hk hf => by
            rcases hf with hf | (hf | hf) | hf
            · exact hf.1
            · have := hf.1; omega
            · have := hf.1; omega
            · have := hf.1; omega)
          have hls2 : (ls ++ [(Value.slice Au cc.length cu, cc)]).map Prod.snd = (wantL xs ys).take (q + 1) := by
            rw [List.map_append, HL.out.2.1, List.take_succ_eq_append_getElem (by simp [wantL]; omega), ← HCC.out]
            congr 1
            simp [List.getD, show q < (wantL xs ys).length by simp [wantL]; omega]
          have HN := Lib.hid (And.intro O11 (And.intro hls2 kk10))
          clear O11 hls2 kk10 O10 k10 hO9 kl9 hO ou k9 hL hzl
          go_wp2_with (first | ((with_reducible show wpList _ _ _ (Oper.mk _ (Op.call _) _ _ _ _ :: _) _ (World.alloc w9 _)); refine app_op r10 rfl rfl ?_) | fail)
          go_roundw
          case rel => exact ⟨q + 1, _, by omega, by go_num, HN.out.1, HN.out.2.1, HN.out.2.2⟩
          case measure => exact meas_up hlt
        · have hq8 : q = 8 := by omega
          rw [hq8] at hls
          obtain ⟨v, lsd, hW0, hst⟩ := (HW.out.2.2.1.keepN kr).p
          have oW := HW.out.2.2.1.keepN kr
          have hT : Calls Tryd.prog 8 #[.pointer (some ⟨g, 0, none⟩), .int .i64 3] wr (WTakeP wr F7 g 6 xs [(xs, false), (ys, false), (xs, false)]) := way_take (j := 3) oW.p (by simp [st4])
          have hlsn : ls.length = 8 := by have := congrArg List.length hls; simp [wantL] at this; omega
          have HL := Lib.hid (And.intro hO (And.intro hls (And.intro kr (And.intro hlsn oW))))
          clear hst hW0 hls kr hO oW hlsn
          have hnl : ¬ (q : Int) < 8 := by omega
          go_wp2_with fail
          refine hT.mono ?_
          rintro e w9 ⟨u, rfl, ou, hX9, k9⟩
          obtain ⟨Au, cu, rfl, -⟩ := ou.readsB.form
          have o9 := HL.out.2.2.2.2.next hX9 (Gr.refl _ _ _) k9
          have hz9 := k9.size
          have hzr := HL.out.2.2.1.size
          have kl9 := (Kp.refl (fun _ => False) w9).alloc (.cells #[.slice Au xs.length cu] 26)
          have hFW := HW.out.2.2.2.2
          have hO9 := ((HL.out.1.wide (G := fun k => WW.heap.size ≤ k ∧ k < wr.heap.size) (fun k hk hf => ⟨hf, hk⟩)).keep k9 (fun i h1 h2 => by have := h1.1; have := hFW i h2; omega)).keepN kl9
          obtain ⟨v10, w10, r10, O10, k10⟩ := run_app2 (P := Tryd.prog) (ty := 39) (w9.alloc (.cells #[.slice Au xs.length cu] 26)) Tryd.underlying39 rowinfo rfl hO9 (own2_one ou) (fun k h1 h2 => by rcases h2 with h2 | h2 <;> (have := h1.2; have := h2.1; omega)) (by have := HL.out.2.2.2.1; simp; omega) (by have := HL.out.2.2.2.1; simp; omega)
          have hz10 := k10.size
          have hzl : (w9.alloc (.cells #[.slice Au xs.length cu] 26)).heap.size = w9.heap.size + 1 := by simp
          have hk9 : ∀ k, k < WW.heap.size → (¬ F7 k) → w10.heap[k]? = WW.heap[k]? := fun k hk hF => by
            rw [k10.block k (by omega) (fun e => by have := HL.out.1.row.fit k e; omega), kl9.block k (by omega) (fun x => x), k9.block k (by omega) hF, HL.out.2.2.1.block k hk (fun x => x)]
          have O11 := O10.wide (G := fun k => WW.heap.size ≤ k) (fun k hk hf => by
            rcases hf with hf | (hf | hf) | hf
            · exact hf.1
            · have := hf.1; omega
            · have := hf.1; omega
            · have := hf.1; omega)
          obtain ⟨lt, hlt9⟩ : ∃ lt, ls ++ [(Value.slice Au xs.length cu, xs)] = lt := ⟨_, rfl⟩
          rw [hlt9] at O11
          have hls2 : lt.map Prod.snd = wantL xs ys := by
            rw [← hlt9, List.map_append, HL.out.2.1]
            rfl
          have hlen9 : lt.length = 9 := by rw [← hlt9, List.length_append, HL.out.2.2.2.1]; rfl
          have o10 := (o9.keepN kl9).keep k10 (fun x hx e => by have := HL.out.1.row.fit x e; have := hFW x hx; omega) (fun x e => by have := HL.out.1.row.fit x e; have := (HL.out.2.2.2.2).kp.size; have := HW.out.2.2.1.kp.size; omega)
          obtain ⟨gl, cl, hvl, hgl, hcl⟩ := O11.form (by omega)
          rw [hlen9] at hvl hcl
          subst hvl
          have hgw10 : ∀ i, i < 9 → w10.cell? ⟨gw, i, none⟩ = some (.string (bs ((wantL xs ys).getD i []))) := fun i hi => by
            rw [World.cell?_of_block (hk9 gw (by omega) (fun e => by have := hFW gw e; omega))]
            exact HW.out.2.2.2.1 i hi
          have hgwl : gw < w10.heap.size := by omega
          have HE := Lib.hid (And.intro O11 (And.intro hls2 (And.intro hlen9 (And.intro o10 hgw10))))
          clear O11 hls2 hlt9 hlen9 o10 hgw10 O10 k10 hO9 kl9 ou k9 hX9 o9 hzl hk9 hFW
          go_wp2_with (first | ((with_reducible show wpList _ _ _ (Oper.mk _ (Op.call _) _ _ _ _ :: _) _ (World.alloc w9 _)); refine app_op r10 rfl rfl ?_) | fail)
          clear r10
          go_loopw [15] (fun i wr => ∃ q : Nat, q ≤ 9 ∧ i = .int .i64 q ∧ KpN w10 wr) (fun i _ => 9 - (intOf i).toNat)
          case atStart => exact ⟨0, by omega, rfl, Kp.refl _ _⟩
          case round =>
            obtain ⟨q, hq, rfl, kr⟩ := hrel
            by_cases hlt : q < 9
            · have hO := HE.out.1.keepN kr
              have hql : q < lt.length := by rw [HE.out.2.2.1]; exact hlt
              have hcl2 := hO.cellAt q hql
              have hrd := (hO.each q hql).readsB
              have hcw : wr.cell? ⟨gw, q, none⟩ = some (.string (bs ((wantL xs ys).getD q []))) := by
                rw [kr.cell hgwl (fun x => x)]
                exact HE.out.2.2.2.2 q hlt
              have hY : lt[q].2 = (wantL xs ys).getD q [] := by
                rw [← HE.out.2.1]
                simp [List.getD, hql]
              rw [← hY] at hcw
              have hgl2 := hO.row.lt gl rfl
              clear hY hO
              generalize lt[q] = d at *
              obtain ⟨dv, Y⟩ := d
              dsimp only at hcl2 hrd hcw
              have hz := kr.size
              have hqi : (q : Int) < 9 := by omega
              go_wp2_with fail
              refine rg_begin 14 (fun _ => False) (by kernel_rfl) (fun w11 d11 => ?_)
              refine rg_take 0 (d := (some 134)) (v := .int .i64 0) (by decide) rfl rfl (by kernel_rfl) (by kernel_rfl) (by kernel_rfl) (fun _ _ _ h => h) rfl (fun W => rfl) ?_
              conv => arg 8; simp only [Act.put, List.setIfInBounds_toArray, List.set_cons_zero, List.set_cons_succ]
              refine rg_take 1 (d := (some 135)) (v := .bool false) (by decide) rfl rfl (by kernel_rfl) (by kernel_rfl) (by kernel_rfl) (fun _ _ _ h => h) rfl (fun W => by go_simp) ?_
              conv => arg 8; simp only [Act.put, List.setIfInBounds_toArray, List.set_cons_zero, List.set_cons_succ]
              refine rg_take 2 (d := (some 136)) (v := .bool false) (by decide) rfl rfl (by kernel_rfl) (by kernel_rfl) (by kernel_rfl) (fun _ _ _ h => h) rfl (fun W => rfl) ?_
              conv => arg 8; simp only [Act.put, List.setIfInBounds_toArray, List.set_cons_zero, List.set_cons_succ]
              refine rg_take 3 (d := (some 137)) (v := .slice (some ⟨gl, 0, none⟩) 9 cl) (by decide) rfl rfl (by kernel_rfl) (by kernel_rfl) (by kernel_rfl) (fun _ _ _ h => h) rfl (fun W => rfl) ?_
              conv => arg 8; simp only [Act.put, List.setIfInBounds_toArray, List.set_cons_zero, List.set_cons_succ]
              refine rg_take 4 (d := (some 138)) (v := .int .i64 q) (by decide) rfl rfl (by kernel_rfl) (by kernel_rfl) (by kernel_rfl) (fun _ _ _ h => h) rfl (fun W => rfl) ?_
              conv => arg 8; simp only [Act.put, List.setIfInBounds_toArray, List.set_cons_zero, List.set_cons_succ]
              refine rg_take 5 (d := (some 139)) (v := .pointer (some ⟨gl, q, none⟩)) (by decide) rfl rfl (by kernel_rfl) (by kernel_rfl) (by kernel_rfl) (fun _ _ _ h => h) rfl (fun W => by go_simp) ?_
              conv => arg 8; simp only [Act.put, List.setIfInBounds_toArray, List.set_cons_zero, List.set_cons_succ]
              refine rg_read 6 (d := (some 140)) (v := dv) (by decide) (by kernel_rfl) (by kernel_rfl) rfl rfl (by kernel_rfl) (by kernel_rfl) (by kernel_rfl) (fun _ _ _ h => h) rfl (fun W hW => by have hc := (hW.cell (p := ⟨gl, q, none⟩) (Nat.lt_of_lt_of_le hgl2 d11.size) (fun x => x)).trans ((d11.cell hgl2 (fun x => x)).trans hcl2); go_simp) ?_
              conv => arg 8; simp only [Act.put, List.setIfInBounds_toArray, List.set_cons_zero, List.set_cons_succ]
              refine rg_conv 7 (d := (some 141)) (hrd.keepN d11) (fun _ _ x => x) Tryd.underlying26 Tryd.underlying5 Tryd.underlying9 (by decide) (by kernel_rfl) (by kernel_rfl) rfl rfl (by kernel_rfl) (by kernel_rfl) (by kernel_rfl) (fun _ _ _ h => h) rfl rfl ?_
              conv => arg 8; simp only [Act.put, List.setIfInBounds_toArray, List.set_cons_zero, List.set_cons_succ]
              refine rg_take 8 (d := (some 142)) (v := .slice (some ⟨gw, 0, none⟩) 9 9) (by decide) rfl rfl (by kernel_rfl) (by kernel_rfl) (by kernel_rfl) (fun _ _ _ h => h) rfl (fun W => rfl) ?_
              conv => arg 8; simp only [Act.put, List.setIfInBounds_toArray, List.set_cons_zero, List.set_cons_succ]
              refine rg_take 9 (d := (some 143)) (v := .int .i64 q) (by decide) rfl rfl (by kernel_rfl) (by kernel_rfl) (by kernel_rfl) (fun _ _ _ h => h) rfl (fun W => rfl) ?_
              conv => arg 8; simp only [Act.put, List.setIfInBounds_toArray, List.set_cons_zero, List.set_cons_succ]
              refine rg_take 10 (d := (some 144)) (v := .pointer (some ⟨gw, q, none⟩)) (by decide) rfl rfl (by kernel_rfl) (by kernel_rfl) (by kernel_rfl) (fun _ _ _ h => h) rfl (fun W => by go_simp) ?_
              conv => arg 8; simp only [Act.put, List.setIfInBounds_toArray, List.set_cons_zero, List.set_cons_succ]
              refine rg_read 11 (d := (some 145)) (v := .string (bs Y)) (by decide) (by kernel_rfl) (by kernel_rfl) rfl rfl (by kernel_rfl) (by kernel_rfl) (by kernel_rfl) (fun _ _ _ h => h) rfl (fun W hW => by have hc := (hW.cell (p := ⟨gw, q, none⟩) ((show gw < w11.heap.size by have := d11.size; omega)) (fun x => x)).trans ((d11.cell (show gw < wr.heap.size by omega) (fun x => x)).trans hcw); go_simp) ?_
              conv => arg 8; simp only [Act.put, List.setIfInBounds_toArray, List.set_cons_zero, List.set_cons_succ]
              refine rg_take 12 (d := (some 146)) (v := .bool false) (by decide) rfl rfl (by kernel_rfl) (by kernel_rfl) (by kernel_rfl) (fun _ _ _ h => h) rfl (fun W => by go_simp) ?_
              conv => arg 8; simp only [Act.put, List.setIfInBounds_toArray, List.set_cons_zero, List.set_cons_succ]
              refine rg_take 13 (d := (some 147)) (v := .bool false) (by decide) rfl rfl (by kernel_rfl) (by kernel_rfl) (by kernel_rfl) (fun _ _ _ h => h) rfl (fun W => rfl) ?_
              conv => arg 8; simp only [Act.put, List.setIfInBounds_toArray, List.set_cons_zero, List.set_cons_succ]
              refine rg_done (by kernel_rfl) ?_
              go_wp2
              go_roundw
              case rel => exact ⟨q + 1, by omega, by go_num, kr.thenN d11⟩
              case measure => exact meas_up hlt
            · obtain ⟨LL, hLL⟩ : ∃ LL : Nat → Nat, ∀ m (hm : m < lt.length), lt[m].2.length = LL m := ⟨fun m => (lt.getD m (.nilIface, [])).2.length, fun m hm => by simp [List.getD, hm]⟩
              have hLb : ∀ m, m < 9 → LL m ≤ 10000000 := fun m hm => by
                have hm9 : m < lt.length := by rw [HE.out.2.2.1]; exact hm
                have hY : lt[m].2 ∈ lt.map Prod.snd := List.mem_map.2 ⟨_, List.getElem_mem hm9, rfl⟩
                rw [HE.out.2.1] at hY
                have hA := HA.out.2
                have hB := HB.out.2
                rw [← hLL m hm9]
                simp only [wantL, List.mem_cons, List.not_mem_nil, or_false] at hY
                rcases hY with e | e | e | e | e | e | e | e | e <;> (rw [e]; omega)
              have HF := Lib.hid (And.intro (HE.out.1.keepN kr) (And.intro HE.out.2.2.1 (And.intro hLL (And.intro (HE.out.2.2.2.1.keepN kr) (And.intro hLb HW.out.2.2.2.2)))))
              have hgwE : WW.heap.size ≤ wr.heap.size := by have := kr.size; omega
              have hnl9 : ¬ (q : Int) < 9 := by omega
              clear hLL hLb HE kr hlt hq
              obtain ⟨wE, hwE⟩ : ∃ wE : World, wE = wr := ⟨_, rfl⟩
              subst hwE
              go_wp2_with fail
              go_loopw [16] (fun iv wr => ∃ (i : Nat) (ks : List (Value × List UInt8)), i ≤ 9 ∧ iv = .int .i64 i ∧ ks.length = 9 ∧ Own2 wr 26 5 (fun k => WW.heap.size ≤ k) (.slice (some ⟨gl, 0, none⟩) 9 cl) ks ∧ (∀ m (hm : m < ks.length), ks[m].2.length = LL m) ∧ (∀ m (hm : m < ks.length), m < i → ks[m].2 = List.replicate (LL m) (UInt8.ofNat (m + 1))) ∧ Kp (fun k => WW.heap.size ≤ k) wE wr) (fun iv _ => 9 - (intOf iv).toNat)
              case atStart => exact ⟨0, lt, by omega, rfl, HF.out.2.1, HF.out.1, HF.out.2.2.1, fun m _ hm => by omega, Kp.refl _ _⟩
              case round =>
                obtain ⟨i, ks, hi, rfl, hkl, Ck, hlen, hdone, kk⟩ := hrel
                have HD := Lib.hid (And.intro hkl (And.intro hlen hdone))
                clear hkl hlen hdone
                by_cases hlt : i < 9
                · have hik : i < ks.length := by rw [HD.out.1]; exact hlt
                  obtain ⟨⟨a, Y⟩, haY⟩ : ∃ x, ks[i] = x := ⟨_, rfl⟩
                  have oa := Ck.each i hik
                  have ca := Ck.cellAt i hik
                  have hY := HD.out.2.1 i hik
                  rw [haY] at oa ca hY
                  dsimp only at oa ca hY
                  have hnb := HF.out.2.2.2.2.1 i hlt
                  rw [← hY] at hnb
                  have hga : ∀ k, a.ownBlock = some k → k ≠ gl := fun k hk e => Ck.out i hik gl rfl (by rw [haY]; rw [← e]; exact hk)
                  have hglt := Ck.row.lt gl rfl
                  obtain ⟨Ba, na, hva, hca⟩ := oa.readsB.form
                  obtain ⟨n1, hn1⟩ : ∃ n1, Y.length = n1 := ⟨_, rfl⟩
                  rw [hn1] at hva hca hnb
                  obtain ⟨c1, hc1⟩ : ∃ c, UInt8.ofNat (i + 1) = c := ⟨_, rfl⟩
                  have hb1 : bv c1 = .int .u8 ((i : Int) + 1) := by rw [← hc1, bv_num (i + 1) (by omega)]; rfl
                  have HN1 := Lib.hid (And.intro hn1 (And.intro haY (And.intro hY (And.intro hc1 hb1))))
                  have hii : (i : Int) < 9 := by omega
                  have HC := Lib.hid Ck
                  clear haY hn1 hY hc1 hb1 Ck
                  obtain ⟨wo, hwo⟩ : ∃ wo : World, wo = wr := ⟨_, rfl⟩
                  subst hwo
                  go_wp2_with fail
                  go_loopw [17] (fun jv wr => ∃ j : Nat, j ≤ n1 ∧ jv = .int .i64 j ∧ OwB wr 5 (fun k => WW.heap.size ≤ k) a (List.replicate j c1 ++ Y.drop j) ∧ Kp (fun k => a.ownBlock = some k) wo wr) (fun jv _ => n1 - (intOf jv).toNat)
                  case atStart => exact ⟨0, by omega, rfl, oa, Kp.refl _ _⟩
                  case round =>
                    obtain ⟨j, hj, rfl, oj, kj⟩ := hrel
                    have cj : wr.cell? ⟨gl, i, none⟩ = some a := (kj.cell hglt (fun e => hga gl e rfl)).trans ca
                    subst hva
                    by_cases hjt : j < n1
                    · have hlenj : (List.replicate j c1 ++ Y.drop j).length = n1 := by simp; have := HN1.out.1; omega
                      obtain ⟨ga, na', hvA, hgaF, -⟩ := oj.form (by rw [hlenj]; omega)
                      rw [hlenj] at hvA
                      injection hvA with hB1 _ hB3
                      subst hB1
                      subst hB3
                      have hji : (j : Int) < (n1 : Int) := by omega
                      have fz := oj.frozenAt j
                      obtain ⟨zz, hcz⟩ : ∃ z, wr.cell? ⟨ga, j, none⟩ = some z := ⟨_, oj.byteAt hlenj.symm j (by rw [hlenj]; omega)⟩
                      have op := oj.putB (hlenj.symm) j c1
                      rw [repl_set Y _ j (by have := HN1.out.1; omega), HN1.out.2.2.2.2] at op
                      have ks2 : Kp (fun k => (Value.slice (some ⟨ga, 0, none⟩) n1 na).ownBlock = some k) wr (wr.setCell ⟨ga, j, none⟩ (.int .u8 ((i : Int) + 1))) := (Kp.refl (fun k => (Value.slice (some ⟨ga, 0, none⟩) n1 na).ownBlock = some k) wr).setCell (p := ⟨ga, j, none⟩) (.inl rfl) _
                      have HN := Lib.hid (And.intro op (kj.trans ks2 (fun _ _ x => x) (fun _ _ x => x)))
                      clear op ks2 kj oj hlenj
                      go_wp2
                      go_roundw
                      case rel => exact ⟨j + 1, by omega, by go_num, HN.out.1, HN.out.2⟩
                      case measure => exact meas_up hjt
                    · obtain rfl : j = n1 := by omega
                      rw [List.drop_eq_nil_of_le (by have := HN1.out.1; omega), List.append_nil] at oj
                      have Cj := HC.out.upd i hik (ys := List.replicate j c1) (by rw [HN1.out.2.1]; exact kj) (by rw [HN1.out.2.1]; exact oj)
                      rw [HN1.out.2.1] at Cj
                      have kkj : Kp (fun k => WW.heap.size ≤ k) wE wr := kk.trans kj (fun _ _ x => x) (fun m _ hm => oa.fit m hm)
                      have HN := Lib.hid (And.intro Cj kkj)
                      clear Cj kkj kj oj
                      go_wp2
                      go_roundw
                      case rel =>
                        refine ⟨i + 1, _, by omega, by go_num, by rw [List.length_set]; exact HD.out.1, HN.out.1, fun m hm => ?_, fun m hm hmi => ?_, HN.out.2⟩
                        · rw [List.getElem_set]
                          split
                          · rename_i e; subst e; dsimp only; rw [List.length_replicate, ← HN1.out.2.2.1, HN1.out.1]
                          · exact HD.out.2.1 m (by simpa using hm)
                        · rw [List.getElem_set]
                          split
                          · rename_i e; subst e; dsimp only; rw [HN1.out.2.2.2.1, ← HN1.out.2.2.1, HN1.out.1]
                          · exact HD.out.2.2 m (by simpa using hm) (by omega)
                      case measure => exact meas_up hlt
                · have hi9 : i = 9 := by omega
                  have hdn : ∀ m (hm : m < ks.length), ks[m].2 = List.replicate (LL m) (UInt8.ofNat (m + 1)) := fun m hm => HD.out.2.2 m hm (by rw [HD.out.1] at hm; omega)
                  have hnl16 : ¬ (i : Int) < 9 := by omega
                  have oE := HF.out.2.2.2.1.keep kk (fun x hx h => by have := HF.out.2.2.2.2.2 x hx; omega) (fun x h => by have := HW.out.2.2.1.kp.size; omega)
                  obtain ⟨wF, hwF⟩ : ∃ wF : World, wF = wr := ⟨_, rfl⟩
                  subst hwF
                  have hzF := kk.size
                  have HG := Lib.hid (And.intro Ck (And.intro HD.out.1 (And.intro hdn oE)))
                  clear hdn oE Ck kk hlt hi9 hi
                  go_wp2_with fail
                  go_loopw [18] (fun iv wr => ∃ i : Nat, i ≤ 9 ∧ iv = .int .i64 i ∧ (∀ m (hm : m < ks.length), i ≤ m → OwB wr 5 (fun k => WW.heap.size ≤ k) ks[m].1 ks[m].2) ∧ (∀ m (hm : m < ks.length), m < i → RdB wr ks[m].1 ks[m].2) ∧ OwC wr 26 1 (fun k => WW.heap.size ≤ k) (.slice (some ⟨gl, 0, none⟩) 9 cl) 9 (ks.map Prod.fst) ∧ Kp (fun k => WW.heap.size ≤ k) wF wr) (fun iv _ => 9 - (intOf iv).toNat)
                  case atStart =>
                    refine ⟨0, by omega, rfl, fun m hm _ => HG.out.1.each m hm, fun m _ hm => by omega, ?_, Kp.refl _ _⟩
                    have := HG.out.1.row
                    rwa [HG.out.2.1] at this
                  case round =>
                    obtain ⟨i, hi, rfl, how, hrd, hrow, kk⟩ := hrel
                    by_cases hlt : i < 9
                    · have hik : i < ks.length := by rw [HG.out.2.1]; exact hlt
                      have ca : wr.cell? ⟨gl, i, none⟩ = some ks[i].1 := by
                        rw [OwC.cellAt hrow i hlt]
                        simp [hik]
                      have oa := how i hik (Nat.le_refl _)
                      have hap : ∀ m (hm : m < ks.length), m ≠ i → ∀ k, ks[m].1.ownBlock = some k → ks[i].1.ownBlock ≠ some k := fun m hm hne => HG.out.1.apart m i hm hik hne
                      have hga : ks[i].1.ownBlock ≠ some gl := HG.out.1.out i hik gl rfl
                      have hYl : ks[i].2.length ≤ 10000000 := by
                        rw [HG.out.2.2.1 i hik, List.length_replicate]
                        exact HF.out.2.2.2.2.1 i hlt
                      have HR := Lib.hid (And.intro how (And.intro hrd (And.intro hrow (And.intro kk hap))))
                      have hqi : (i : Int) < 9 := by omega
                      clear how hrd hrow kk hap
                      obtain ⟨wo, hwo⟩ : ∃ wo : World, wo = wr := ⟨_, rfl⟩
                      subst hwo
                      obtain ⟨a, ha⟩ : ∃ a, ks[i].1 = a := ⟨_, rfl⟩
                      obtain ⟨Y, hY⟩ : ∃ Y, ks[i].2 = Y := ⟨_, rfl⟩
                      rw [ha] at ca oa hga
                      rw [hY] at oa hYl
                      have HAY := Lib.hid (And.intro ha (And.intro hY (And.intro oa hga)))
                      clear ha hY hga
                      go_wp2_with fail
                      go_loopw [19, 20] (fun mv jv wr => ∃ (j : Nat) (ds : List Value), j ≤ 64 ∧ jv = .int .i64 j ∧ Grow wo wr 5 a mv Y.length (Y.length + j) (bvs Y) ds) (fun _ jv _ => 64 - (intOf jv).toNat)
                      case atStart => exact ⟨0, [], by omega, rfl, Grow.start oa⟩
                      case round =>
                        obtain ⟨j, ds, hj, rfl, hgr⟩ := hrel
                        by_cases hjt : j < 64
                        · have hji : (j : Int) < 64 := by omega
                          have kl : KpN wr (wr.alloc (.cells #[.int .u8 222] 5)) := (Kp.refl _ _).alloc _
                          have hcl3 : (wr.alloc (.cells #[.int .u8 222] 5)).cell? ⟨wr.heap.size, 0, none⟩ = some (.int .u8 222) := by
                            rw [cell_of_row _ _ _ _ _ _ (heap_alloc_new _ _)]; rfl
                          obtain ⟨v', w', r', hg'⟩ := Grow.app (P := Tryd.prog) (ty := 26) (c := 1) Tryd.underlying26 u8info rfl oa hgr kl hcl3 rfl (by omega) (by omega)
                          have HN := Lib.hid hg'
                          clear hgr kl hcl3 hg'
                          go_wp2_with (first | ((with_reducible show wpList _ _ _ (Oper.mk _ (Op.call _) _ _ _ _ :: _) _ (World.alloc wr _)); refine app_op r' rfl rfl ?_) | fail)
                          go_roundw
                          case rel => exact ⟨j + 1, _, by omega, by go_num, HN.out⟩
                          case measure => exact meas_up hjt
                        · have hfin : (∀ m (hm : m < ks.length), i + 1 ≤ m → OwB wr 5 (fun k => WW.heap.size ≤ k) ks[m].1 ks[m].2) ∧ (∀ m (hm : m < ks.length), m < i + 1 → RdB wr ks[m].1 ks[m].2) ∧ OwC wr 26 1 (fun k => WW.heap.size ≤ k) (.slice (some ⟨gl, 0, none⟩) 9 cl) 9 (ks.map Prod.fst) ∧ Kp (fun k => WW.heap.size ≤ k) wF wr := by
                            have hk := hgr.kp
                            rw [← HAY.out.1] at hk
                            refine ⟨fun m hm hmi => (HR.out.1 m hm (by omega)).keepB hk (fun k h1 h2 => HR.out.2.2.2.2 m hm (by omega) k h1 h2), fun m hm hmi => ?_, HR.out.2.2.1.keepB hk (fun k h1 h2 => ?_), HR.out.2.2.2.1.trans hk (fun _ _ x => x) (fun k _ h2 => ?_)⟩
                            · by_cases e : m = i
                              · subst e
                                have hrd := hgr.rd
                                rw [← HAY.out.2.1] at hrd
                                rw [← HAY.out.1] at hrd
                                exact hrd
                              · exact (HR.out.2.1 m hm (by omega)).keep hk (fun k h1 h2 => HR.out.2.2.2.2 m hm e k h1 h2)
                            · obtain rfl : gl = k := Option.some.inj h1
                              rw [HAY.out.1] at h2
                              exact HAY.out.2.2.2 h2
                            · rw [HAY.out.1] at h2
                              exact HAY.out.2.2.1.fit k h2
                          have HN := Lib.hid hfin
                          have hnj : ¬ (j : Int) < 64 := by omega
                          clear hfin hgr
                          go_wp2
                          go_roundw
                          case rel => exact ⟨i + 1, by omega, by go_num, HN.out.1, HN.out.2.1, HN.out.2.2.1, HN.out.2.2.2⟩
                          case measure => exact meas_up hlt
                    · have hnl18 : ¬ (i : Int) < 9 := by omega
                      have hi9 : i = 9 := by omega
                      have hrdA : ∀ m (hm : m < ks.length), RdB wr ks[m].1 (List.replicate (LL m) (UInt8.ofNat (m + 1))) := fun m hm => by
                        rw [← HG.out.2.2.1 m hm]
                        exact hrd m hm (by have := HG.out.2.1; omega)
                      have oG := HG.out.2.2.2.keep kk (fun x hx h => by have := HF.out.2.2.2.2.2 x hx; omega) (fun x h => by have := HW.out.2.2.1.kp.size; omega)
                      obtain ⟨wG, hwG⟩ : ∃ wG : World, wG = wr := ⟨_, rfl⟩
                      subst hwG
                      have HH := Lib.hid (And.intro hrdA (And.intro oG hrow))
                      have hglG : gl < wG.heap.size := hrow.lt gl rfl
                      clear hrdA oG hrow how hrd kk hi9 hlt hi
                      go_wp2_with fail
                      go_loopw [21] (fun iv wr => ∃ i : Nat, i ≤ 9 ∧ iv = .int .i64 i ∧ KpN wG wr) (fun iv _ => 9 - (intOf iv).toNat)
                      case atStart => exact ⟨0, by omega, rfl, Kp.refl _ _⟩
                      case round =>
                        obtain ⟨i, hi, rfl, kr⟩ := hrel
                        by_cases hlt : i < 9
                        · have hik : i < ks.length := by rw [HG.out.2.1]; exact hlt
                          have ca : wr.cell? ⟨gl, i, none⟩ = some ks[i].1 := by
                            rw [OwC.cellAt (HH.out.2.2.keepN kr) i hlt]
                            simp [hik]
                          have hrd := (HH.out.1 i hik).keepN kr
                          obtain ⟨N, hN⟩ : ∃ N, LL i = N := ⟨_, rfl⟩
                          have hNb := HF.out.2.2.2.2.1 i hlt
                          obtain ⟨c1, hc1⟩ : ∃ c, UInt8.ofNat (i + 1) = c := ⟨_, rfl⟩
                          have hb1 : bv c1 = .int .u8 ((i : Int) + 1) := by rw [← hc1, bv_num (i + 1) (by omega)]; rfl
                          rw [hN] at hNb hrd
                          rw [hc1] at hrd
                          generalize ks[i].1 = a at *
                          obtain ⟨Aa, cap, hva, hcap⟩ := hrd.form
                          rw [List.length_replicate] at hva hcap
                          subst hva
                          have HRD := Lib.hid (And.intro hrd hb1)
                          have hqi : (i : Int) < 9 := by omega
                          have HKR := Lib.hid kr
                          clear hrd hb1 hc1 hN kr
                          obtain ⟨wo, hwo⟩ : ∃ wo : World, wo = wr := ⟨_, rfl⟩
                          subst hwo
                          go_wp2_with fail
                          go_loopw [22] (fun jv wr => ∃ j : Nat, j ≤ N ∧ jv = .int .i64 j ∧ wo = wr) (fun jv _ => N - (intOf jv).toNat)
                          case atStart => exact ⟨0, by omega, rfl, rfl⟩
                          case round =>
                            obtain ⟨j, hj, rfl, rfl⟩ := hrel
                            by_cases hjt : j < N
                            · obtain ⟨ad, rfl, hcj⟩ := HRD.out.1.at_ j (by rw [List.length_replicate]; exact hjt)
                              rw [List.getElem_replicate, HRD.out.2] at hcj
                              have hji : (j : Int) < (N : Int) := by omega
                              go_wp2
                              go_roundw
                              case rel => exact ⟨j + 1, by omega, by go_num, by trivial⟩
                              case measure => exact meas_up hjt
                            · have hnj : ¬ (j : Int) < (N : Int) := by omega
                              go_wp2
                              go_roundw
                              case rel => exact ⟨i + 1, by omega, by go_num, HKR.out⟩
                              case measure => exact meas_up hlt
                        · have hnl21 : ¬ (i : Int) < 9 := by omega
                          have oH := HH.out.2.1.keepN kr
                          clear kr hi hlt
                          by_cases ha0 : aL = 0
                          · subst ha0
                            have hx0 : xs = [] := List.eq_nil_of_length_eq_zero HA.out.2.symm
                            have OT : OneW w wr F7 g 6 [(xs, false), (ys, false), (burst xs 0 1, false)] := by
                              rw [show burst xs 0 1 = xs by rw [hx0]; exact burst_out [] 0 1 (.inr (by simp))]
                              exact oH
                            obtain ⟨WT, hWT⟩ : ∃ WT : World, WT = wr := ⟨_, rfl⟩
                            subst hWT
                            clear oH hx0
                            obtain ⟨BX, hBX⟩ : ∃ BX, burst xs 0 1 = BX := ⟨_, rfl⟩
                            rw [hBX] at OT
                            have HBX := Lib.hid hBX
                            clear hBX
                            have hL0 : Calls Tryd.prog 7 #[.pointer (some ⟨g, 0, none⟩), .int .i64 0] WT (BokP WT xs) := wlook_x (i := 0) OT.p
                            have kT := OT.kp
                            have OTH := Lib.hid OT
                            clear OT
                            go_wp2_with fail
                            refine hL0.mono ?_
                            rintro e wa ⟨u0, rfl, ou0, ka⟩
                            have hL1 : Calls Tryd.prog 7 #[.pointer (some ⟨g, 0, none⟩), .int .i64 1] wa (BokP wa ys) := wlook_x (i := 1) (OTH.out.keepN ka).p
                            clear hL0
                            go_wp2_with fail
                            refine hL1.mono ?_
                            rintro e wb ⟨u1, rfl, ou1, kb⟩
                            have hL2 : Calls Tryd.prog 7 #[.pointer (some ⟨g, 0, none⟩), .int .i64 2] wb (BokP wb BX) := wlook_x (i := 2) (OTH.out.keepN (ka.thenN kb)).p
                            clear hL1
                            go_wp2_with fail
                            refine hL2.mono ?_
                            rintro e wc ⟨u2, rfl, ou2, kc⟩
                            have kTc := ((kT.thenN ka).thenN kb).thenN kc
                            have hBu := burst_c (mask := 1) (at_ := 0) (HA.out.1.keepN kTc) (by omega) (by omega) (by have := HA.out.2; omega)
                            rw [HBX.out] at hBu
                            rw [show ((1 : Nat) : Int) = 1 from rfl] at hBu
                            clear hL2
                            go_wp2_with fail
                            refine hBu.mono ?_
                            rintro e wd ⟨u3, rfl, ou3, kd⟩
                            have kTd := kTc.thenN kd
                            have r0 := run_toStr (P := Tryd.prog) (w := wd) Tryd.underlying26 Tryd.underlying5 Tryd.underlying9 (((ou0.readsB.keepN kb).keepN kc).keepN kd)
                            have r1 := run_toStr (P := Tryd.prog) (w := wd) Tryd.underlying26 Tryd.underlying5 Tryd.underlying9 ((ou1.readsB.keepN kc).keepN kd)
                            have r2 := run_toStr (P := Tryd.prog) (w := wd) Tryd.underlying26 Tryd.underlying5 Tryd.underlying9 (ou2.readsB.keepN kd)
                            have r3 := run_toStr (P := Tryd.prog) (w := wd) Tryd.underlying26 Tryd.underlying5 Tryd.underlying9 ou3.readsB
                            have rA := run_toStr (P := Tryd.prog) (w := wd) Tryd.underlying26 Tryd.underlying5 Tryd.underlying9 (HA.out.1.keepN kTd)
                            have rB := run_toStr (P := Tryd.prog) (w := wd) Tryd.underlying26 Tryd.underlying5 Tryd.underlying9 (HB.out.1.keepN kTd)
                            have hLen : Calls Tryd.prog 9 #[.pointer (some ⟨g, 0, none⟩)] wd fun e w' => e = .returned (.int .i64 3) ∧ wd = w' := wlen_x (OTH.out.keepN (((ka.thenN kb).thenN kc).thenN kd)).p
                            clear ou0 ou1 ou2 ou3 hBu ka kb kc kd kT kTc
                            go_wp2_with (first | ((with_reducible show wpList _ _ _ (Oper.mk (some 241) (Op.convert _ _ _) _ _ _ _ :: _) _ _); refine conv_op r0 rfl ?_) | ((with_reducible show wpList _ _ _ (Oper.mk (some 243) (Op.convert _ _ _) _ _ _ _ :: _) _ _); refine conv_op rA rfl ?_) | ((with_reducible show wpList _ _ _ (Oper.mk (some 247) (Op.convert _ _ _) _ _ _ _ :: _) _ _); refine conv_opg r1 rfl rfl ?_) | ((with_reducible show wpList _ _ _ (Oper.mk (some 249) (Op.convert _ _ _) _ _ _ _ :: _) _ _); refine conv_opg rB rfl rfl ?_) | ((with_reducible show wpList _ _ _ (Oper.mk (some 254) (Op.convert _ _ _) _ _ _ _ :: _) _ _); refine conv_opg r2 rfl rfl ?_) | ((with_reducible show wpList _ _ _ (Oper.mk (some 256) (Op.convert _ _ _) _ _ _ _ :: _) _ _); refine conv_opg r3 rfl rfl ?_) | fail)
                            refine hLen.mono ?_
                            rintro e we ⟨rfl, rfl⟩
                            go_wp2
                            go_ret
                            exact ⟨rfl, kTd⟩
                          · have hpos : 0 < xs.length := by have := HA.out.2; omega
                            have hal : (0 : Int) < (aL : Int) := by omega
                            have hTn : Calls Tryd.prog 13 #[.pointer (some ⟨g, 0, none⟩), .int .i64 2, .int .i64 0, .int .u32 1] wr (WOpP true 68 wr F7 g 6 (.int .i64 0) [(xs, false), (ys, false), (burst xs 0 1, true)]) := by
                              have := way_turn (i := 2) (at_ := 0) (mask := 1) oH.p (hbo.keepN oH.kp) (by omega) (by omega)
                              rw [turn_last xs ys hpos] at this
                              exact this
                            have HOH := Lib.hid oH
                            clear oH hpos
                            go_wp2_with fail
                            refine hTn.mono ?_
                            rintro e WT ⟨rfl, F8, hX8, hG8, k8⟩
                            have OT := HOH.out.next hX8 hG8 k8
                            clear hTn hX8 hG8 k8
                            obtain ⟨BX, hBX⟩ : ∃ BX, burst xs 0 1 = BX := ⟨_, rfl⟩
                            rw [hBX] at OT
                            have HBX := Lib.hid hBX
                            clear hBX
                            have hL0 : Calls Tryd.prog 7 #[.pointer (some ⟨g, 0, none⟩), .int .i64 0] WT (BokP WT xs) := wlook_x (i := 0) OT.p
                            have kT := OT.kp
                            have OTH := Lib.hid OT
                            clear OT
                            go_wp2_with fail
                            refine hL0.mono ?_
                            rintro e wa ⟨u0, rfl, ou0, ka⟩
                            have hL1 : Calls Tryd.prog 7 #[.pointer (some ⟨g, 0, none⟩), .int .i64 1] wa (BokP wa ys) := wlook_x (i := 1) (OTH.out.keepN ka).p
                            clear hL0
                            go_wp2_with fail
                            refine hL1.mono ?_
                            rintro e wb ⟨u1, rfl, ou1, kb⟩
                            have hL2 : Calls Tryd.prog 7 #[.pointer (some ⟨g, 0, none⟩), .int .i64 2] wb (BokP wb BX) := wlook_x (i := 2) (OTH.out.keepN (ka.thenN kb)).p
                            clear hL1
                            go_wp2_with fail
                            refine hL2.mono ?_
                            rintro e wc ⟨u2, rfl, ou2, kc⟩
                            have kTc := ((kT.thenN ka).thenN kb).thenN kc
                            have hBu := burst_c (mask := 1) (at_ := 0) (HA.out.1.keepN kTc) (by omega) (by omega) (by have := HA.out.2; omega)
                            rw [HBX.out] at hBu
                            rw [show ((1 : Nat) : Int) = 1 from rfl] at hBu
                            clear hL2
                            go_wp2_with fail
                            refine hBu.mono ?_
                            rintro e wd ⟨u3, rfl, ou3, kd⟩
                            have kTd := kTc.thenN kd
                            have r0 := run_toStr (P := Tryd.prog) (w := wd) Tryd.underlying26 Tryd.underlying5 Tryd.underlying9 (((ou0.readsB.keepN kb).keepN kc).keepN kd)
                            have r1 := run_toStr (P := Tryd.prog) (w := wd) Tryd.underlying26 Tryd.underlying5 Tryd.underlying9 ((ou1.readsB.keepN kc).keepN kd)
                            have r2 := run_toStr (P := Tryd.prog) (w := wd) Tryd.underlying26 Tryd.underlying5 Tryd.underlying9 (ou2.readsB.keepN kd)
                            have r3 := run_toStr (P := Tryd.prog) (w := wd) Tryd.underlying26 Tryd.underlying5 Tryd.underlying9 ou3.readsB
                            have rA := run_toStr (P := Tryd.prog) (w := wd) Tryd.underlying26 Tryd.underlying5 Tryd.underlying9 (HA.out.1.keepN kTd)
                            have rB := run_toStr (P := Tryd.prog) (w := wd) Tryd.underlying26 Tryd.underlying5 Tryd.underlying9 (HB.out.1.keepN kTd)
                            have hLen : Calls Tryd.prog 9 #[.pointer (some ⟨g, 0, none⟩)] wd fun e w' => e = .returned (.int .i64 3) ∧ wd = w' := wlen_x (OTH.out.keepN (((ka.thenN kb).thenN kc).thenN kd)).p
                            clear ou0 ou1 ou2 ou3 hBu ka kb kc kd kT kTc
                            go_wp2_with (first | ((with_reducible show wpList _ _ _ (Oper.mk (some 241) (Op.convert _ _ _) _ _ _ _ :: _) _ _); refine conv_op r0 rfl ?_) | ((with_reducible show wpList _ _ _ (Oper.mk (some 243) (Op.convert _ _ _) _ _ _ _ :: _) _ _); refine conv_op rA rfl ?_) | ((with_reducible show wpList _ _ _ (Oper.mk (some 247) (Op.convert _ _ _) _ _ _ _ :: _) _ _); refine conv_opg r1 rfl rfl ?_) | ((with_reducible show wpList _ _ _ (Oper.mk (some 249) (Op.convert _ _ _) _ _ _ _ :: _) _ _); refine conv_opg rB rfl rfl ?_) | ((with_reducible show wpList _ _ _ (Oper.mk (some 254) (Op.convert _ _ _) _ _ _ _ :: _) _ _); refine conv_opg r2 rfl rfl ?_) | ((with_reducible show wpList _ _ _ (Oper.mk (some 256) (Op.convert _ _ _) _ _ _ _ :: _) _ _); refine conv_opg r3 rfl rfl ?_) | fail)
                            refine hLen.mono ?_
                            rintro e we ⟨rfl, rfl⟩
                            go_wp2
                            go_ret
                            exact ⟨rfl, kTd⟩
end Go.Proofs.YteokkpmndfekoaaDoor
