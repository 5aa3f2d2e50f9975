/- The document's disk: Image, Dirty. -/
import Derived.Test.YthkbgbbejgpeaaaYB
namespace Go.Proofs.Ythkbgbbejgpeaaa
open Go Go.RowKit
set_option maxRecDepth 100000

theorem byte1 (w : World) : OwB (w.alloc (.cells #[.int .u8 1] 5)) 5 (Iv w.heap.size (w.heap.size + 1)) (.slice (some ⟨w.heap.size, 0, none⟩) 1 1) [1] := OwC.one w 5 1 (by omega) (by omega)
theorem byte0 (w : World) : OwB (w.alloc (.cells #[.int .u8 0] 5)) 5 (Iv w.heap.size (w.heap.size + 1)) (.slice (some ⟨w.heap.size, 0, none⟩) 1 1) [0] := OwC.one w 5 0 (by omega) (by omega)
/-- a byte goes on a row of the call's own -/
theorem app1 {w wr : World} {v : Value} {xs : List UInt8} (x : Int) (y : UInt8) (hy : bv y = .int .u8 x) (ho : OwB wr 5 (Iv w.heap.size wr.heap.size) v xs) (hk : KpN w wr) (hl : xs.length ≤ 1000000000) :
    ∃ v' w', (Builtin.append_ #[28, 28] 28 #[v, .slice (some ⟨wr.heap.size, 0, none⟩) 1 1]).run Try.prog (wr.alloc (.cells #[.int .u8 x] 5)) = .ok v' w' ∧ OwB w' 5 (Iv w.heap.size w'.heap.size) v' (xs ++ [y]) ∧ KpN w w' ∧ Kp (Iv w.heap.size wr.heap.size) wr w' := by
  have kl : KpN wr (wr.alloc (.cells #[.int .u8 x] 5)) := (Kp.refl _ _).alloc _
  have hz := hk.size
  have h1 := OwB.lit wr 5 [y] #[.int .u8 x] (by rw [← hy]; rfl) (by simp)
  obtain ⟨v', w', r, o, k, -⟩ := run_appB (P := Try.prog) (ty := 28) (wr.alloc (.cells #[.int .u8 x] 5)) Try.underlying28 u8info (ho.keepN kl) h1.readsB (by simp; omega)
  have hz1 : (wr.alloc (.cells #[.int .u8 x] 5)).heap.size = wr.heap.size + 1 := by simp
  have hz2 := k.size
  exact ⟨v', w', r, o.wide (fun m hm h => ⟨by rcases h with h | h <;> have := h.1 <;> omega, hm⟩), (hk.alloc _).fresh k (fun i hi => (ho.fit i hi).1), kl.trans k (fun _ _ x => x.elim) (fun i _ hi => ho.fit i hi)⟩
/-- bytes go on a row of the call's own -/
theorem appN {w wr w1 : World} {v u : Value} {xs ys : List UInt8} (ho : OwB wr 5 (Iv w.heap.size wr.heap.size) v xs) (hk : KpN w wr) (k1 : KpN wr w1) (hr : RdB w1 u ys) (hl : xs.length ≤ 1000000000) (hl2 : ys.length ≤ 1000000000) :
    ∃ v' w', (Builtin.append_ #[28, 28] 28 #[v, u]).run Try.prog w1 = .ok v' w' ∧ OwB w' 5 (Iv w.heap.size w'.heap.size) v' (xs ++ ys) ∧ KpN w w' := by
  have hz := hk.size
  have hz1 := k1.size
  obtain ⟨v', w', r, o, k, -⟩ := run_appB (P := Try.prog) (ty := 28) w1 Try.underlying28 u8info (ho.keepN k1) hr (by omega)
  have hz2 := k.size
  exact ⟨v', w', r, o.wide (fun m hm h => ⟨by rcases h with h | h <;> have := h.1 <;> omega, hm⟩), (hk.thenN k1).fresh k (fun i hi => (ho.fit i hi).1)⟩
theorem rows_succ (d : Dk) (q : Nat) : (List.range (q + 1)).flatMap (rowI d) = (List.range q).flatMap (rowI d) ++ rowI d q := by
  rw [List.range_succ, List.flatMap_append]
  simp
section
variable {w : World} {F : Nat → Prop} {g b : Nat} {tv vv : Nat → Value} {vs : Nat → List (Value × List UInt8)} {d : Dk}
set_option maxHeartbeats 3200000 in
theorem image_r (h : RefM w F g b tv vv vs d) : Calls Try.prog 33 #[.pointer (some ⟨g, 0, none⟩)] w (NewB w (imageD d)) := by
  have n1 := h.n1
  have n2 := h.n2
  have hlen := head_len d h.len
  have HH := Lib.hid h
  have HLEN := Lib.hid hlen
  clear hlen
  go_enter Try.func33, Try.ntmps33
  go_wp2_with fail
  refine (none_r h).mono ?_
  rintro e w2 ⟨rfl, rfl⟩
  clear h
  go_wp2_with fail
  go_loopw [3, 4] (fun v i wr => ∃ q : Nat, q ≤ d.n ∧ i = .int .i64 q ∧ OwB wr 5 (Iv w.heap.size wr.heap.size) v ((List.range q).flatMap (rowI d)) ∧ KpN w wr) (fun _ i _ => d.n - (intOf i).toNat)
  case atStart => exact ⟨0, Nat.zero_le _, rfl, OwB.nil _ _ _, Kp.refl _ _⟩
  case round =>
    obtain ⟨q, hq, rfl, ho, hk⟩ := hrel
    have hr := HH.out.keepN hk
    have c0 := hr.c0
    have hl := HLEN.out q hq
    obtain ⟨A, c, rfl, -⟩ := ho.readsB.form
    obtain ⟨L, hL⟩ : ∃ L, ((List.range q).flatMap (rowI d)).length = L := ⟨_, rfl⟩
    have hLb : L ≤ 10000000 := by omega
    have HL := Lib.hid hL
    by_cases hlt : q < d.n
    · have t0 := hr.t0 q hlt
      have t1 := hr.t1 q hlt
      have hst := rows_succ d q
      by_cases hto : d.to q = true
      · rw [hto] at t1
        have hrow : rowI d q = [1] ++ List.replicate 128 0 := by rw [rowI, if_pos hto]; rfl
        rw [hrow, ← List.append_assoc] at hst
        obtain ⟨v1, w1, r1, o1, k1, -⟩ := app1 1 1 rfl ho hk (by omega)
        obtain ⟨A1, c1, rfl, -⟩ := o1.readsB.form
        have HO := Lib.hid o1
        have HST := Lib.hid hst
        have hl1 : ((List.range q).flatMap (rowI d) ++ [1]).length = L + 1 := by rw [List.length_append, hL]; rfl
        rw [hl1] at r1 HO
        rw [hL] at r1 ⊢
        clear hst o1 ho hrow hL hl hr
        go_wp2_with (at_builtin; (with_reducible refine app_op r1 rfl rfl ?_))
        refine (zeros_r (n := 128) (by omega)).mono ?_
        rintro e w3 ⟨u, rfl, o3, k3⟩
        obtain ⟨v4, w4, r4, o4, k4⟩ := appN HO.out k1 k3 o3.readsB (by rw [hl1]; omega) (by simp)
        rw [← HST.out] at o4
        have HO4 := Lib.hid o4
        clear hl1 o4 o3
        go_wp2_with (at_builtin; (with_reducible refine app_op r4 rfl rfl ?_))
        go_roundw
        case rel => exact ⟨q + 1, by omega, by go_num, HO4.out, k4⟩
        case measure => exact meas_up hlt
      · have hto' : d.to q = false := by simpa using hto
        rw [hto'] at t1
        rcases hr.tx q hlt with ⟨ht, hz⟩ | ⟨-, hz⟩
        · have hrow : rowI d q = List.replicate 129 0 := by rw [rowI, if_neg hto, hz]; rfl
          rw [hrow] at hst
          rw [ht] at t0
          have HO := Lib.hid ho
          have HST := Lib.hid hst
          rw [hL] at HO ⊢
          have qn := nilnil
          clear hst ho hrow hL hl hr ht hz
          go_wp2_with fail
          refine (zeros_r (n := 129) (by omega)).mono ?_
          rintro e w3 ⟨u, rfl, o3, k3⟩
          obtain ⟨v4, w4, r4, o4, k4⟩ := appN HO.out hk k3 o3.readsB (by rw [HL.out]; omega) (by simp)
          rw [← HST.out] at o4
          have HO4 := Lib.hid o4
          clear o4 o3
          go_wp2_with (at_builtin; (with_reducible refine app_op r4 rfl rfl ?_))
          go_roundw
          case rel => exact ⟨q + 1, by omega, by go_num, HO4.out, k4⟩
          case measure => exact meas_up hlt
        · have hrow : rowI d q = [0] ++ d.du q := by rw [rowI, if_neg hto]; rfl
          rw [hrow, ← List.append_assoc] at hst
          have hdl := hr.len q hlt
          obtain ⟨gt, ct, htv, -, -⟩ := hz.form (by omega)
          have hsd := hr.sept q hlt gt (by rw [htv]; rfl)
          rw [htv, hdl] at t0
          rw [htv] at hz
          obtain ⟨v1, w1, r1, o1, k1, k1s⟩ := app1 0 0 rfl ho hk (by omega)
          obtain ⟨A1, c1, rfl, -⟩ := o1.readsB.form
          have hl1 : ((List.range q).flatMap (rowI d) ++ [0]).length = L + 1 := by rw [List.length_append, hL]; rfl
          have hgl := hz.lt gt rfl
          have hgw : gt < w.heap.size := by
            rcases HH.out.tx q hlt with ⟨hh, -⟩ | ⟨-, hh⟩
            · rw [hh] at htv; cases htv
            · exact hh.lt gt (by rw [htv]; rfl)
          have hz1 : RdB w1 (.slice (some ⟨gt, 0, none⟩) (d.du q).length ct) (d.du q) := hz.readsB.keep k1s (fun m hm hv => by
            have hm : gt = m := Option.some.inj hm
            have := hv.1
            omega)
          have r1c0 : w1.cell? ⟨g, 0, none⟩ = some (.slice (some ⟨b, 0, none⟩) d.n d.n) := (HH.out.keepN k1).c0
          have r1t0 : w1.cell? ⟨b, q * 3, none⟩ = some (.slice (some ⟨gt, 0, none⟩) 128 ct) := by
            have := (HH.out.keepN k1).t0 q hlt
            rw [htv, hdl] at this
            exact this
          obtain ⟨v4, w4, r4, o4, k4⟩ := appN o1 k1 (Kp.refl _ _) hz1 (by rw [hl1]; omega) (by omega)
          rw [← hst] at o4
          rw [hl1, hdl] at r4
          rw [hL, hl1] at r1
          rw [hL]
          have HO4 := Lib.hid o4
          have qn := somenil
          clear hst o1 o4 ho hrow hL hl hl1 hr hz hz1 hdl htv
          go_wp2_with (at_builtin; (first | ((with_reducible show wpList _ _ _ _ _ (World.alloc wr _)); refine app_op r1 rfl rfl ?_) | ((with_reducible show wpList _ _ _ _ _ (w1)); refine app_op r4 rfl rfl ?_)))
          go_roundw
          case rel => exact ⟨q + 1, by omega, by go_num, HO4.out, k4⟩
          case measure => exact meas_up hlt
    · have hqn : q = d.n := by omega
      subst hqn
      have HO := Lib.hid ho
      rw [hL] at HO ⊢
      clear ho hL hl hr
      go_wp2
      go_ret
      exact ⟨_, rfl, HO.out, hk⟩
end

def dirtyU (d : Dk) (q : Nat) : List Int := ((List.range q).filter fun i => !(d.ca i).isEmpty).map fun (i : Nat) => (i : Int)
def versU (d : Dk) (q : Nat) : List Int := ((List.range q).filter fun i => !(d.ca i).isEmpty).map fun (i : Nat) => ((d.ca i).length : Int)
theorem dirtyU_yes (d : Dk) (q : Nat) (h : d.ca q ≠ []) : dirtyU d (q + 1) = dirtyU d q ++ [(q : Int)] ∧ versU d (q + 1) = versU d q ++ [((d.ca q).length : Int)] := by
  unfold dirtyU versU
  rw [List.range_succ, List.filter_append, List.map_append, List.map_append]
  simp [h]
theorem dirtyU_no (d : Dk) (q : Nat) (h : d.ca q = []) : dirtyU d (q + 1) = dirtyU d q ∧ versU d (q + 1) = versU d q := by
  unfold dirtyU versU
  rw [List.range_succ, List.filter_append, List.map_append, List.map_append]
  simp [h]
theorem dirtyU_len (d : Dk) (q : Nat) : (dirtyU d q).length ≤ q ∧ (versU d q).length ≤ q := by
  unfold dirtyU versU
  rw [List.length_map, List.length_map]
  have : ((List.range q).filter fun i => !(d.ca i).isEmpty).length ≤ (List.range q).length := List.length_filter_le _ _
  simp at this
  simp
  omega
def DirR (w : World) (d : Dk) (lv nv i : Value) (wr : World) : Prop := ∃ q : Nat, q ≤ d.n ∧ i = .int .i64 q ∧ OwI wr (Iv w.heap.size wr.heap.size) lv (dirtyU d q) ∧ OwI wr (Iv w.heap.size wr.heap.size) nv (versU d q) ∧ (∀ b, lv.ownBlock = some b → nv.ownBlock ≠ some b) ∧ KpN w wr
theorem OwI.keepN' {w w' : World} {F : Nat → Prop} {v : Value} {xs : List Int} (h : OwI w F v xs) (k : KpN w w') : OwI w' F v xs := OwC.keepN h k
section
variable {w : World} {F : Nat → Prop} {g b : Nat} {tv vv : Nat → Value} {vs : Nat → List (Value × List UInt8)} {d : Dk}
set_option maxHeartbeats 6400000 in
theorem dirty_r (h : RefM w F g b tv vv vs d) (hcb : ∀ i, i < d.n → (d.ca i).length ≤ 1000000000) : Calls Try.prog 74 #[.pointer (some ⟨g, 0, none⟩)] w (DDirtyX d w) := by
  have n1 := h.n1
  have n2 := h.n2
  have HH := Lib.hid h
  have HCB := Lib.hid hcb
  clear hcb
  go_enter Try.func74, Try.ntmps74
  go_wp2_with fail
  refine (none_r h).mono ?_
  rintro e w2 ⟨rfl, rfl⟩
  clear h
  go_wp2_with fail
  go_loopw [4, 5, 6] (fun lv nv i wr => DirR w d lv nv i wr) (fun _ _ i _ => d.n - (intOf i).toNat)
  case atStart => exact ⟨0, Nat.zero_le _, rfl, OwC.nil _ _ _ _, OwC.nil _ _ _ _, fun b hb => (by cases hb), Kp.refl _ _⟩
  case round =>
    obtain ⟨q, hq, rfl, ol, on, hdj, hk⟩ := hrel
    have hr := HH.out.keepN hk
    have c0 := hr.c0
    obtain ⟨Av, cv, rfl, -⟩ := RdC.form ol.rd
    obtain ⟨An, cn, rfl, -⟩ := RdC.form on.rd
    have hdq := dirtyU_len d q
    obtain ⟨DL, hDL⟩ : ∃ DL, (dirtyU d q).length = DL := ⟨_, rfl⟩
    obtain ⟨VL, hVL⟩ : ∃ VL, (versU d q).length = VL := ⟨_, rfl⟩
    rw [hDL] at ol hdj hdq ⊢
    rw [hVL] at on hdj hdq ⊢
    by_cases hlt : q < d.n
    · obtain ⟨A, c, hv⟩ := HH.out.formV hlt
      have t2 := hr.t2 q hlt
      rw [hv] at t2
      obtain ⟨LL, hLL⟩ : ∃ LL, (d.ca q).length = LL := ⟨_, rfl⟩
      rw [hLL] at t2
      by_cases hc : d.ca q = []
      · have hL0 : LL = 0 := by rw [← hLL, hc]; rfl
        subst hL0
        have hno := dirtyU_no d q hc
        have hfin : DirR w d (.slice Av DL cv) (.slice An VL cn) (.int .i64 ((q : Int) + 1)) wr := ⟨q + 1, by omega, by go_num, by rw [hno.1]; exact ol, by rw [hno.2]; exact on, hdj, hk⟩
        have HF := Lib.hid hfin
        clear hfin hno hLL hc hr ol on hdj hv hDL hVL
        go_wp2_with fail
        exact ⟨HF.out, meas_up hlt⟩
      · have hLp : 0 < LL := by rw [← hLL]; exact List.length_pos_iff.2 hc
        have hLb : LL ≤ 1000000000 := by rw [← hLL]; exact HCB.out q hlt
        obtain ⟨v1, w4, r1, o1, kp1, hat1⟩ := run_appI1 ol (q : Int) (by omega)
        have on4 : OwI w4 (Iv w.heap.size wr.heap.size) (.slice An VL cn) (versU d q) := OwC.keepB on kp1 (fun b h1 h2 => hdj b h2 h1)
        have hz0 := hk.size
        have hz4 := kp1.size
        obtain ⟨v2, w5, r2, o2, kp2, hat2⟩ := run_appI1 on4 (LL : Int) (by omega)
        have hz5 := kp2.size
        have kN1 : KpN w w4 := hk.fresh kp1 (fun b e => (OwC.fit ol b e).1)
        have kN2 : KpN w w5 := kN1.fresh kp2 (fun b e => (OwC.fit on b e).1)
        have hnew : ∀ b, v1.ownBlock = some b → (Value.slice An VL cn).ownBlock ≠ some b := fun b h1 h2 => by
          rcases hat1 with h | h
          · exact hdj b (by rw [← h]; exact h1) h2
          · have := h b h1; have := OwC.lt on b h2; omega
        have o1' : OwI w5 _ v1 _ := OwC.keepB o1 kp2 (fun b h1 h2 => hnew b h1 h2)
        have hyes := dirtyU_yes d q hc
        rw [hLL] at hyes
        have hfin : DirR w d v1 v2 (.int .i64 ((q : Int) + 1)) w5 := by
          refine ⟨q + 1, by omega, by go_num, by rw [hyes.1]; exact OwC.wide o1' (fun b _ hb => by rcases hb with hb | hb <;> exact ⟨by have := hb.1; omega, by have := hb.2; omega⟩), by rw [hyes.2]; exact OwC.wide o2 (fun b _ hb => by rcases hb with hb | hb <;> exact ⟨by have := hb.1; omega, by have := hb.2; omega⟩), fun b h1 h2 => ?_, kN2⟩
          rcases hat2 with h | h
          · exact hnew b h1 (by rw [← h]; exact h2)
          · have := h b h2; have := OwC.lt o1 b h1; omega
        have HF := Lib.hid hfin
        have c04 := (HH.out.keepN kN1).c0
        have t24 := (HH.out.keepN kN1).t2 q hlt
        rw [hv, hLL] at t24
        have hglt := hr.lt
        clear hfin hyes o1' hnew on4 o1 o2 hat1 hat2 kN1 kN2 hr hv hLL hDL hVL ol on hdj hc
        go_wp2_with (at_builtin; (first | ((with_reducible show wpList _ _ _ _ _ (World.alloc wr _)); refine app_op r1 rfl rfl ?_) | ((with_reducible show wpList _ _ _ _ _ (World.alloc w4 _)); refine app_op r2 rfl rfl ?_)))
        exact ⟨HF.out, meas_up hlt⟩
    · have hqn : q = d.n := by omega
      have hfin : DDirtyX d w (.returned (.tuple #[.slice Av DL cv, .slice An VL cn])) wr := ⟨_, _, rfl, by show OwI wr _ _ (dirtyU d d.n); rw [← hqn]; exact ol, by show OwI wr _ _ (versU d d.n); rw [← hqn]; exact on, hk⟩
      have HF := Lib.hid hfin
      clear hfin ol on hdj hDL hVL hr
      go_wp2_with fail
      go_ret2
      exact HF.out
end
end Go.Proofs.Ythkbgbbejgpeaaa
