/- disk.Crash. -/
import Derived.Test.YthkbgbbejgpeaaaDV
namespace Go.Proofs.Ythkbgbbejgpeaaa
open Go Go.RowKit
set_option maxRecDepth 100000

/-- zeros of a sector -/
def zsec : List UInt8 := List.replicate 128 0
theorem zsec_len : zsec.length = 128 := by simp [zsec]
theorem zsec_agg : (bvs zsec).toArray = Array.replicate 128 (.int .u8 0) := by
  apply Array.ext'
  simp [bvs, zsec, bv]
/-- what a choice leaves of a sector -/
def crash1 (d : Dk) (i : Nat) (c : Int) : Dk := if c = 0 then d else if 0 < c ∧ c ≤ (d.ca i).length then settleD d i ((d.ca i).getD (c.toNat - 1) []) false else settleD d i zsec true
/-- behind q of the dirty sectors -/
def crashI (d : Dk) (ch : List Int) : Nat → Dk
  | 0 => d
  | q + 1 => crash1 (crashI d ch q) ((dirtyD d).getD q 0) (ch.getD q 0)
/-- the disk behind a crash -/
def crashD (d : Dk) (ch : List Int) : Dk := { bareD (crashI d ch (dirtyD d).length) with off := false, fuse := -1 }
theorem crash1_ca (d : Dk) (i : Nat) (c : Int) : (crash1 d i c).ca = d.ca := by unfold crash1; split; rfl; split <;> rfl
theorem crash1_n (d : Dk) (i : Nat) (c : Int) : (crash1 d i c).n = d.n := by unfold crash1; split; rfl; split <;> rfl
theorem crashI_ca (d : Dk) (ch : List Int) (q : Nat) : (crashI d ch q).ca = d.ca := by
  induction q with
  | zero => rfl
  | succ q ih => rw [crashI, crash1_ca, ih]
theorem crashI_n (d : Dk) (ch : List Int) (q : Nat) : (crashI d ch q).n = d.n := by
  induction q with
  | zero => rfl
  | succ q ih => rw [crashI, crash1_n, ih]
theorem crash1_zero (d : Dk) (i : Nat) : crash1 d i 0 = d := by simp [crash1]
theorem crash1_pick (d : Dk) (i p : Nat) (hp : p < (d.ca i).length) : crash1 d i (p + 1 : Nat) = settleD d i (d.ca i)[p] false := by
  unfold crash1
  rw [if_neg (by omega), if_pos (by omega)]
  simp [hp]
theorem crash1_torn (d : Dk) (i : Nat) (c : Int) (h0 : c ≠ 0) (h : ¬ (0 < c ∧ c ≤ (d.ca i).length)) : crash1 d i c = settleD d i zsec true := by
  unfold crash1
  rw [if_neg h0, if_neg h]
/-- ints that read -/
def RdI (w : World) (v : Value) (zs : List Int) : Prop := RdC w 1 v zs.length (zs.map (Value.int .i64))
def DCrashP (w : World) (F : Nat → Prop) (g bd bt m k : Nat) (d : Dk) (e : Ending) (w' : World) : Prop := (∃ u, e = .returned u) ∧ (∃ D' sl', DiskM w' F g bd bt m k D' sl' d) ∧ Kp F w w'
theorem run_buildsec {a : Act} {dst : Option Tmp} {ty : TypeId} {pos : String} {af : Array Edge} {gd : Option (Nat × Bool)} {w : World} :
    (execOp a.eval { dst := dst, op := .build 85 #[], type := ty, pos := pos, after := af, guard := gd }).run Try.prog w = .ok (.value (.agg (bvs zsec).toArray)) w := by
  rw [zsec_agg]
  kernel_rfl
theorem DiskM.power {w : World} {F : Nat → Prop} {g bd bt m k : Nat} {D : DataW Unit} {sl : Nat → Value} {d : Dk} (h : DiskM w F g bd bt m k D sl d) : DiskM ((w.setCell ⟨g, 3, none⟩ (.bool false)).setCell ⟨g, 4, none⟩ (.int .i64 (-1))) F g bd bt m k D sl { d with off := false, fuse := -1 } := (h.setOff false).setFuse (-1) (by omega)
set_option maxHeartbeats 3200000 in
theorem dcrash_c {w : World} {F : Nat → Prop} {g bd bt m k : Nat} {D : DataW Unit} {sl : Nat → Value} {d : Dk} (h : DiskM w F g bd bt m k D sl d) (hkm : k ≤ 1000000000) {A : Option Addr} {n c : Nat} {ch : List Int} (hch : RdI w (.slice A n c) ch) (hsep : ch ≠ [] → ∀ b, (Value.slice A n c).ownBlock = some b → ¬ F b) (hn : n = ch.length) (hnm : n ≤ 1000000000) :
    Calls Try.prog 39 #[.pointer (some ⟨g, 0, none⟩), .slice A n c] w (DCrashP w F g bd bt m k (crashD d ch)) := by
  subst hn
  obtain ⟨f1, f2, f3, f4⟩ := h.fit
  go_enter Try.func39, Try.ntmps39
  go_wp2_with fail
  refine (dmade_c h).mono ?_
  rintro e w0 ⟨rfl, rfl⟩
  go_wp2_with fail
  refine (ddirty_c h hkm).mono ?_
  rintro e w1 ⟨v, u, rfl, ov, -, k1⟩
  obtain ⟨_, Av, cv, hv, _, _⟩ := ov.reads
  subst hv
  have h1 := h.keepN k1
  have hch1 := RdC.keepN hch k1
  obtain ⟨L, hL⟩ : ∃ L, (dirtyD d).length = L := ⟨_, rfl⟩
  rw [hL] at ov ⊢
  have hLm : L ≤ 65536 := by
    have h2 := h.n2
    have : (dirtyD d).length ≤ (List.range d.n).length := List.length_filter_le _ _
    simp at this
    omega
  have HL := Lib.hid hL
  have hsep' := Lib.hid hsep
  have HH := Lib.hid h1
  have hlt := h.lt
  clear hL h h1
  go_wp2
  go_loopw [20] (fun j wr => ∃ q : Nat, q ≤ L ∧ j = .int .i64 q ∧ DiskM wr F g bd bt m k D sl (crashI d ch q) ∧ Kp (fun b => b = bd ∨ b = bt) w1 wr) (fun j _ => L - (intOf j).toNat)
  case atStart => exact ⟨0, Nat.zero_le _, rfl, HH.out, Kp.refl _ _⟩
  case round =>
    obtain ⟨q, hq, rfl, hd, hk⟩ := hrel
    have hsz := k1.size
    by_cases hlt2 : q < L
    · obtain ⟨g1, cap1, hv1, hF1, -⟩ := ov.form (by omega)
      injection hv1 with hA hn1 hc1
      subst hA hc1
      have hqd : q < (dirtyD d).length := by rw [HL.out]; exact hlt2
      obtain ⟨i, hi⟩ : ∃ i, (dirtyD d)[q] = i := ⟨_, rfl⟩
      have hm : i ∈ dirtyD d := by rw [← hi]; exact List.getElem_mem hqd
      have hin := ((dirty_mem d i).1 hm).1
      have hgo : w.heap.size ≤ g1 := hF1.1
      have hcell : wr.cell? ⟨g1, q, none⟩ = some (.int .i64 (i : Int)) := by
        have := (ov.keep hk (fun b hb e => by have := hb.1; omega)).cellAt q hlt2
        rw [this]
        simp [hqd, hi]
      have hstep : ∀ z : Int, ch.getD q 0 = z → crashI d ch (q + 1) = crash1 (crashI d ch q) i z := fun z hz => by
        rw [crashI, hz]
        simp [hqd, hi]
      have hin2 : i < (crashI d ch q).n := by rw [crashI_n]; exact hin
      have hca : (crashI d ch q).ca i = d.ca i := by rw [crashI_ca]
      obtain ⟨_, A', c', hv', _, _⟩ := (hd.own i hin2).reads
      have hlk := hd.look i hin2
      rw [hv'] at hlk
      have c2' := hd.c2
      obtain ⟨M, hM⟩ : ∃ M, ((crashI d ch q).ca i).length = M := ⟨_, rfl⟩
      rw [hM] at hlk hv'
      have HS := Lib.hid hstep
      have HI := Lib.hid hi
      have HM := Lib.hid (And.intro hM (And.intro hca hv'))
      have HD := Lib.hid hd
      clear hstep hi hca hd hM hv'
      have hcw : RdI wr (.slice A ch.length c) ch := by
        rcases Nat.eq_zero_or_pos ch.length with h0 | h0
        · have h00 : ch = [] := List.eq_nil_of_length_eq_zero h0
          subst h00
          obtain ⟨_, A2, c2, hv2, hc2, _⟩ := hch
          exact ⟨rfl, A2, c2, hv2, hc2, fun j u hu => by simp at hu⟩
        · exact (RdC.keepN hch k1).keep hk (fun b hb e => hsep (fun e0 => by rw [e0] at h0; simp at h0) b hb (by rcases e with rfl | rfl; exact f2; exact f3))
      have HCH := Lib.hid hch
      have HSEP := Lib.hid hsep
      clear hch hsep
      by_cases hqc : q < ch.length
      · obtain ⟨ad, hA, hcc⟩ : ∃ ad, A = some ad ∧ wr.cell? (ad.add q) = some (.int .i64 ch[q]) := by
          obtain ⟨_, A2, c2, hv2, _, hr⟩ := hcw
          injection hv2 with e1 e2 e3
          subst e1
          exact hr q _ (by simp [hqc])
        subst hA
        have hz : ch.getD q 0 = ch[q] := by simp [hqc]
        obtain ⟨z, hzz⟩ : ∃ z, ch[q] = z := ⟨_, rfl⟩
        rw [hzz] at hz hcc
        have HZ := Lib.hid hz
        clear hz hzz hcw
        by_cases hz0 : z = 0
        · subst hz0
          go_wp2
          go_roundw
          case rel => exact ⟨q + 1, by omega, by go_num, by rw [HS.out 0 HZ.out, crash1_zero]; exact HD.out, hk⟩
          case measure => exact meas_up hlt2
        · have hne : (z == 0) = false := by simpa using hz0
          by_cases hzp : 0 < z ∧ z ≤ (M : Int)
          · obtain ⟨p, rfl⟩ : ∃ p : Nat, z = ((p + 1 : Nat) : Int) := ⟨z.toNat - 1, by omega⟩
            have hpM : p < M := by omega
            have hown := HD.out.own i hin2
            have hcl := HD.out.clen i hin2
            obtain ⟨gv, cv2, hsl, -, hcv⟩ := hown.form (by rw [HM.out.1]; omega)
            rw [HM.out.1] at hsl hown hcv
            rw [HM.out.2.2] at hsl
            injection hsl with e1 e2 e3
            subst e1 e3
            rw [HM.out.2.2] at hown
            have hMb := hown.bound
            have hpl : p < ((crashI d ch q).ca i).length := by rw [HM.out.1]; exact hpM
            obtain ⟨s, hs⟩ : ∃ s, ((crashI d ch q).ca i)[p] = s := ⟨_, rfl⟩
            have hs128 : s.length = 128 := by rw [← hs]; exact hcl _ (List.getElem_mem _)
            have hrow2 := hown.rowAt (p * 128) (bvs s) (fun t v hv => flat_at _ hcl p hpl t v (by rw [hs]; exact hv))
            have hld2 := run_loadAt_rowat (P := Try.prog) hrow2 Try.underlying85 rfl (secSize _ (by simp [bvs, hs128]))
            have hstep : crashI d ch (q + 1) = settleD (crashI d ch q) i s false := by rw [HS.out _ HZ.out, crash1_pick _ _ _ hpl, hs]
            have HP := Lib.hid (And.intro hstep hs128)
            clear hrow2 hcl hs hs128 hown hcv hstep hz0 hpl hzp
            go_wp2_with (first
              | ((with_reducible show wpList _ _ _ (Oper.mk _ (Op.load 85 _) _ _ _ _ :: _) _ _); refine wpl_val rfl (run_load_opv hld2 rfl) ?_)
              | fail)
            refine (settle_c i hin2 s HP.out.2 false HD.out).mono ?_
            rintro e w5 ⟨rfl, h5, k5⟩
            go_wp2
            go_roundw
            case rel => exact ⟨q + 1, by omega, by go_num, by rw [HP.out.1]; exact h5, hk.trans k5 (fun _ _ x => x) (fun _ _ x => x)⟩
            case measure => exact meas_up hlt2
          · have hstep : crashI d ch (q + 1) = settleD (crashI d ch q) i zsec true := by rw [HS.out _ HZ.out, crash1_torn _ _ _ hz0 (by rw [HM.out.1]; exact hzp)]
            have HP := Lib.hid hstep
            clear hstep
            by_cases hz1 : 0 < z
            all_goals
              have hz2 : ¬ (0 < z ∧ z ≤ (M : Int)) := hzp
              clear hzp
              go_wp2_with (first
                | ((with_reducible show wpList _ _ _ (Oper.mk _ (Op.build 85 _) _ _ _ _ :: _) _ _); refine wpl_val rfl run_buildsec ?_)
                | fail)
              refine (settle_c i hin2 zsec zsec_len true HD.out).mono ?_
              rintro e w5 ⟨rfl, h5, k5⟩
              go_wp2
              go_roundw
              case rel => exact ⟨q + 1, by omega, by go_num, by rw [HP.out]; exact h5, hk.trans k5 (fun _ _ x => x) (fun _ _ x => x)⟩
              case measure => exact meas_up hlt2
      · have hz : ch.getD q 0 = 0 := by simp [hqc]
        have HZ := Lib.hid hz
        clear hz hcw
        go_wp2
        go_roundw
        case rel => exact ⟨q + 1, by omega, by go_num, by rw [HS.out 0 HZ.out, crash1_zero]; exact HD.out, hk⟩
        case measure => exact meas_up hlt2
    · have hqL : q = L := by omega
      subst hqL
      have c2 := hd.c2
      obtain ⟨es, clock, hbm, -⟩ := hd.map
      have hd5 := (hd.cleared hbm)
      have k5 := kp_block (w := wr) (m := m) (.map #[] clock)
      have hd6 := hd5.power
      have c3 := hd5.c3
      have c4 := hd5.c4
      have z3 := hd5.fz 3
      have z4 := hd5.fz 4
      have kw := (kp1_set (w := { wr with heap := wr.heap.setIfInBounds m (.map #[] clock) }) (F := fun i => i = g) rfl 3 (.bool false)).trans (kp1_set (F := fun i => i = g) rfl 4 (.int .i64 (-1))) (U := fun i => i = g) (fun _ _ x => x) (fun _ _ x => x)
      have HD6 := Lib.hid hd6
      obtain ⟨W5, hW5⟩ : ∃ W5, ({ wr with heap := wr.heap.setIfInBounds m (.map #[] clock) } : World) = W5 := ⟨_, rfl⟩
      rw [hW5] at c3 c4 z3 z4 kw k5 HD6
      clear hd5 hd6
      have HW5 := Lib.hid hW5
      clear hW5
      go_wp2_with (first
        | ((with_reducible show wpList _ _ _ (Oper.mk _ (Op.call _) _ _ _ _ :: _) _ _); refine wpl_val rfl (run_clear_op Try.underlying77 hbm rfl) ?_; rw [HW5.out])
        | fail)
      go_end0
      refine ⟨⟨_, rfl⟩, ⟨_, _, by rw [crashD, HL.out]; exact HD6.out⟩, ?_⟩
      exact ((Kp.after k1 (hk.mono (U := F) (fun b _ hb => by rcases hb with rfl | rfl; exact f2; exact f3))).trans k5 (fun _ _ x => x) (fun b _ hb => by rw [hb]; exact f4)).trans kw (fun _ _ x => x) (fun b _ hb => by rw [hb]; exact f1)
end Go.Proofs.Ythkbgbbejgpeaaa
