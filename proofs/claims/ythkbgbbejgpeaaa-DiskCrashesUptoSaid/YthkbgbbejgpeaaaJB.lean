/- DiskImages: what the call does. -/
import Derived.Test.YthkbgbbejgpeaaaJA
import Derived.Test.YthkbgbbejgpeaaaDP
namespace Go.Proofs.Ythkbgbbejgpeaaa
open Go Go.RowKit
set_option maxRecDepth 100000

/-- a disk that New made -/
def DNewM (w : World) (n : Nat) (e : Ending) (w' : World) : Prop := ∃ g bd bt m, e = .returned (.tuple #[.pointer (some ⟨g, 0, none⟩), .int .i64 0]) ∧ DiskM w' (Iv w.heap.size w'.heap.size) g bd bt m 0 (.map []) (fun _ => .slice none 0 0) (newD n) ∧ KpN w w'
theorem dnewM_c {n : Nat} {w : World} (h1 : 1 ≤ n) (hn : n ≤ 65536) : Calls Try.prog 20 #[.int .i64 (n : Int)] w (DNewM w n) :=
  (dnew_c h1 hn).mono fun _ _ ⟨g, bd, bt, m, he, lg, lbd, lbt, lm, n1, n2, n3, n4, n5, n6, og, obd, obt, om, k1⟩ => ⟨g, bd, bt, m, he, DiskM.blank h1 hn lg lbd lbt lm ⟨n1, n2, n3, n4, n5, n6⟩ og obd obt om, k1⟩
theorem span_nat {n lo hi : Int} (h0 : 0 ≤ lo) (h1 : lo ≤ hi) : ∃ k : Nat, spanZ n lo hi = (k : Int) ∧ lo ≤ k ∧ (k : Int) ≤ hi := by
  have := spanZ_bd n lo hi h1
  exact ⟨(spanZ n lo hi).toNat, by omega, by omega, by omega⟩
theorem rdI_at {w : World} {A : Option Addr} {L c : Nat} {zs : List Int} (h : RdI w (.slice A L c) zs) (j : Nat) (hj : j < zs.length) : ∃ ad, A = some ad ∧ w.cell? (ad.add j) = some (.int .i64 zs[j]) := by
  obtain ⟨ad, ha, hc⟩ := RdC.cellAt h j (by simpa using hj)
  exact ⟨ad, ha, by simpa using hc⟩
theorem rdI_len {w : World} {A : Option Addr} {L c : Nat} {zs : List Int} (h : RdI w (.slice A L c) zs) : L = zs.length := by
  obtain ⟨_, A', c', hv, _⟩ := h
  injection hv
set_option maxHeartbeats 3200000 in
theorem dimages_walk {w : World} {va vb : Value} {img : List UInt8} {good : Int} {bad : List Int} (hi : RdB w va img) (hil : img.length ≤ 1000000000) (hg : I64 good) (hb : RdI w vb bad) (hbl : bad.length ≤ 1000000000) (hbr : ∀ z ∈ bad, I64 z) :
    Calls Try.prog 4 #[va, .int .i64 good, vb] w fun e w' => e = .returned (.bool true) ∧ KpN w w' := by
  obtain ⟨Ai, ci, rfl, -⟩ := hi.form
  obtain ⟨Ab, cb, rfl, -⟩ := RdC.form hb
  obtain ⟨n, hn, hn1, hn2⟩ := span_nat (n := good) (lo := 1) (hi := 65536) (by omega) (by omega)
  obtain ⟨L, hL⟩ : ∃ L, img.length = L := ⟨_, rfl⟩
  obtain ⟨M, hM⟩ : ∃ M, bad.length = M := ⟨_, rfl⟩
  rw [hL] at hi hil ⊢
  rw [hM] at hb hbl ⊢
  have HI := Lib.hid hi
  have HB := Lib.hid hb
  have HL := Lib.hid (And.intro hL hM)
  have HN := Lib.hid hn
  have HR := Lib.hid hbr
  clear hi hb hL hM hn hbr
  go_enter Try.func4, Try.ntmps4
  go_wp2_with fail
  refine (dload_c HI.out hil).mono ?_
  rintro e w1 h1
  rcases hld : loadD img with _ | dk
  · rw [hld] at h1
    obtain ⟨rfl, k1⟩ := h1
    clear hld
    go_wp2_with fail
    have k4 := k1
    generalize w1 = w4 at *
    clear k1
    refine (span_c hg (by omega) (by omega) (by omega)).mono ?_
    rintro e w5 ⟨rfl, rfl⟩
    rw [HN.out]
    obtain ⟨W1, hmk, hz, kz, hzs⟩ := made_zeros w4 (n * 129) (by omega)
    have hcast : ((n * 129 : Nat) : Int) = 129 * (n : Int) := by omega
    rw [hcast] at hmk
    rw [← markB_zero] at hz
    have HZS := Lib.hid hzs
    clear hzs hcast
    go_wp2_with fail
    have HZ0 := Lib.hid hz
    clear hz hmk
    have kw1 : KpN w W1 := k4.thenN kz
    go_loopw [11, 12] (fun j _ wr => ∃ (q : Nat) (s : Nat → Bool), q ≤ M ∧ j = .int .i64 q ∧ OwB wr 5 (fun b => b = w4.heap.size) (.slice (some ⟨w4.heap.size, 0, none⟩) (n * 129) (n * 129)) (markB n s) ∧ KpN w wr) (fun j _ _ => M - (intOf j).toNat)
    case atStart => exact ⟨0, _, Nat.zero_le _, rfl, HZ0.out, kw1⟩
    case round =>
      obtain ⟨q, s, hq, rfl, ho, hk⟩ := hrel
      by_cases hlt : q < M
      · have hqb : q < bad.length := by rw [HL.out.2]; exact hlt
        obtain ⟨ad, rfl, hc⟩ := rdI_at (RdC.keepN HB.out hk) q hqb
        have hz := HR.out _ (List.getElem_mem hqb)
        generalize bad[q] = z at hc hz
        obtain ⟨a, ha, ha0, ha1⟩ := span_nat (n := z) (lo := 0) (hi := (n : Int) - 1) (by omega) (by omega)
        have han : a < n := by omega
        have hlen := markB_len n s
        have hset := ho.putB hlen.symm (a * 129) 1
        rw [mark_set n s a han] at hset
        have hcell := ho.byteAt hlen.symm (a * 129) (by omega)
        have hfz := ho.frozenAt (a * 129)
        have ks := hk.setCell (p := ⟨w4.heap.size, a * 129, none⟩) (.inr (by have := k4.size; omega)) (bv 1)
        have hcm : 129 * (a : Int) = ((a * 129 : Nat) : Int) := by omega
        have HA := Lib.hid ha
        have HS := Lib.hid hset
        generalize bv ((markB n s)[a * 129]'(by omega)) = b0 at hcell
        obtain ⟨P, hP⟩ : ∃ P, a * 129 = P := ⟨_, rfl⟩
        have hPn : P < n * 129 := by omega
        rw [hP] at hcell hfz ks HS
        have HCM := Lib.hid (And.intro hcm hP)
        clear ha hset hlen ho hcm hP
        go_wp2_with fail
        refine (span_c hz (by omega) (by omega) (by omega)).mono ?_
        rintro e w6 ⟨rfl, rfl⟩
        rw [HA.out]
        have hcm2 : 129 * (a : Int) = (P : Int) := by rw [HCM.out.1, HCM.out.2]
        go_wp2_with fail
        go_roundw
        case rel => exact ⟨q + 1, _, by omega, by go_num, HS.out, ks⟩
        case measure => exact meas_up hlt
      · have hqM : M = q := by omega
        subst hqM
        have hlen := markB_len n s
        obtain ⟨dk, hdk, dn, dca, doff, -, dto⟩ := load_rows n (by omega) (by omega) s (fun _ => zsec) (fun _ _ => zsec_len) (fun _ _ _ => rfl)
        have hdk2 : loadD (markB n s) = some dk := hdk
        have HDK := Lib.hid (And.intro hdk2 (And.intro dn (And.intro dca (And.intro doff dto))))
        have HO := Lib.hid ho
        have HLEN := Lib.hid hlen
        clear hdk hdk2 dn dca doff dto ho hlen HZ0 kw1 HZS kz
        go_wp2_with fail
        refine (dload_c HO.out.readsB (by omega)).mono ?_
        rintro e w6 h6
        rw [HDK.out.1] at h6
        obtain ⟨g, bd, bt, m, rfl, hd6, k6⟩ := h6
        have HD6 := Lib.hid hd6
        clear hd6
        go_wp2_with fail
        refine (dimage_c HD6.out).mono ?_
        rintro e w7 ⟨v7, rfl, o7, k7⟩
        rw [(image_load HDK.out.1).1] at o7
        go_wp2_with fail
        refine (Bytes_c o7.readsB ((HO.out.readsB.keepN k6).keepN k7) (by rw [HLEN.out]; omega)).mono ?_
        rintro e w8 ⟨rfl, k8⟩
        rw [show decide (markB n s = markB n s) = true by simp]
        have HD8 := Lib.hid ((HD6.out.keepN k7).keepN k8)
        have HO8 := Lib.hid ((HO.out.keepN k6).keepN (k7.thenN k8))
        have k08 := hk.thenN (k6.thenN (k7.thenN k8))
        clear HD6 HO k6 k7 k8 hk o7
        go_wp2_with fail
        go_loopw [15] (fun j wr => ∃ q : Nat, q ≤ n ∧ j = .int .i64 q ∧ KpN w8 wr) (fun j _ => n - (intOf j).toNat)
        case atStart => exact ⟨0, Nat.zero_le _, rfl, Kp.refl _ _⟩
        case round =>
          obtain ⟨q2, hq2, rfl, hk2⟩ := hrel
          by_cases hlt : q2 < n
          · have hdn : q2 < dk.n := by rw [HDK.out.2.1]; exact hlt
            have hh := markB_head n s q2 hlt
            have hcell := (HO8.out.keepN hk2).byteAt (HLEN.out).symm (q2 * 129) (by rw [HLEN.out]; omega)
            rw [(List.getElem?_eq_some_iff.1 hh).2] at hcell
            have hrd : readD dk (q2 : Int) = if s q2 then ([], 40) else (dk.du q2, 0) := by
              have h1 : hasB dk (q2 : Int) = true := by simp [hasB]; omega
              simp [readD, h1, HDK.out.2.2.2.1, HDK.out.2.2.1, (HDK.out.2.2.2.2 q2 hlt).1]
            have hcm : 129 * (q2 : Int) = ((q2 * 129 : Nat) : Int) := by omega
            obtain ⟨P, hP⟩ : ∃ P, q2 * 129 = P := ⟨_, rfl⟩
            have hPn : P < n * 129 := by omega
            rw [hP] at hcell hcm
            have HRD := Lib.hid hrd
            have HCM := Lib.hid hcm
            clear hrd hh hP hcm
            go_wp2_with fail
            refine (dread_c (HD8.out.keepN hk2) (by omega)).mono ?_
            rintro e w9 ⟨u, rfl, -, k9⟩
            rw [HRD.out]
            have hcell9 : w9.cell? ⟨w4.heap.size, P, none⟩ = some (bv (if s q2 then 1 else 0)) := by
              rw [k9.cell (World.block_lt_of_cell? wr _ hcell) (fun x => x)]
              exact hcell
            have hcm2 := HCM.out
            clear hcell
            by_cases hs : s q2 = true
            · rw [if_pos hs] at hcell9 ⊢
              have e1 : bv 1 = .int .u8 1 := rfl
              rw [e1] at hcell9
              clear e1 hs
              go_wp2_with fail
              go_roundw
              case rel => exact ⟨q2 + 1, by omega, by go_num, hk2.thenN k9⟩
              case measure => exact meas_up hlt
            · rw [if_neg hs] at hcell9 ⊢
              have e1 : bv 0 = .int .u8 0 := rfl
              rw [e1] at hcell9
              clear e1 hs
              go_wp2_with fail
              go_roundw
              case rel => exact ⟨q2 + 1, by omega, by go_num, hk2.thenN k9⟩
              case measure => exact meas_up hlt
          · have hqn : n = q2 := by omega
            subst hqn
            have hT : RdB wr (.slice (some ⟨w4.heap.size, 0, none⟩) (n * 129 - 1) (n * 129)) ((markB n s).take (n * 129 - 1)) := (HO8.out.keepN hk2).readsB.take (n * 129 - 1) (by omega)
            have hnone : loadD ((markB n s).take (n * 129 - 1)) = none := by
              unfold loadD
              refine if_neg (fun h => ?_)
              have := h.1
              rw [List.length_take, HLEN.out] at this
              omega
            have HNO := Lib.hid hnone
            clear hnone
            go_wp2_with fail
            refine (dload_c hT (by omega)).mono ?_
            rintro e w10 h10
            rw [HNO.out] at h10
            obtain ⟨rfl, k10⟩ := h10
            go_wp2_with fail
            go_ret
            exact ⟨rfl, k08.thenN (hk2.thenN k10)⟩
  · rw [hld] at h1
    obtain ⟨g, bd, bt, m, rfl, hd, k1⟩ := h1
    have HIL := Lib.hid (image_load hld)
    have HD := Lib.hid hd
    clear hld hd
    go_wp2_with fail
    refine (dimage_c HD.out).mono ?_
    rintro e w2 ⟨v, rfl, o2, k2⟩
    rw [HIL.out.1] at o2
    go_wp2_with fail
    refine (Bytes_c o2.readsB ((HI.out.keepN k1).keepN k2) (by rw [HL.out.1]; exact Nat.le_trans hil (by omega))).mono ?_
    rintro e w3 ⟨rfl, k3⟩
    rw [show decide (img = img) = true by simp]
    go_wp2_with fail
    refine (sectors_c ((HD.out.keepN k2).keepN k3)).mono ?_
    rintro e w4 ⟨rfl, rfl⟩
    have hmul : (dk.n : Int) * 129 = (L : Int) := by have := HIL.out.2; have := HL.out.1; omega
    go_wp2_with fail
    have k4 := (k1.thenN k2).thenN k3
    generalize w3 = w4 at *
    clear k1 k2 k3 o2 hmul HIL HD
    refine (span_c hg (by omega) (by omega) (by omega)).mono ?_
    rintro e w5 ⟨rfl, rfl⟩
    rw [HN.out]
    obtain ⟨W1, hmk, hz, kz, hzs⟩ := made_zeros w4 (n * 129) (by omega)
    have hcast : ((n * 129 : Nat) : Int) = 129 * (n : Int) := by omega
    rw [hcast] at hmk
    rw [← markB_zero] at hz
    have HZS := Lib.hid hzs
    clear hzs hcast
    go_wp2_with fail
    have HZ0 := Lib.hid hz
    clear hz hmk
    have kw1 : KpN w W1 := k4.thenN kz
    go_loopw [11, 12] (fun j _ wr => ∃ (q : Nat) (s : Nat → Bool), q ≤ M ∧ j = .int .i64 q ∧ OwB wr 5 (fun b => b = w4.heap.size) (.slice (some ⟨w4.heap.size, 0, none⟩) (n * 129) (n * 129)) (markB n s) ∧ KpN w wr) (fun j _ _ => M - (intOf j).toNat)
    case atStart => exact ⟨0, _, Nat.zero_le _, rfl, HZ0.out, kw1⟩
    case round =>
      obtain ⟨q, s, hq, rfl, ho, hk⟩ := hrel
      by_cases hlt : q < M
      · have hqb : q < bad.length := by rw [HL.out.2]; exact hlt
        obtain ⟨ad, rfl, hc⟩ := rdI_at (RdC.keepN HB.out hk) q hqb
        have hz := HR.out _ (List.getElem_mem hqb)
        generalize bad[q] = z at hc hz
        obtain ⟨a, ha, ha0, ha1⟩ := span_nat (n := z) (lo := 0) (hi := (n : Int) - 1) (by omega) (by omega)
        have han : a < n := by omega
        have hlen := markB_len n s
        have hset := ho.putB hlen.symm (a * 129) 1
        rw [mark_set n s a han] at hset
        have hcell := ho.byteAt hlen.symm (a * 129) (by omega)
        have hfz := ho.frozenAt (a * 129)
        have ks := hk.setCell (p := ⟨w4.heap.size, a * 129, none⟩) (.inr (by have := k4.size; omega)) (bv 1)
        have hcm : 129 * (a : Int) = ((a * 129 : Nat) : Int) := by omega
        have HA := Lib.hid ha
        have HS := Lib.hid hset
        generalize bv ((markB n s)[a * 129]'(by omega)) = b0 at hcell
        obtain ⟨P, hP⟩ : ∃ P, a * 129 = P := ⟨_, rfl⟩
        have hPn : P < n * 129 := by omega
        rw [hP] at hcell hfz ks HS
        have HCM := Lib.hid (And.intro hcm hP)
        clear ha hset hlen ho hcm hP
        go_wp2_with fail
        refine (span_c hz (by omega) (by omega) (by omega)).mono ?_
        rintro e w6 ⟨rfl, rfl⟩
        rw [HA.out]
        have hcm2 : 129 * (a : Int) = (P : Int) := by rw [HCM.out.1, HCM.out.2]
        go_wp2_with fail
        go_roundw
        case rel => exact ⟨q + 1, _, by omega, by go_num, HS.out, ks⟩
        case measure => exact meas_up hlt
      · have hqM : M = q := by omega
        subst hqM
        have hlen := markB_len n s
        obtain ⟨dk, hdk, dn, dca, doff, -, dto⟩ := load_rows n (by omega) (by omega) s (fun _ => zsec) (fun _ _ => zsec_len) (fun _ _ _ => rfl)
        have hdk2 : loadD (markB n s) = some dk := hdk
        have HDK := Lib.hid (And.intro hdk2 (And.intro dn (And.intro dca (And.intro doff dto))))
        have HO := Lib.hid ho
        have HLEN := Lib.hid hlen
        clear hdk hdk2 dn dca doff dto ho hlen HZ0 kw1 HZS kz
        go_wp2_with fail
        refine (dload_c HO.out.readsB (by omega)).mono ?_
        rintro e w6 h6
        rw [HDK.out.1] at h6
        obtain ⟨g, bd, bt, m, rfl, hd6, k6⟩ := h6
        have HD6 := Lib.hid hd6
        clear hd6
        go_wp2_with fail
        refine (dimage_c HD6.out).mono ?_
        rintro e w7 ⟨v7, rfl, o7, k7⟩
        rw [(image_load HDK.out.1).1] at o7
        go_wp2_with fail
        refine (Bytes_c o7.readsB ((HO.out.readsB.keepN k6).keepN k7) (by rw [HLEN.out]; omega)).mono ?_
        rintro e w8 ⟨rfl, k8⟩
        rw [show decide (markB n s = markB n s) = true by simp]
        have HD8 := Lib.hid ((HD6.out.keepN k7).keepN k8)
        have HO8 := Lib.hid ((HO.out.keepN k6).keepN (k7.thenN k8))
        have k08 := hk.thenN (k6.thenN (k7.thenN k8))
        clear HD6 HO k6 k7 k8 hk o7
        go_wp2_with fail
        go_loopw [15] (fun j wr => ∃ q : Nat, q ≤ n ∧ j = .int .i64 q ∧ KpN w8 wr) (fun j _ => n - (intOf j).toNat)
        case atStart => exact ⟨0, Nat.zero_le _, rfl, Kp.refl _ _⟩
        case round =>
          obtain ⟨q2, hq2, rfl, hk2⟩ := hrel
          by_cases hlt : q2 < n
          · have hdn : q2 < dk.n := by rw [HDK.out.2.1]; exact hlt
            have hh := markB_head n s q2 hlt
            have hcell := (HO8.out.keepN hk2).byteAt (HLEN.out).symm (q2 * 129) (by rw [HLEN.out]; omega)
            rw [(List.getElem?_eq_some_iff.1 hh).2] at hcell
            have hrd : readD dk (q2 : Int) = if s q2 then ([], 40) else (dk.du q2, 0) := by
              have h1 : hasB dk (q2 : Int) = true := by simp [hasB]; omega
              simp [readD, h1, HDK.out.2.2.2.1, HDK.out.2.2.1, (HDK.out.2.2.2.2 q2 hlt).1]
            have hcm : 129 * (q2 : Int) = ((q2 * 129 : Nat) : Int) := by omega
            obtain ⟨P, hP⟩ : ∃ P, q2 * 129 = P := ⟨_, rfl⟩
            have hPn : P < n * 129 := by omega
            rw [hP] at hcell hcm
            have HRD := Lib.hid hrd
            have HCM := Lib.hid hcm
            clear hrd hh hP hcm
            go_wp2_with fail
            refine (dread_c (HD8.out.keepN hk2) (by omega)).mono ?_
            rintro e w9 ⟨u, rfl, -, k9⟩
            rw [HRD.out]
            have hcell9 : w9.cell? ⟨w4.heap.size, P, none⟩ = some (bv (if s q2 then 1 else 0)) := by
              rw [k9.cell (World.block_lt_of_cell? wr _ hcell) (fun x => x)]
              exact hcell
            have hcm2 := HCM.out
            clear hcell
            by_cases hs : s q2 = true
            · rw [if_pos hs] at hcell9 ⊢
              have e1 : bv 1 = .int .u8 1 := rfl
              rw [e1] at hcell9
              clear e1 hs
              go_wp2_with fail
              go_roundw
              case rel => exact ⟨q2 + 1, by omega, by go_num, hk2.thenN k9⟩
              case measure => exact meas_up hlt
            · rw [if_neg hs] at hcell9 ⊢
              have e1 : bv 0 = .int .u8 0 := rfl
              rw [e1] at hcell9
              clear e1 hs
              go_wp2_with fail
              go_roundw
              case rel => exact ⟨q2 + 1, by omega, by go_num, hk2.thenN k9⟩
              case measure => exact meas_up hlt
          · have hqn : n = q2 := by omega
            subst hqn
            have hT : RdB wr (.slice (some ⟨w4.heap.size, 0, none⟩) (n * 129 - 1) (n * 129)) ((markB n s).take (n * 129 - 1)) := (HO8.out.keepN hk2).readsB.take (n * 129 - 1) (by omega)
            have hnone : loadD ((markB n s).take (n * 129 - 1)) = none := by
              unfold loadD
              refine if_neg (fun h => ?_)
              have := h.1
              rw [List.length_take, HLEN.out] at this
              omega
            have HNO := Lib.hid hnone
            clear hnone
            go_wp2_with fail
            refine (dload_c hT (by omega)).mono ?_
            rintro e w10 h10
            rw [HNO.out] at h10
            obtain ⟨rfl, k10⟩ := h10
            go_wp2_with fail
            go_ret
            exact ⟨rfl, k08.thenN (hk2.thenN k10)⟩
end Go.Proofs.Ythkbgbbejgpeaaa
