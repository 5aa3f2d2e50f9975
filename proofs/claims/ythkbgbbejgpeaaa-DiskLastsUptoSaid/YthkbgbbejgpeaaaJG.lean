/- DiskFresh: what the call does. -/
import Derived.Test.YthkbgbbejgpeaaaJF
namespace Go.Proofs.Ythkbgbbejgpeaaa
open Go Go.RowKit
set_option maxRecDepth 100000

theorem DiskX.tight {w : World} {F : Nat → Prop} {g k : Nat} {d : Dk} (h : DiskX w F g k d) : DiskX w (fun b => F b ∧ b < w.heap.size) g k d := h.wide (fun _ hi hF => ⟨hF, hi⟩)
theorem OwC.only {w : World} {e size g n m cap : Nat} {F : Nat → Prop} {cs : List Value} (h : OwC w e size F (.slice (some ⟨g, 0, none⟩) m cap) n cs) : OwC w e size (fun b => b = g) (.slice (some ⟨g, 0, none⟩) m cap) n cs := ⟨h.own, fun _ hk => (Option.some.inj hk).symm⟩
theorem OwB.only {w : World} {e g m cap : Nat} {F : Nat → Prop} {xs : List UInt8} (h : OwB w e F (.slice (some ⟨g, 0, none⟩) m cap) xs) : OwB w e (fun b => b = g) (.slice (some ⟨g, 0, none⟩) m cap) xs := OwC.only h
/-- a row being written over, byte by byte -/
def OverRel (w0 : World) (bb L cap : Nat) (c : UInt8) (xs : List UInt8) (j : Value) (wr : World) : Prop := ∃ q : Nat, q ≤ L ∧ j = .int .i64 q ∧ OwB wr 5 (fun b => b = bb) (.slice (some ⟨bb, 0, none⟩) L cap) (overB c q xs) ∧ Kp (fun b => b = bb) w0 wr
theorem OverRel.start {w0 : World} {bb L cap : Nat} {c : UInt8} {xs : List UInt8} (h : OwB w0 5 (fun b => b = bb) (.slice (some ⟨bb, 0, none⟩) L cap) xs) : OverRel w0 bb L cap c xs (.int .i64 0) w0 := ⟨0, Nat.zero_le _, rfl, by rw [over_zero]; exact h, Kp.refl _ _⟩
/-- one byte of it -/
theorem over_step {w0 wr : World} {bb L cap q : Nat} {c : UInt8} {xs : List UInt8} (hL : xs.length = L) (hq : q < L) (h : OwB wr 5 (fun b => b = bb) (.slice (some ⟨bb, 0, none⟩) L cap) (overB c q xs)) (k : Kp (fun b => b = bb) w0 wr) :
    (∃ u, wr.cell? ⟨bb, q, none⟩ = some u) ∧ wr.frozen? ⟨bb, q, none⟩ = false ∧ OwB (wr.setCell ⟨bb, q, none⟩ (bv c)) 5 (fun b => b = bb) (.slice (some ⟨bb, 0, none⟩) L cap) (overB c (q + 1) xs) ∧ Kp (fun b => b = bb) w0 (wr.setCell ⟨bb, q, none⟩ (bv c)) := by
  have hl := over_len c q xs (by omega)
  refine ⟨⟨_, h.byteAt (by rw [hl, hL]) q (by omega)⟩, h.frozenAt q, ?_, k.setCell (p := ⟨bb, q, none⟩) (.inl rfl) _⟩
  rw [← over_set c q xs (by omega)]
  exact h.putB (by rw [hl, hL]) q c
theorem ub_bv (c : Nat) (hc : c < 256) : bv (UInt8.ofNat c) = .int .u8 (c : Int) := by
  simp [bv]
  omega
set_option maxHeartbeats 6400000 in
theorem dfresh_walk {w : World} {sectors at_ choice : Int} {a c : Nat} (hs : I64 sectors) (hat : I64 at_) (hch : I64 choice) (ha : a < 256) (hc : c < 256) :
    Calls Try.prog 10 #[.int .i64 sectors, .int .i64 at_, .int .u8 (a : Int), .int .u8 (c : Int), .int .i64 choice] w fun e w' => e = .returned (.bool true) ∧ KpN w w' := by
  obtain ⟨n, hn, hn1, hn2⟩ := span_nat (n := sectors) (lo := 2) (hi := 65536) (by omega) (by omega)
  obtain ⟨i, hi, hi1, hi2⟩ := span_nat (n := at_) (lo := 0) (hi := (n : Int) - 2) (by omega) (by omega)
  obtain ⟨z, hz, hz1, hz2⟩ := span_nat (n := choice) (lo := 0) (hi := 1) (by omega) (by omega)
  have hin : i + 2 ≤ n := by omega
  have hzz : z ≤ 1 := by omega
  obtain ⟨cc, hcc⟩ : ∃ cc : UInt8, UInt8.ofNat c = cc := ⟨_, rfl⟩
  have hbv : bv cc = .int .u8 (c : Int) := by rw [← hcc]; exact ub_bv c hc
  obtain ⟨d1, d2, d3, e1, e2, e3, e4, e5, e6⟩ := fresh_law n i hin (fillB a) (List.replicate 128 cc) (fillB_len a) (by simp) z hzz
  have HN := Lib.hid hn
  have HI := Lib.hid hi
  have HZ := Lib.hid hz
  have HB := Lib.hid hbv
  have HE := Lib.hid (And.intro e1 (And.intro e2 (And.intro e3 (And.intro e4 (And.intro e5 e6)))))
  clear hn hi hz hbv hcc e1 e2 e3 e4 e5 e6
  go_enter Try.func10, Try.ntmps10
  go_wp2_with fail
  refine (span_c hs (by omega) (by omega) (by omega)).mono ?_
  rintro e w0 ⟨rfl, rfl⟩
  rw [HN.out]
  go_wp2_with fail
  refine (new_x (n := n) (by omega) (by omega)).mono ?_
  rintro e w1 ⟨g, rfl, hd1, k1⟩
  have HD1 := Lib.hid hd1.tight
  clear hd1
  go_wp2_with fail
  refine (span_c hat (by omega) (by omega) (by omega)).mono ?_
  rintro e w0 ⟨rfl, rfl⟩
  rw [HI.out]
  go_wp2_with fail
  refine (fill_c (n := a) (by omega)).mono ?_
  rintro e w2 ⟨v2, rfl, o2, k2⟩
  obtain ⟨bb, cap, rfl, hbb, hcap⟩ := o2.form (by rw [fillB_len]; omega)
  have hfl := fillB_len a
  rw [hfl] at o2 hcap ⊢
  have HO2 := Lib.hid o2.only
  have hb1 := hbb.1
  have hb2 := hbb.2
  have hz1 := k1.size
  clear o2 hbb
  go_wp2_with fail
  refine (write_x (i := (i : Int)) (xs := fillB a) (HD1.out.keepN k2) HO2.out.readsB (fun b hb hF => by have e : bb = b := Option.some.inj hb; have := hF.2; omega) ⟨by omega, by omega⟩ (by omega)).mono ?_
  rw [HE.out.1]
  rintro e w3 ⟨rfl, F3, k3', hk3, hd3, hG3, k3⟩
  have hz2 := k2.size
  have hz3 := k3.size
  have ha3 : ¬ F3 bb := hG3.avoid hb2 (fun h => by have := h.2; omega)
  have hge3 : ∀ x, F3 x → w.heap.size ≤ x := hG3.ge (fun x hx => hx.1.1) (by omega)
  have hlt3 : ∀ x, F3 x → x < w3.heap.size := hG3.lt (fun x hx => by have := hx.2; omega) hz3
  have HD3 := Lib.hid hd3
  have HO3 := Lib.hid (HO2.out.keep k3 (fun b hb hF => by have := hF.2; omega))
  have hk03 : KpN w w3 := (k1.thenN k2).fresh k3 (fun x hx => hx.1.1)
  clear hd3 hG3 k3
  go_wp2_with fail
  go_loopw [16] (fun j wr => OverRel w3 bb 128 cap cc (fillB a) j wr) (fun j _ => 128 - (intOf j).toNat)
  case atStart => exact OverRel.start HO3.out
  case round =>
    obtain ⟨q, hq, rfl, ho, hk⟩ := hrel
    by_cases hlt : q < 128
    · obtain ⟨⟨u, hcl⟩, hfz, hst, hks⟩ := over_step hfl hlt ho hk
      rw [HB.out] at hst hks
      have HST := Lib.hid (And.intro hst hks)
      clear hst ho
      go_wp2_with fail
      go_roundw
      case rel => exact ⟨q + 1, by omega, by go_num, HST.out.1, HST.out.2⟩
      case measure => exact meas_up hlt
    · obtain rfl : q = 128 := by omega
      rw [show overB cc 128 (fillB a) = List.replicate 128 cc by rw [← hfl, over_end]] at ho
      have hd4 := HD3.out.keep hk (fun x hx e => ha3 (by rw [← e]; exact hx))
      have HD4 := Lib.hid hd4
      have HO4 := Lib.hid ho
      have hz4 := hk.size
      clear hd4 ho
      have hi3 : I64 ((i : Int) + 1) := ⟨by omega, by omega⟩
      go_wp2_with fail
      refine (write_x (i := (i : Int) + 1) (xs := List.replicate 128 cc) HD4.out HO4.out.readsB (fun b hb hF => by have e : bb = b := Option.some.inj hb; exact ha3 (by rw [e]; exact hF)) hi3 (by omega)).mono ?_
      rw [HE.out.2.1]
      rintro e w5 ⟨rfl, F5, k5', hk5, hd5, hG5, k5⟩
      have hz5 := k5.size
      have ha5 : ¬ F5 bb := hG5.avoid (by omega) ha3
      have hge5 : ∀ x, F5 x → w.heap.size ≤ x := hG5.ge hge3 (by omega)
      have hlt5 : ∀ x, F5 x → x < w5.heap.size := hG5.lt (fun x hx => by have := hlt3 x hx; omega) hz5
      have HD5 := Lib.hid hd5
      have HO5 := Lib.hid (HO4.out.keep k5 (fun b hb hF => ha3 (by rw [← hb]; exact hF)))
      have hk05 : KpN w w5 := (hk03.fresh hk (fun x hx => by rw [hx]; omega)).fresh k5 hge3
      clear hd5 hG5 k5 hk
      go_wp2_with fail
      have hbv2 : bv (UInt8.ofNat (c + 1)) = .int .u8 (((c : Int) + 1) % 256) := by rw [← byteN]; congr 1
      have HB2 := Lib.hid hbv2
      have hrl : (List.replicate 128 cc).length = 128 := by simp
      obtain ⟨X2, hX2⟩ : ∃ X2, List.replicate 128 cc = X2 := ⟨_, rfl⟩
      rw [hX2] at hrl HO5
      clear hbv2
      go_loopw [17] (fun j wr => OverRel w5 bb 128 cap (UInt8.ofNat (c + 1)) X2 j wr) (fun j _ => 128 - (intOf j).toNat)
      case atStart => exact OverRel.start HO5.out
      case round =>
        obtain ⟨q, hq, rfl, ho, hk⟩ := hrel
        by_cases hlt : q < 128
        · obtain ⟨⟨u, hcl⟩, hfz, hst, hks⟩ := over_step hrl hlt ho hk
          rw [HB2.out] at hst hks
          have HST := Lib.hid (And.intro hst hks)
          clear hst ho
          go_wp2_with fail
          go_roundw
          case rel => exact ⟨q + 1, by omega, by go_num, HST.out.1, HST.out.2⟩
          case measure => exact meas_up hlt
        · obtain rfl : q = 128 := by omega
          have HD6 := Lib.hid (HD5.out.keep hk (fun x hx e => ha5 (by rw [← e]; exact hx)))
          have hk06 := hk05.fresh hk (fun x hx => by rw [hx]; omega)
          have hz6 := hk.size
          clear ho hk
          go_wp2_with fail
          refine (span_c hch (by omega) (by omega) (by omega)).mono ?_
          rintro e w6 ⟨rfl, rfl⟩
          rw [HZ.out]
          have ol := (OwC.lit wr 3 1 2 #[.int .i64 1, .int .i64 (z : Int)] (by simp [maxLen]) rfl).only
          have kl : KpN wr (wr.alloc (.cells #[.int .i64 1, .int .i64 (z : Int)] 3)) := (Kp.refl _ _).alloc _
          have hzl : (wr.alloc (.cells #[.int .i64 1, .int .i64 (z : Int)] 3)).heap.size = wr.heap.size + 1 := by simp
          have HL := Lib.hid ol
          obtain ⟨W7, hW7⟩ : ∃ W7, wr.alloc (.cells #[.int .i64 1, .int .i64 (z : Int)] 3) = W7 := ⟨_, rfl⟩
          rw [hW7] at HL kl hzl
          have HW7 := Lib.hid hW7
          have HZL := Lib.hid hzl
          obtain ⟨lb, hlb⟩ : ∃ lb, wr.heap.size = lb := ⟨_, rfl⟩
          rw [hlb] at HL HZL
          have HLB := Lib.hid hlb
          clear ol hW7 hzl
          go_wp2_with fail
          rw [HW7.out]
          have hd7 := HD6.out.keepN kl
          refine (crash_x hd7 (by omega) (ch := [1, (z : Int)]) HL.out.reads (fun _ b hb hF => by have e : lb = b := Option.some.inj hb; have := hlt5 b hF; omega) (by omega)).mono ?_
          rw [HE.out.2.2.1]
          rintro e w8 ⟨⟨u8, rfl⟩, hd8, k8⟩
          have HL8 := Lib.hid (HL.out.keep k8 (fun b hb hF => by have := hlt5 b hF; omega))
          have hk08 : KpN w w8 := (hk06.thenN kl).fresh k8 hge5
          have hz8 := k8.size
          have hw8 := hk08.size
          have hw58 : w5.heap.size ≤ w8.heap.size := by have := kl.size; omega
          have HD8 := Lib.hid hd8
          have cl0 : w8.cell? ⟨lb, 0, none⟩ = some (.int .i64 1) := HL8.out.cellAt 0 (by omega)
          have cl1 : w8.cell? ⟨lb, 1, none⟩ = some (.int .i64 z) := HL8.out.cellAt 1 (by omega)
          have fl0 := HL8.out.frozenAt 0
          have fl1 := HL8.out.frozenAt 1
          have hk9 : Kp (fun b => b = lb) w8 ((w8.setCell ⟨lb, 0, none⟩ (.int .i64 0)).setCell ⟨lb, 1, none⟩ (.int .i64 0)) := ((Kp.refl (fun b => b = lb) w8).setCell (p := ⟨lb, 0, none⟩) (.inl rfl) _).setCell (p := ⟨lb, 1, none⟩) (.inl rfl) _
          have hlb5 : w5.heap.size ≤ lb := by omega
          clear hd7 hd8 hlb
          go_wp2_with fail
          have hd9 := HD8.out.keep hk9 (fun b hF e => by have := hlt5 b hF; omega)
          have hk09 : KpN w ((w8.setCell ⟨lb, 0, none⟩ (.int .i64 0)).setCell ⟨lb, 1, none⟩ (.int .i64 0)) := hk08.fresh hk9 (fun b hb => by have := hk05.size; omega)
          have hz9 := hk9.size
          clear cl0 cl1 fl0 fl1 hk9 HL8 HD8
          generalize ((w8.setCell ⟨lb, 0, none⟩ (.int .i64 0)).setCell ⟨lb, 1, none⟩ (.int .i64 0)) = w9 at *
          have HD9 := Lib.hid hd9
          clear hd9
          refine (read_x (i := (i : Int)) HD9.out ⟨by omega, by omega⟩).mono ?_
          rw [HE.out.2.2.2.2.1]
          rintro e wa ⟨va, rfl, oa, ka⟩
          go_wp2_with fail
          refine (read_x (i := (i : Int) + 1) (HD9.out.keepN ka) hi3).mono ?_
          rw [HE.out.2.2.2.2.2]
          rintro e wb ⟨vb, rfl, ob, kb⟩
          obtain ⟨W1, hmk, hoz, kz, hzs⟩ := made_zeros wb 128 (by omega)
          rw [show ((128 : Nat) : Int) = 128 from rfl] at hmk
          have OAz := Lib.hid ((oa.readsB.keepN kb).keepN kz)
          have OBz := Lib.hid (ob.readsB.keepN kz)
          have HDz := Lib.hid (((HD9.out.keepN ka).keepN kb).keepN kz)
          have OZ := Lib.hid hoz
          have HZS := Lib.hid hzs
          have hkz : KpN w W1 := ((hk09.thenN ka).thenN kb).thenN kz
          have hzb : w8.heap.size ≤ wb.heap.size := by have := ka.size; have := kb.size; omega
          have hzz8 : lb < w8.heap.size := by have := HZL.out; omega
          have hfa : ∀ b, va.ownBlock = some b → b < wb.heap.size := fun b hb => by have := oa.lt b hb; have := kb.size; omega
          have hfb : ∀ b, vb.ownBlock = some b → b < wb.heap.size := fun b hb => ob.lt b hb
          clear oa ob hoz hzs
          go_wp2_with fail
          refine (span_c hch (by omega) (by omega) (by omega)).mono ?_
          rintro e wc ⟨rfl, rfl⟩
          rw [HZ.out]
          by_cases hz1' : z = 1
          · subst hz1'
            clear hmk
            go_wp2_with fail
            have hrz : (List.replicate 128 (0 : UInt8)).length = 128 := by simp
            obtain ⟨Z0, hZ0⟩ : ∃ Z0 : List UInt8, List.replicate 128 0 = Z0 := ⟨_, rfl⟩
            rw [hZ0] at hrz OZ
            have HZ0 := Lib.hid hZ0
            clear hZ0
            go_loopw [24] (fun j wr => OverRel W1 wb.heap.size 128 128 cc Z0 j wr) (fun j _ => 128 - (intOf j).toNat)
            case atStart => exact OverRel.start OZ.out
            case round =>
              obtain ⟨q, hq, rfl, ho, hk⟩ := hrel
              by_cases hlt : q < 128
              · obtain ⟨⟨u, hcl⟩, hfz, hst, hks⟩ := over_step hrz hlt ho hk
                rw [HB.out] at hst hks
                have HST := Lib.hid (And.intro hst hks)
                clear hst ho
                go_wp2_with fail
                go_roundw
                case rel => exact ⟨q + 1, by omega, by go_num, HST.out.1, HST.out.2⟩
                case measure => exact meas_up hlt
              · obtain rfl : q = 128 := by omega
                rw [show overB cc 128 Z0 = List.replicate 128 cc by rw [← hrz, over_end, hrz]] at ho
                have OW := Lib.hid ho
                have HWL := Lib.hid (show (List.replicate 128 cc).length = 128 by simp)
                have HWE := Lib.hid (show (if (1 : Nat) = 1 then List.replicate 128 cc else zsec) = List.replicate 128 cc from rfl)
                have OA := Lib.hid (OAz.out.keep hk (fun b hb e => by have := hfa b hb; omega))
                have OB := Lib.hid (OBz.out.keep hk (fun b hb e => by have := hfb b hb; omega))
                have HDA := Lib.hid (HDz.out.keep hk (fun x hx e => by have := hlt5 x hx; omega))
                have hkA := hkz.fresh hk (fun x hx => by rw [hx]; omega)
                have hzA : w8.heap.size ≤ wr.heap.size := by have := hk.size; have := kz.size; omega
                clear ho hk
                go_wp2_with fail
                refine (fill_c (n := a) (by omega)).mono ?_
                rintro e wf ⟨vf, rfl, off, kf⟩
                go_wp2_with fail
                refine (Bytes_c (OA.out.keepN kf) off.readsB (by rw [fillB_len]; omega)).mono ?_
                rintro e wg ⟨rfl, kg⟩
                rw [show decide (fillB a = fillB a) = true by simp]
                go_wp2_with fail
                refine (Bytes_c ((OB.out.keepN kf).keepN kg) ((OW.out.readsB.keepN kf).keepN kg) (by rw [HWL.out]; omega)).mono ?_
                rintro e wh ⟨rfl, kh⟩
                rw [decide_eq_true HWE.out]
                have hdh := ((HDA.out.keepN kf).keepN kg).keepN kh
                have hkh := ((hkA.thenN kf).thenN kg).thenN kh
                obtain ⟨dk, hdk, dkn, -⟩ := image_again d3 hdh.n1 hdh.n2 hdh.len
                obtain ⟨dk2, hdk2⟩ := fresh_image d3 hdh.n1 hdh.n2 hdh.len
                have himl := image_len d3 hdh.len
                rw [HE.out.2.2.2.1] at himl
                obtain ⟨im, him⟩ : ∃ im, imageD d3 = im := ⟨_, rfl⟩
                rw [him] at hdk hdk2 himl
                have HDK := Lib.hid (And.intro hdk (And.intro hdk2 (And.intro him himl)))
                have HDH := Lib.hid hdh
                clear hdk hdk2 him himl hdh dkn
                go_wp2_with fail
                refine (image_x HDH.out).mono ?_
                rw [HDK.out.2.2.1]
                rintro e wi ⟨vi, rfl, oi, ki⟩
                obtain ⟨ib, icap, rfl, hib, hicap⟩ := oi.form (by rw [HDK.out.2.2.2]; omega)
                rw [HDK.out.2.2.2] at oi hicap ⊢
                have hib1 := hib.1
                have hib2 := hib.2
                have HOI := Lib.hid oi.only
                clear oi hib
                go_wp2_with fail
                refine (load_x (img := im) HOI.out.readsB (by omega)).mono ?_
                rintro e wj hj
                rw [HDK.out.1] at hj
                obtain ⟨gt, rfl, hdt, kj⟩ := hj
                have HDT := Lib.hid hdt.tight
                have HOJ := Lib.hid (HOI.out.keepN kj)
                have hkj : KpN w wj := (hkh.thenN ki).thenN kj
                have HDJ := Lib.hid ((HDH.out.keepN ki).keepN kj)
                have hzi := ki.size
                have hzh : w8.heap.size ≤ wh.heap.size := by have := kf.size; have := kg.size; have := kh.size; omega
                clear hdt
                go_wp2_with fail
                have himl := HDK.out.2.2.2
                go_loopw [28] (fun j wr => ∃ q : Nat, q ≤ 129 ∧ j = .int .i64 q ∧ OwB wr 5 (fun b => b = ib) (.slice (some ⟨ib, 0, none⟩) (n * 129) icap) (overB 0 q im) ∧ Kp (fun b => b = ib) wj wr) (fun j _ => 129 - (intOf j).toNat)
                case atStart => exact ⟨0, by omega, rfl, by rw [over_zero]; exact HOJ.out, Kp.refl _ _⟩
                case round =>
                  obtain ⟨q, hq, rfl, ho, hk⟩ := hrel
                  by_cases hlt : q < 129
                  · obtain ⟨⟨u, hcl⟩, hfz, hst, hks⟩ := over_step himl (by omega) ho hk
                    have e0 : bv 0 = .int .u8 0 := rfl
                    rw [e0] at hst hks
                    have HST := Lib.hid (And.intro hst hks)
                    clear hst ho e0 himl
                    go_wp2_with fail
                    go_roundw
                    case rel => exact ⟨q + 1, by omega, by go_num, HST.out.1, HST.out.2⟩
                    case measure => exact meas_up hlt
                  · obtain rfl : q = 129 := by omega
                    have hol := over_len 0 129 im (by omega)
                    obtain ⟨im2, him2⟩ : ∃ im2, overB 0 129 im = im2 := ⟨_, rfl⟩
                    have hL2 := HDK.out.2.1
                    rw [him2] at ho hol hL2
                    rw [himl] at hol
                    have HO2' := Lib.hid (And.intro ho (And.intro hol hL2))
                    have hkr : KpN w _ := hkj.fresh hk (fun x hx => by rw [hx]; omega)
                    have HDTr := Lib.hid (HDT.out.keep hk (fun x hx e => by have := hx.1.1; rw [e] at this; omega))
                    have HDJr := Lib.hid (HDJ.out.keep hk (fun x hx e => by have := hlt5 x hx; rw [e] at this; omega))
                    clear ho hol hL2 himl him2
                    go_wp2_with fail
                    refine (load_x HO2'.out.1.readsB (by omega)).mono ?_
                    rintro e wl hl
                    rw [HO2'.out.2.2] at hl
                    obtain ⟨gu, rfl, hdu, kl2⟩ := hl
                    have HDU := Lib.hid hdu
                    clear hdu
                    go_wp2_with fail
                    refine (image_x HDU.out).mono ?_
                    rw [(image_load HO2'.out.2.2).1]
                    rintro e wm ⟨vm, rfl, om, km⟩
                    go_wp2_with fail
                    refine (Bytes_c om.readsB ((HO2'.out.1.readsB.keepN kl2).keepN km) (by rw [HO2'.out.2.1]; omega)).mono ?_
                    rintro e wn ⟨rfl, kn⟩
                    rw [show decide (im2 = im2) = true by simp]
                    have hdn := ((HDTr.out.keepN kl2).keepN km).keepN kn
                    go_wp2_with fail
                    refine (image_x hdn).mono ?_
                    rw [(image_load HDK.out.1).1]
                    rintro e wo ⟨vo, rfl, oo, ko⟩
                    have hdo := (((HDJr.out.keepN kl2).keepN km).keepN kn).keepN ko
                    go_wp2_with fail
                    refine (image_x hdo).mono ?_
                    rw [HDK.out.2.2.1]
                    rintro e wp ⟨vp, rfl, op, kp⟩
                    go_wp2_with fail
                    refine (Bytes_c (oo.readsB.keepN kp) op.readsB (by rw [HDK.out.2.2.2]; omega)).mono ?_
                    rintro e wq ⟨rfl, kq⟩
                    rw [show decide (im = im) = true by simp]
                    go_wp2_with fail
                    go_ret
                    exact ⟨rfl, (((((hkr.thenN kl2).thenN km).thenN kn).thenN ko).thenN kp).thenN kq⟩
          · have hz0 : z = 0 := by omega
            subst hz0
            have OW := OZ
            have HWL := Lib.hid (show (List.replicate 128 (0 : UInt8)).length = 128 by simp)
            have HWE := Lib.hid (show (if (0 : Nat) = 1 then List.replicate 128 cc else zsec) = List.replicate 128 0 from rfl)
            have OA := OAz
            have OB := OBz
            have HDA := HDz
            have hkA := hkz
            have hzA : w8.heap.size ≤ W1.heap.size := by have := kz.size; omega
            clear hmk
            go_wp2_with fail
            refine (fill_c (n := a) (by omega)).mono ?_
            rintro e wf ⟨vf, rfl, off, kf⟩
            go_wp2_with fail
            refine (Bytes_c (OA.out.keepN kf) off.readsB (by rw [fillB_len]; omega)).mono ?_
            rintro e wg ⟨rfl, kg⟩
            rw [show decide (fillB a = fillB a) = true by simp]
            go_wp2_with fail
            refine (Bytes_c ((OB.out.keepN kf).keepN kg) ((OW.out.readsB.keepN kf).keepN kg) (by rw [HWL.out]; omega)).mono ?_
            rintro e wh ⟨rfl, kh⟩
            rw [decide_eq_true HWE.out]
            have hdh := ((HDA.out.keepN kf).keepN kg).keepN kh
            have hkh := ((hkA.thenN kf).thenN kg).thenN kh
            obtain ⟨dk, hdk, dkn, -⟩ := image_again d3 hdh.n1 hdh.n2 hdh.len
            obtain ⟨dk2, hdk2⟩ := fresh_image d3 hdh.n1 hdh.n2 hdh.len
            have himl := image_len d3 hdh.len
            rw [HE.out.2.2.2.1] at himl
            obtain ⟨im, him⟩ : ∃ im, imageD d3 = im := ⟨_, rfl⟩
            rw [him] at hdk hdk2 himl
            have HDK := Lib.hid (And.intro hdk (And.intro hdk2 (And.intro him himl)))
            have HDH := Lib.hid hdh
            clear hdk hdk2 him himl hdh dkn
            go_wp2_with fail
            refine (image_x HDH.out).mono ?_
            rw [HDK.out.2.2.1]
            rintro e wi ⟨vi, rfl, oi, ki⟩
            obtain ⟨ib, icap, rfl, hib, hicap⟩ := oi.form (by rw [HDK.out.2.2.2]; omega)
            rw [HDK.out.2.2.2] at oi hicap ⊢
            have hib1 := hib.1
            have hib2 := hib.2
            have HOI := Lib.hid oi.only
            clear oi hib
            go_wp2_with fail
            refine (load_x (img := im) HOI.out.readsB (by omega)).mono ?_
            rintro e wj hj
            rw [HDK.out.1] at hj
            obtain ⟨gt, rfl, hdt, kj⟩ := hj
            have HDT := Lib.hid hdt.tight
            have HOJ := Lib.hid (HOI.out.keepN kj)
            have hkj : KpN w wj := (hkh.thenN ki).thenN kj
            have HDJ := Lib.hid ((HDH.out.keepN ki).keepN kj)
            have hzi := ki.size
            have hzh : w8.heap.size ≤ wh.heap.size := by have := kf.size; have := kg.size; have := kh.size; omega
            clear hdt
            go_wp2_with fail
            have himl := HDK.out.2.2.2
            go_loopw [28] (fun j wr => ∃ q : Nat, q ≤ 129 ∧ j = .int .i64 q ∧ OwB wr 5 (fun b => b = ib) (.slice (some ⟨ib, 0, none⟩) (n * 129) icap) (overB 0 q im) ∧ Kp (fun b => b = ib) wj wr) (fun j _ => 129 - (intOf j).toNat)
            case atStart => exact ⟨0, by omega, rfl, by rw [over_zero]; exact HOJ.out, Kp.refl _ _⟩
            case round =>
              obtain ⟨q, hq, rfl, ho, hk⟩ := hrel
              by_cases hlt : q < 129
              · obtain ⟨⟨u, hcl⟩, hfz, hst, hks⟩ := over_step himl (by omega) ho hk
                have e0 : bv 0 = .int .u8 0 := rfl
                rw [e0] at hst hks
                have HST := Lib.hid (And.intro hst hks)
                clear hst ho e0 himl
                go_wp2_with fail
                go_roundw
                case rel => exact ⟨q + 1, by omega, by go_num, HST.out.1, HST.out.2⟩
                case measure => exact meas_up hlt
              · obtain rfl : q = 129 := by omega
                have hol := over_len 0 129 im (by omega)
                obtain ⟨im2, him2⟩ : ∃ im2, overB 0 129 im = im2 := ⟨_, rfl⟩
                have hL2 := HDK.out.2.1
                rw [him2] at ho hol hL2
                rw [himl] at hol
                have HO2' := Lib.hid (And.intro ho (And.intro hol hL2))
                have hkr : KpN w _ := hkj.fresh hk (fun x hx => by rw [hx]; omega)
                have HDTr := Lib.hid (HDT.out.keep hk (fun x hx e => by have := hx.1.1; rw [e] at this; omega))
                have HDJr := Lib.hid (HDJ.out.keep hk (fun x hx e => by have := hlt5 x hx; rw [e] at this; omega))
                clear ho hol hL2 himl him2
                go_wp2_with fail
                refine (load_x HO2'.out.1.readsB (by omega)).mono ?_
                rintro e wl hl
                rw [HO2'.out.2.2] at hl
                obtain ⟨gu, rfl, hdu, kl2⟩ := hl
                have HDU := Lib.hid hdu
                clear hdu
                go_wp2_with fail
                refine (image_x HDU.out).mono ?_
                rw [(image_load HO2'.out.2.2).1]
                rintro e wm ⟨vm, rfl, om, km⟩
                go_wp2_with fail
                refine (Bytes_c om.readsB ((HO2'.out.1.readsB.keepN kl2).keepN km) (by rw [HO2'.out.2.1]; omega)).mono ?_
                rintro e wn ⟨rfl, kn⟩
                rw [show decide (im2 = im2) = true by simp]
                have hdn := ((HDTr.out.keepN kl2).keepN km).keepN kn
                go_wp2_with fail
                refine (image_x hdn).mono ?_
                rw [(image_load HDK.out.1).1]
                rintro e wo ⟨vo, rfl, oo, ko⟩
                have hdo := (((HDJr.out.keepN kl2).keepN km).keepN kn).keepN ko
                go_wp2_with fail
                refine (image_x hdo).mono ?_
                rw [HDK.out.2.2.1]
                rintro e wp ⟨vp, rfl, op, kp⟩
                go_wp2_with fail
                refine (Bytes_c (oo.readsB.keepN kp) op.readsB (by rw [HDK.out.2.2.2]; omega)).mono ?_
                rintro e wq ⟨rfl, kq⟩
                rw [show decide (im = im) = true by simp]
                go_wp2_with fail
                go_ret
                exact ⟨rfl, (((((hkr.thenN kl2).thenN km).thenN kn).thenN ko).thenN kp).thenN kq⟩
end Go.Proofs.Ythkbgbbejgpeaaa
