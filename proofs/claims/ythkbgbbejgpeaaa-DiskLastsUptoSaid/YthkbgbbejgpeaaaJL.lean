/- DiskSame: what the call does. -/
import Derived.Test.YthkbgbbejgpeaaaJI
namespace Go.Proofs.Ythkbgbbejgpeaaa
open Go Go.RowKit
set_option maxRecDepth 100000

/-- a row of ints of the call's own -/
def OwI (w : World) (F : Nat → Prop) (v : Value) (zs : List Int) : Prop := OwC w 3 1 F v zs.length (zs.map (Value.int .i64))
theorem OwI.rd {w : World} {F : Nat → Prop} {v : Value} {zs : List Int} (h : OwI w F v zs) : RdI w v zs := h.reads
theorem RdI.keepN {w w' : World} {v : Value} {zs : List Int} (h : RdI w v zs) (k : KpN w w') : RdI w' v zs := RdC.keepN h k
theorem RdI.keep {w w' : World} {v : Value} {zs : List Int} (h : RdI w v zs) {S : Nat → Prop} (k : Kp S w w') (hs : ∀ i, v.ownBlock = some i → ¬ S i) : RdI w' v zs := RdC.keep h k hs
def dirtyZ (d : Dk) : List Int := (dirtyD d).map fun (i : Nat) => (i : Int)
def versZ (d : Dk) : List Int := (dirtyD d).map fun (i : Nat) => ((d.ca i).length : Int)
theorem dirtyZ_len (d : Dk) : (dirtyZ d).length ≤ d.n := by
  unfold dirtyZ dirtyD
  rw [List.length_map]
  exact Nat.le_trans (List.length_filter_le _ _) (by simp)
theorem versZ_len (d : Dk) : (versZ d).length ≤ d.n := by
  unfold versZ dirtyD
  rw [List.length_map]
  exact Nat.le_trans (List.length_filter_le _ _) (by simp)
def DDirtyX (d : Dk) (w : World) (e : Ending) (w' : World) : Prop := ∃ v u, e = .returned (.tuple #[v, u]) ∧ OwI w' (Iv w.heap.size w'.heap.size) v (dirtyZ d) ∧ OwI w' (Iv w.heap.size w'.heap.size) u (versZ d) ∧ KpN w w'
theorem dirty_y {w : World} {F : Nat → Prop} {g k : Nat} {d : Dk} (h : DiskX w F g k d) (hk : k ≤ 1000000000) : Calls Try.prog 30 #[.pointer (some ⟨g, 0, none⟩)] w (DDirtyX d w) := by
  refine (dirty_x h hk).mono ?_
  rintro e w' ⟨v, u, he, h1, h2, k⟩
  refine ⟨v, u, he, ?_, ?_, k⟩
  · unfold OwI dirtyZ
    rw [List.length_map, List.map_map]
    exact h1
  · unfold OwI versZ
    rw [List.length_map, List.map_map]
    exact h2
theorem EqD.dirtyZ {d e : Dk} (h : EqD d e) : Proofs.Ythkbgbbejgpeaaa.dirtyZ d = Proofs.Ythkbgbbejgpeaaa.dirtyZ e := by unfold Proofs.Ythkbgbbejgpeaaa.dirtyZ; rw [h.dirty]
theorem EqD.versZ {d e : Dk} (h : EqD d e) : Proofs.Ythkbgbbejgpeaaa.versZ d = Proofs.Ythkbgbbejgpeaaa.versZ e := by
  unfold Proofs.Ythkbgbbejgpeaaa.versZ
  rw [← h.dirty]
  apply List.map_congr_left
  intro i hi
  rw [h.ca i ((dirty_mem d i).1 hi).1]
theorem readD_len (d : Dk) (i : Int) (hl : ∀ i, i < d.n → (d.du i).length = 128) (hc : ∀ i, i < d.n → ∀ s ∈ d.ca i, s.length = 128) : (readD d i).1.length ≤ 128 := by
  unfold readD
  split
  · simp
  · rename_i hB
    have hin : i.toNat < d.n := by
      simp [hasB] at hB
      omega
    split
    · simp
    · split
      · rename_i s hs
        exact Nat.le_of_eq (hc _ hin s (List.mem_of_getLast? hs))
      · split
        · simp
        · exact Nat.le_of_eq (hl _ hin)
theorem EqD.dirtyX {d e : Dk} (h : EqD d e) (w : World) : DDirtyX e w = DDirtyX d w := by
  unfold DDirtyX
  rw [h.dirtyZ, h.versZ]
set_option maxHeartbeats 6400000 in
theorem dsame_walk {w : World} {sectors : Int} {va vb : Value} {l m : List Stp} (hs : I64 sectors) (ha : RdSteps w va l) (hb : RdSteps w vb m) (hla : stepsSize l ≤ 2000000) (hlb : stepsSize m ≤ 2000000) :
    Calls Try.prog 15 #[.int .i64 sectors, va, vb] w fun e w' => e = .returned (.bool true) ∧ KpN w w' := by
  obtain ⟨Aa, ca, rfl, -⟩ := SlAt.form ha
  obtain ⟨Ab, cb, rfl, -⟩ := SlAt.form hb
  obtain ⟨n, hn, hn1, hn2⟩ := span_nat (n := sectors) (lo := 1) (hi := 65536) (by omega) (by omega)
  have hll := stepsSize_len l
  have hlm := stepsSize_len m
  obtain ⟨LA, hLA⟩ : ∃ L, l.length = L := ⟨_, rfl⟩
  obtain ⟨LB, hLB⟩ : ∃ L, m.length = L := ⟨_, rfl⟩
  rw [hLA] at ha hll ⊢
  rw [hLB] at hb hlm ⊢
  have HA := Lib.hid ha
  have HB := Lib.hid hb
  have HN := Lib.hid hn
  have HLA := Lib.hid hLA
  have HLB := Lib.hid hLB
  clear ha hb hn hLA hLB
  go_enter Try.func15, Try.ntmps15
  go_wp2_with fail
  refine (span_c hs (by omega) (by omega) (by omega)).mono ?_
  rintro e w0 ⟨rfl, rfl⟩
  rw [HN.out]
  go_wp2_with fail
  refine (new_x (n := n) (by omega) (by omega)).mono ?_
  rintro e w1 ⟨g, rfl, hd1, k1⟩
  have HD1 := Lib.hid hd1
  clear hd1
  go_wp2_with fail
  refine (run_c HD1.out HA.out (by omega) k1 (fun x hx => hx.1) (by omega)).mono ?_
  rw [HLA.out]
  obtain ⟨⟨r1, d1⟩, hr1⟩ : ∃ r, runD (newD n) l (LA : Int) = r := ⟨_, rfl⟩
  rw [hr1]
  rintro e w2 ⟨rfl, F2, k2, hk2, hd2, hg2, kp2⟩
  have hok1 : OkD d1 := by have := run_ok (LA : Int) l 0 0 (newD_ok n); have e := hr1; unfold runD at e; rwa [e] at this
  obtain ⟨t, ht, e1, e2, e3⟩ := same_law d1 hd2.n1 hd2.n2 hd2.len hok1
  have himl := image_len d1 hd2.len
  have hge2 : ∀ x, F2 x → w.heap.size ≤ x := hg2.ge (fun x hx => hx.1) k1.size
  have hk02 : KpN w w2 := k1.fresh kp2 (fun x hx => hx.1)
  obtain ⟨im, him⟩ : ∃ im, imageD d1 = im := ⟨_, rfl⟩
  rw [him] at ht e1 e2 himl
  have hn1d : d1.n = n := by have := run_n (LA : Int) l 0 0 (newD n); have e := hr1; unfold runD at e; rwa [e] at this
  rw [hn1d] at himl
  have HE := Lib.hid (And.intro ht (And.intro e1 (And.intro e2 (And.intro e3 (And.intro him himl)))))
  have HD2 := Lib.hid hd2.tight
  have HN1 := Lib.hid hn1d
  clear hd2 hg2 kp2 hr1 ht e1 e2 e3 him himl hn1d
  go_wp2_with fail
  refine (image_x HD2.out).mono ?_
  rw [HE.out.2.2.2.2.1]
  rintro e w3 ⟨vi, rfl, oi, k3⟩
  obtain ⟨Ai, ci, rfl, -⟩ := oi.readsB.form
  have HOI := Lib.hid oi.readsB
  have HIb := Lib.hid (fun x (hx : (Value.slice Ai im.length ci).ownBlock = some x) => oi.fit x hx)
  rw [HE.out.2.2.2.2.2] at HOI HIb ⊢
  clear oi
  go_wp2_with fail
  refine (load_x (img := im) HOI.out (by omega)).mono ?_
  rintro e w4 h4
  rw [HE.out.1] at h4
  obtain ⟨gt, rfl, hdt, k4⟩ := h4
  have HDT := Lib.hid hdt.tight
  have hk04 := (hk02.thenN k3).thenN k4
  have HD4 := Lib.hid ((HD2.out.keepN k3).keepN k4)
  have HI4 := Lib.hid (HOI.out.keepN k4)
  clear hdt HD2
  go_wp2_with fail
  refine (image_x HDT.out).mono ?_
  rw [HE.out.2.1]
  rintro e w5 ⟨v5, rfl, o5, k5⟩
  go_wp2_with fail
  refine (Bytes_c o5.readsB (HI4.out.keepN k5) (by rw [HE.out.2.2.2.2.2]; omega)).mono ?_
  rintro e w6 ⟨rfl, k6⟩
  rw [show decide (im = im) = true by simp]
  go_wp2_with fail
  refine (image_x ((HD4.out.keepN k5).keepN k6)).mono ?_
  rw [HE.out.2.2.2.2.1]
  rintro e w7 ⟨v7, rfl, o7, k7⟩
  go_wp2_with fail
  refine (Bytes_c o7.readsB (((HI4.out.keepN k5).keepN k6).keepN k7) (by rw [HE.out.2.2.2.2.2]; omega)).mono ?_
  rintro e w8 ⟨rfl, k8⟩
  rw [show decide (im = im) = true by simp]
  have k48 := ((k5.thenN k6).thenN k7).thenN k8
  have HD8 := Lib.hid (HD4.out.keepN k48)
  have HT8 := Lib.hid (HDT.out.keepN k48)
  have HI8 := Lib.hid (HI4.out.keepN k48)
  have hk08 := hk04.thenN k48
  have hz24 : w2.heap.size ≤ w3.heap.size := k3.size
  have hz34 := k4.size
  have hz48 := k48.size
  clear k5 k6 k7 k8 o5 o7 HDT HD4 HI4 k48
  go_wp2_with fail
  refine (crash_x (A := none) (n := 0) (c := 0) (ch := []) HD8.out (by omega) ⟨rfl, none, 0, rfl, Nat.le_refl _, fun j u hu => by simp at hu⟩ (fun h => absurd rfl h) (by omega)).mono ?_
  rintro e w9 ⟨⟨u9, rfl⟩, hd9, k9⟩
  have HD9 := Lib.hid hd9
  have HT9 := Lib.hid (HT8.out.keep k9 (fun x h1 h2 => by have := h1.1.1; have := h2.2; omega))
  have HI9 := Lib.hid (HI8.out.keep k9 (fun x h1 h2 => by have := (HIb.out x h1).1; have := h2.2; omega))
  have hk09 : KpN w w9 := hk08.fresh k9 (fun x hx => hge2 x hx.1)
  have hz89 := k9.size
  clear hd9 k9
  go_wp2_with fail
  refine (image_x HD9.out).mono ?_
  rw [HE.out.2.2.1]
  rintro e w10 ⟨v10, rfl, o10, k10⟩
  go_wp2_with fail
  refine (Bytes_c o10.readsB (HI9.out.keepN k10) (by rw [HE.out.2.2.2.2.2]; omega)).mono ?_
  rintro e w11 ⟨rfl, k11⟩
  rw [show decide (im = im) = true by simp]
  have k911 := k10.thenN k11
  have HD11 := Lib.hid (HD9.out.keepN k911)
  have HT11 := Lib.hid (HT9.out.keepN k911)
  have HI11 := Lib.hid (HI9.out.keepN k911)
  have hk011 := hk09.thenN k911
  have hz911 := k911.size
  obtain ⟨⟨r2, d2⟩, hr2⟩ : ∃ r, runD (crashD d1 []) m (LB : Int) = r := ⟨_, rfl⟩
  obtain ⟨⟨r3, t2⟩, hr3⟩ : ∃ r, runD t m (LB : Int) = r := ⟨_, rfl⟩
  have heq := EqD.runL (LB : Int) m 0 0 HE.out.2.2.2.1
  have hr2' : runL (LB : Int) m 0 0 (crashD d1 []) = (r2, d2) := hr2
  have hr3' : runL (LB : Int) m 0 0 t = (r3, t2) := hr3
  rw [hr2', hr3'] at heq
  obtain ⟨rfl, heq2⟩ : r2 = r3 ∧ EqD d2 t2 := heq
  have hn2 : d2.n = n := by have := run_n (LB : Int) m 0 0 (crashD d1 []); rw [hr2'] at this; rw [← HN1.out, ← crashD_n d1 []]; exact this
  have HQ := Lib.hid (And.intro heq2 hn2)
  clear o10 k10 k11 k911 HD9 HT9 HI9 HD8 HT8 HI8 heq2 hn2 hr2' hr3'
  go_wp2_with fail
  refine (run_c HD11.out HB.out (by omega) hk011 (fun x hx => hge2 x hx.1) (by omega)).mono ?_
  rw [HLB.out, hr2]
  rintro e w12 ⟨rfl, F12, k12', hk12, hd12, hg12, kp12⟩
  have HT12 := Lib.hid (HT11.out.keep kp12 (fun x h1 h2 => by have := h1.1.1; have := h2.2; omega))
  have HI12 := Lib.hid (HI11.out.keep kp12 (fun x h1 h2 => by have := (HIb.out x h1).1; have := h2.2; omega))
  have hk012 := hk011.fresh kp12 (fun x hx => hge2 x hx.1)
  have hzg : gt < w4.heap.size ∧ True := ⟨HT11.out.fit.1.2, trivial⟩
  have hF12 : ∀ x, Iv w3.heap.size w4.heap.size x → ¬ F12 x := fun x h1 h2 => by
    rcases hg12 x h2 with h | h
    · have := h.2; have := h1.1; omega
    · have := h.1; have := h1.2; omega
  have HF12 := Lib.hid hF12
  have HD12 := Lib.hid hd12
  have hz12 := kp12.size
  clear hd12 hg12 kp12 hr2 hF12
  go_wp2_with fail
  refine (run_c HT12.out HB.out (by omega) hk012 (fun x hx => by have := hx.1.1; have := hk02.size; omega) (by omega)).mono ?_
  rw [HLB.out, hr3]
  rintro e w13 ⟨rfl, F13, k13', hk13, ht13, hg13, kp13⟩
  have HD13 := Lib.hid (HD12.out.keep kp13 (fun x h1 h2 => HF12.out x h2.1 h1))
  have HI13 := Lib.hid (HI12.out.keep kp13 (fun x h1 h2 => by have := (HIb.out x h1).2; have := h2.1.1; omega))
  have hk013 := hk012.fresh kp13 (fun x hx => by have := hx.1.1; have := hk02.size; omega)
  have HT13 := Lib.hid ht13
  clear ht13 hg13 kp13 hr3
  go_wp2_with fail
  refine (dirty_y HD13.out (by omega)).mono ?_
  rintro e w14 ⟨x1, y1, rfl, ox1, oy1, k14⟩
  go_wp2_with fail
  refine (dirty_y (HT13.out.keepN k14) (by omega)).mono ?_
  rw [HQ.out.1.dirtyX]
  rintro e w15 ⟨x2, y2, rfl, ox2, oy2, k15⟩
  have HX1 := Lib.hid (ox1.rd.keepN k15)
  have HY1 := Lib.hid (oy1.rd.keepN k15)
  have HX2 := Lib.hid ox2.rd
  have HY2 := Lib.hid oy2.rd
  have hk015 := (hk013.thenN k14).thenN k15
  have HD15 := Lib.hid ((HD13.out.keepN k14).keepN k15)
  have HT15 := Lib.hid ((HT13.out.keepN k14).keepN k15)
  have HI15 := Lib.hid ((HI13.out.keepN k14).keepN k15)
  clear ox1 oy1 ox2 oy2 k14 k15
  go_wp2_with fail
  go_loopw [16] (fun j wr => ∃ q : Nat, q ≤ n ∧ j = .int .i64 q ∧ KpN w15 wr) (fun j _ => n - (intOf j).toNat)
  case atStart => exact ⟨0, by omega, rfl, Kp.refl _ _⟩
  case round =>
    obtain ⟨q, hq, rfl, hk⟩ := hrel
    have hsec := sectors_x (HD15.out.keepN hk)
    rw [HQ.out.2] at hsec
    by_cases hlt : q < n
    · go_wp2_with fail
      refine hsec.mono ?_
      rintro e wa ⟨rfl, rfl⟩
      go_wp2_with fail
      refine (read_x (i := (q : Int)) (HD15.out.keepN hk) ⟨by omega, by omega⟩).mono ?_
      obtain ⟨⟨rb, re⟩, hrr⟩ : ∃ r, readD d2 (q : Int) = r := ⟨_, rfl⟩
      have hlen : rb.length ≤ 128 := by have := readD_len d2 (q : Int) HD15.out.len HD15.out.clen; rwa [hrr] at this
      rw [hrr]
      rintro e wb ⟨vb, rfl, ob, kb⟩
      go_wp2_with fail
      refine (read_x (i := (q : Int)) ((HT15.out.keepN hk).keepN kb) ⟨by omega, by omega⟩).mono ?_
      rw [← HQ.out.1.read, hrr]
      rintro e wc ⟨vc, rfl, oc, kc⟩
      clear hrr
      go_wp2_with fail
      refine (Bytes_c (ob.readsB.keepN kc) oc.readsB (by omega)).mono ?_
      rintro e wd ⟨rfl, kd⟩
      rw [show decide (rb = rb) = true by simp]
      go_wp2_with fail
      go_roundw
      case rel => exact ⟨q + 1, by omega, by go_num, ((hk.thenN kb).thenN kc).thenN kd⟩
      case measure => exact meas_up hlt
    · have hqn : n = q := by omega
      subst hqn
      go_wp2_with fail
      refine hsec.mono ?_
      rintro e wa ⟨rfl, rfl⟩
      have hdl := dirtyZ_len d2
      have hvl := versZ_len d2
      rw [HQ.out.2] at hdl hvl
      go_wp2_with fail
      refine (Ints_c (HX1.out.keepN hk) (HX2.out.keepN hk) (by omega)).mono ?_
      rintro e wb ⟨rfl, kb⟩
      rw [show decide (dirtyZ d2 = dirtyZ d2) = true by simp]
      go_wp2_with fail
      refine (Ints_c ((HY1.out.keepN hk).keepN kb) ((HY2.out.keepN hk).keepN kb) (by omega)).mono ?_
      rintro e wc ⟨rfl, kc⟩
      rw [show decide (versZ d2 = versZ d2) = true by simp]
      have kk := (hk.thenN kb).thenN kc
      go_wp2_with fail
      refine (image_x (HD15.out.keepN kk)).mono ?_
      rintro e wd ⟨vd, rfl, od, kd⟩
      go_wp2_with fail
      refine (image_x ((HT15.out.keepN kk).keepN kd)).mono ?_
      rw [← HQ.out.1.image]
      rintro e we ⟨ve, rfl, oe, ke⟩
      have himl2 := image_len d2 HD15.out.len
      rw [HQ.out.2] at himl2
      go_wp2_with fail
      refine (Bytes_c (od.readsB.keepN ke) oe.readsB (by omega)).mono ?_
      rintro e wf ⟨rfl, kf⟩
      rw [show decide (imageD d2 = imageD d2) = true by simp]
      have kk2 := ((kk.thenN kd).thenN ke).thenN kf
      have hsec2 := sectors_x (HD15.out.keepN kk2)
      have hsec3 := sectors_x (HT15.out.keepN kk2)
      rw [← HQ.out.1.n] at hsec3
      rw [HQ.out.2] at hsec2 hsec3
      have hcm : (129 : Int) * (n : Int) = ((n * 129 : Nat) : Int) := by omega
      clear himl2 hdl hvl
      go_wp2_with fail
      refine hsec2.mono ?_
      rintro e wg ⟨rfl, rfl⟩
      go_wp2_with fail
      refine hsec3.mono ?_
      rintro e wg ⟨rfl, rfl⟩
      go_wp2_with fail
      refine hsec2.mono ?_
      rintro e wg ⟨rfl, rfl⟩
      go_wp2_with fail
      go_ret
      exact ⟨rfl, hk015.thenN kk2⟩
end Go.Proofs.Ythkbgbbejgpeaaa
