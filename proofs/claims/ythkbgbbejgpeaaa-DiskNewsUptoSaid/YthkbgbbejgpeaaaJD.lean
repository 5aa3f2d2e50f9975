/- DiskSizes: what the call does. -/
import Derived.Test.YthkbgbbejgpeaaaJC
namespace Go.Proofs.Ythkbgbbejgpeaaa
open Go Go.RowKit
set_option maxRecDepth 100000

theorem newD_image (n : Nat) : imageD (newD n) = markB n (fun _ => false) := by
  unfold imageD markB
  refine rows_cong n (fun i _ => ?_)
  simp [rowI, newD]
theorem image_again (d : Dk) (h1 : 1 ≤ d.n) (h2 : d.n ≤ 65536) (hl : ∀ i, i < d.n → (d.du i).length = 128) : 
    ∃ dk, loadD (imageD d) = some dk ∧ dk.n = d.n ∧ dk.ca = (fun _ => []) ∧ dk.off = false ∧ dk.fuse = -1 ∧ ∀ i, i < d.n → dk.to i = d.to i ∧ dk.du i = (if d.to i then zsec else d.du i) := by
  obtain ⟨dk, h⟩ := load_rows d.n h1 h2 d.to (fun i => if d.to i then zsec else d.du i) (fun i hi => by
    split
    · exact zsec_len
    · exact hl i hi) (fun i hi ht => by simp [ht])
  refine ⟨dk, ?_, h.2⟩
  have e : imageD d = (List.range d.n).flatMap fun i => (if d.to i then 1 else 0) :: (if d.to i then zsec else d.du i) := by
    unfold imageD
    refine rows_cong d.n (fun i _ => ?_)
    unfold rowI
    split <;> rfl
  rw [e]
  exact h.1
theorem image_len (d : Dk) (hl : ∀ i, i < d.n → (d.du i).length = 128) : (imageD d).length = d.n * 129 := rows_length d.n _ (fun i hi => rowI_len d i (hl i hi))
/-- a write that is done -/
theorem write_yes (d : Dk) (i : Nat) (xs : List UInt8) (hi : i < d.n) (hx : xs.length = 128) (ho : d.off = false) (hf : d.fuse = -1) : writeD d (i : Int) xs = (0, { d with ca := upd d.ca i (d.ca i ++ [xs]) }) := by
  have hB : hasB d (i : Int) = true := by simp [hasB]; omega
  have hg : goesD d = (true, d) := by simp [goesD, ho, hf]
  unfold writeD
  rw [if_neg (by simp [hB, hx]), if_neg (by simp [hg]), hg]
  simp
theorem write_no (d : Dk) (i : Int) (xs : List UInt8) (h : i < 0 ∨ (d.n : Int) ≤ i) : writeD d i xs = (1, d) := by
  have hB : hasB d i = false := by simp [hasB]; omega
  unfold writeD
  rw [if_pos (.inl hB)]
theorem read_last (d : Dk) (i : Nat) (xs : List UInt8) (l : List (List UInt8)) (hi : i < d.n) (ho : d.off = false) (hc : d.ca i = l ++ [xs]) : readD d (i : Int) = (xs, 0) := by
  have hB : hasB d (i : Int) = true := by simp [hasB]; omega
  simp [readD, hB, ho, hc]
theorem read_plain (d : Dk) (i : Nat) (hi : i < d.n) (ho : d.off = false) (hc : d.ca i = []) : readD d (i : Int) = if d.to i then ([], 40) else (d.du i, 0) := by
  have hB : hasB d (i : Int) = true := by simp [hasB]; omega
  simp [readD, hB, ho, hc]
/-- what was handed out is apart from what was there ahead of it -/
theorem iv_apart {a b c d : Nat} (h : b ≤ c) : ∀ i, Iv a b i → ¬ Iv c d i := fun i h1 h2 => by have := h1.2; have := h2.1; omega
set_option maxHeartbeats 3200000 in
theorem dsizes_walk {w : World} : Calls Try.prog 5 #[] w fun e w' => e = .returned (.bool true) ∧ KpN w w' := by
  go_enter Try.func5, Try.ntmps5
  go_wp2_with fail
  refine (new_x (n := 65536) (by omega) (by omega)).mono ?_
  rintro e w1 ⟨g, rfl, hd, k1⟩
  obtain ⟨dk, hdk, dn, dca, doff, dfu, -⟩ := image_again (newD 65536) hd.n1 hd.n2 hd.len
  have hlen := image_len (newD 65536) hd.len
  have hbig : loadD (imageD (newD 65536) ++ (imageD (newD 65536)).take 129) = none := by
    unfold loadD
    refine if_neg (fun h => ?_)
    have := h.2.2.1
    rw [List.length_append, List.length_take, hlen] at this
    have e : (newD 65536).n = 65536 := rfl
    rw [e] at this
    omega
  have hn : (newD 65536).n = 65536 := rfl
  rw [hn] at dn hlen
  have HN := Lib.hid hn
  have HI := Lib.hid (And.intro hdk (And.intro dn (And.intro dca (And.intro doff (And.intro dfu hbig)))))
  have hsec := sectors_x hd
  rw [hn] at hsec
  clear hn hdk dn dca doff dfu hbig
  generalize newD 65536 = d0 at *
  have HD := Lib.hid hd
  obtain ⟨img, himg⟩ : ∃ img, imageD d0 = img := ⟨_, rfl⟩
  have HIM := Lib.hid himg
  rw [himg] at hlen
  have HLEN := Lib.hid hlen
  clear hd himg hlen
  go_wp2_with fail
  refine hsec.mono ?_
  rintro e w2 ⟨rfl, rfl⟩
  go_wp2_with fail
  refine (image_x HD.out).mono ?_
  rintro e w2 ⟨v, rfl, o2, k2⟩
  rw [HIM.out] at o2
  obtain ⟨g2, cap2, rfl, hg2, hcap⟩ := o2.form (by rw [HLEN.out]; omega)
  rw [HLEN.out] at o2 hcap ⊢
  have HO2 := Lib.hid o2
  clear o2
  go_wp2_with fail
  refine (load_x (img := img) HO2.out.readsB (by omega)).mono ?_
  rintro e w3 h3
  have hL := HI.out.1
  rw [HIM.out] at hL
  rw [hL] at h3
  obtain ⟨t, rfl, hd3, k3⟩ := h3
  have HD3 := Lib.hid hd3
  clear hd3 hL
  go_wp2_with fail
  refine (fill_c (n := 3) (by omega)).mono ?_
  rintro e w4 ⟨vf, rfl, of, k4⟩
  go_wp2_with fail
  have hof := of.fit
  obtain ⟨d5, hw5, hr5, hn5⟩ : ∃ d5, writeD dk (65535 : Int) (fillB 3) = (0, d5) ∧ readD d5 (65535 : Int) = (fillB 3, 0) ∧ d5.n = 65536 :=
    ⟨_, write_yes dk 65535 (fillB 3) (by rw [HI.out.2.1]; omega) (fillB_len 3) HI.out.2.2.2.1 HI.out.2.2.2.2.1, read_last _ 65535 (fillB 3) [] (by show 65535 < dk.n; rw [HI.out.2.1]; omega) HI.out.2.2.2.1 (by simp only [upd_same]; rw [HI.out.2.2.1]), HI.out.2.1⟩
  have HR5 := Lib.hid (And.intro hr5 hn5)
  clear hr5 hn5
  refine (write_x (i := 65535) (xs := fillB 3) (HD3.out.keepN k4) of.readsB (fun b hb hF => iv_apart (Nat.le_refl _) b hF (hof b hb)) ⟨by omega, by omega⟩ (by omega)).mono ?_
  rw [hw5]
  clear hw5
  rintro e w5 ⟨rfl, F5, k', hk', hd5, hG5, k5⟩
  have hk5 : KpN w w5 := ((((k1.thenN k2).thenN k3).thenN k4)).fresh k5 (fun i hi => by have := hi.1; have := k1.size; have := k2.size; omega)
  have HD5 := Lib.hid hd5
  have HO5 := Lib.hid (((HO2.out.keepN k3).keepN k4).keep k5 (fun i h1 h2 => iv_apart (Nat.le_refl _) i h1 h2))
  have HG5 := Lib.hid hG5
  clear hd5 hG5
  go_wp2_with fail
  refine (read_x (i := 65535) HD5.out ⟨by omega, by omega⟩).mono ?_
  rw [HR5.out.1]
  rintro e w6 ⟨u6, rfl, o6, k6⟩
  have HO6 := Lib.hid (HO5.out.keepN k6)
  obtain ⟨v7, w7, r7, o7, k7, hat7⟩ := run_appB (P := Try.prog) (ty := 28) w6 Try.underlying28 u8info HO6.out (HO6.out.readsB.take 129 (by omega)) (by rw [HLEN.out, List.length_take, HLEN.out]; omega)
  obtain ⟨big, hbg⟩ : ∃ big, img ++ img.take 129 = big := ⟨_, rfl⟩
  have hbl : big.length ≤ 1000000000 := by rw [← hbg, List.length_append, List.length_take, HLEN.out]; omega
  have hb := HI.out.2.2.2.2.2
  rw [HIM.out, hbg] at hb
  have HB := Lib.hid hb
  rw [hbg] at o7
  clear hbg
  obtain ⟨A7, c7, rfl, -⟩ := o7.readsB.form
  have HO7 := Lib.hid o7
  have hk07 : KpN w w7 := (hk5.thenN k6).fresh k7 (fun i e => by have e : g2 = i := Option.some.inj e; have := hg2.1; have := k1.size; omega)
  have HD7 := Lib.hid ((HD5.out.keepN k6).keep k7 (fun i hF e => by
    have e : g2 = i := Option.some.inj e
    have h1 := hg2.2
    have h2 := k3.size
    have h3 := k4.size
    rcases HG5.out i hF with h | h
    · have := h.1; omega
    · have := h.1; omega))
  clear o7 hb hat7
  go_wp2_with (refine app_op r7 rfl rfl ?_)
  refine (load_x HO7.out.readsB hbl).mono ?_
  rintro e w8 h8
  rw [HB.out] at h8
  obtain ⟨rfl, k8⟩ := h8
  go_wp2_with fail
  refine (dnew_bad (n := 65537) (.inr (by omega))).mono ?_
  rintro e w9 ⟨rfl, rfl⟩
  go_wp2_with fail
  refine (fill_c (n := 3) (by omega)).mono ?_
  rintro e w10 ⟨v10, rfl, o10, k10⟩
  have h6b := (((o6.readsB.keep k7 (fun i h e => by
    have e : g2 = i := Option.some.inj e
    have h1 := hg2.2
    have h2 := (o6.fit i h).1
    have h3 := k3.size
    have h4 := k4.size
    have h5 := k5.size
    omega)).keepN k8).keepN k10)
  go_wp2_with fail
  refine (Bytes_c h6b o10.readsB (by rw [fillB_len]; omega)).mono ?_
  rintro e w11 ⟨rfl, k11⟩
  rw [show decide (fillB 3 = fillB 3) = true by simp]
  go_wp2_with fail
  refine (fill_c (n := 3) (by omega)).mono ?_
  rintro e w12 ⟨v12, rfl, o12, k12⟩
  have hd12 := (((HD7.out.keepN k8).keepN k10).keepN k11).keepN k12
  have hf12 := o12.fit
  have hsz : w7.heap.size ≤ w11.heap.size := by have := k8.size; have := k10.size; have := k11.size; omega
  have hlt5 : ∀ b, F5 b → b < w5.heap.size := fun b hb => by
    have h3 := k4.size
    have h4 := k5.size
    rcases HG5.out b hb with h | h
    · have := h.2; omega
    · exact h.2
  go_wp2_with fail
  refine (write_x (i := 65536) (xs := fillB 3) hd12 o12.readsB (fun b hb hF => by have := (hf12 b hb).1; have := hlt5 b hF; have := k6.size; have := k7.size; omega) ⟨by omega, by omega⟩ (by omega)).mono ?_
  rw [write_no d5 65536 (fillB 3) (.inr (by rw [HR5.out.2]; omega))]
  rintro e w13 ⟨rfl, F13, k13', hk13', hd13, hG13, k13⟩
  go_wp2_with fail
  go_ret
  refine ⟨rfl, ?_⟩
  exact ((((hk07.thenN k8).thenN k10).thenN k11).thenN k12).fresh k13 (fun i hi => by
    have h1 := k1.size
    have h2 := k2.size
    have h3 := k3.size
    have h4 := k4.size
    rcases HG5.out i hi with h | h
    · have := h.1; omega
    · have := h.1; omega)
end Go.Proofs.Ythkbgbbejgpeaaa
