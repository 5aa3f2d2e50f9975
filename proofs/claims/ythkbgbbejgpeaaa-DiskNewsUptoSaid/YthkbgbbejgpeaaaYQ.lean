/- DiskNews: what the call does. -/
import Derived.Test.YthkbgbbejgpeaaaYP
import Derived.Test.YthkbgbbejgpeaaaJE
namespace Go.Proofs.Ythkbgbbejgpeaaa
open Go Go.RowKit
set_option maxRecDepth 100000

theorem none_r0 {w : World} : Calls Try.prog 55 #[.pointer none] w fun e w' => e = .returned (.bool true) ∧ w = w' := by
  go_enter Try.func55, Try.ntmps55
  go_wp2
  go_ret
  exact ⟨rfl, rfl⟩
theorem sectors_r0 {w : World} : Calls Try.prog 31 #[.pointer none] w fun e w' => e = .returned (.int .i64 0) ∧ w = w' := by
  go_enter Try.func31, Try.ntmps31
  go_wp2_with fail
  refine none_r0.mono ?_
  rintro e w2 ⟨rfl, rfl⟩
  go_wp2
  go_ret
  exact ⟨rfl, rfl⟩
theorem image_r0 {w : World} : Calls Try.prog 33 #[.pointer none] w fun e w' => e = .returned (.slice none 0 0) ∧ w = w' := by
  go_enter Try.func33, Try.ntmps33
  go_wp2_with fail
  refine none_r0.mono ?_
  rintro e w2 ⟨rfl, rfl⟩
  go_wp2
  go_ret
  exact ⟨rfl, rfl⟩
theorem startD_clean {img : List UInt8} {s : Int} {d : Dk} (h : startD img s = some d) : dirtyZ d = [] ∧ versZ d = [] ∧ d.off = false := by
  have key : (∀ i, d.ca i = []) ∧ d.off = false := by
    unfold startD at h
    split at h
    · unfold loadD at h
      split at h
      · injection h with h
        subst h
        exact ⟨fun _ => rfl, rfl⟩
      · cases h
    · split at h
      · injection h with h
        subst h
        exact ⟨fun _ => rfl, rfl⟩
      · cases h
  have hd : dirtyD d = [] := by
    unfold dirtyD
    rw [List.filter_eq_nil_iff]
    intro i _
    simp [key.1 i]
  refine ⟨by unfold dirtyZ; rw [hd]; rfl, by unfold versZ; rw [hd]; rfl, key.2⟩
set_option maxHeartbeats 6400000 in
theorem dnews_walk {w : World} {s : Int} {iv : Value} {img : List UInt8} (hs : I64 s) (hi : RdB w iv img) (hil : img.length ≤ 9000000) :
    Calls Try.prog 6 #[.int .i64 s, iv] w (TrueP w) := by
  obtain ⟨iA, ic, rfl, -⟩ := hi.form
  obtain ⟨IL, hIL⟩ : ∃ IL, img.length = IL := ⟨_, rfl⟩
  rw [hIL] at hi hil ⊢
  have HI := Lib.hid hi
  have HIL := Lib.hid hIL
  clear hi hIL
  go_enter Try.func6, Try.ntmps6
  go_wp2_with fail
  go_loopw [5] (fun i wr => (i = .int .i64 0 ∨ i = .int .i64 1 ∨ i = .int .i64 2) ∧ KpN w wr) (fun i _ => 2 - (intOf i).toNat)
  case atStart => exact ⟨.inl rfl, Kp.refl _ _⟩
  case round =>
    obtain ⟨hi, hk⟩ := hrel
    rcases hi with rfl | rfl | rfl
    · have kr := hk.alloc (.cells #[.slice none 0 0, .int .i64 s] 40)
      have hb := both_c (w := (wr.alloc (.cells #[.slice none 0 0, .int .i64 s] 40))) (RdB.nil _) (by simp) hs
      have HB := Lib.hid hb
      clear hb
      go_wp2_with fail
      refine HB.out.mono ?_
      rintro e w3 h3
      rcases hst : startD [] s with _ | d
      · rw [hst] at h3
        obtain ⟨rfl, k3⟩ := h3
        clear hst
        go_wp2_with fail
        refine (dirty_no (p := .pointer none) (.inl rfl)).mono ?_
        rintro e w4 ⟨rfl, rfl⟩
        go_wp2_with fail
        refine (sectors_no (p := .pointer none) (.inl rfl)).mono ?_
        rintro e w4 ⟨rfl, rfl⟩
        go_wp2_with fail
        refine sectors_r0.mono ?_
        rintro e w4 ⟨rfl, rfl⟩
        go_wp2_with fail
        refine (down_no (p := .pointer none) (.inl rfl)).mono ?_
        rintro e w4 ⟨rfl, rfl⟩
        go_wp2_with fail
        refine (image_no (p := .pointer none) (.inl rfl)).mono ?_
        rintro e w4 ⟨rfl, rfl⟩
        go_wp2_with fail
        refine image_r0.mono ?_
        rintro e w4 ⟨rfl, rfl⟩
        go_wp2_with fail
        refine (Bytes_c (RdB.nil _) (RdB.nil _) (by simp)).mono ?_
        rintro e w5 ⟨rfl, k5⟩
        rw [show decide (([] : List UInt8) = []) = true by simp]
        go_wp2_with fail
        go_roundw
        case rel => exact ⟨.inr (.inl rfl), (kr.thenN k3).thenN k5⟩
        case measure => decide
      · rw [hst] at h3
        obtain ⟨F, G, g, r, rfl, ht⟩ := h3
        have hcl := startD_clean hst
        have hn2 := ht.dk.n2
        have hlen := imageD_len d ht.dk.len
        have HCL := Lib.hid (And.intro hcl hlen)
        have HT := Lib.hid ht
        clear hst hcl hlen ht
        go_wp2_with fail
        refine (dirty_y HT.out.dk (by omega)).mono ?_
        rintro e w4 ⟨x4, y4, rfl, ox, oy, k4⟩
        rw [HCL.out.1.1] at ox
        rw [HCL.out.1.2.1] at oy
        obtain ⟨xA, xc, rfl, -⟩ := RdC.form ox.rd
        obtain ⟨yA, yc, rfl, -⟩ := RdC.form oy.rd
        have H4 := Lib.hid (HT.out.keepN k4)
        clear ox oy
        go_wp2_with fail
        refine (sectors_x H4.out.dk).mono ?_
        rintro e w5 ⟨rfl, rfl⟩
        obtain ⟨rb, tv, vv, vs, hr⟩ := H4.out.rf
        have HR := Lib.hid hr
        clear hr
        go_wp2_with fail
        refine (sectors_r HR.out).mono ?_
        rintro e w5 ⟨rfl, rfl⟩
        go_wp2_with fail
        refine (down_x H4.out.dk).mono ?_
        rintro e w5 ⟨rfl, rfl⟩
        rw [HCL.out.1.2.2]
        go_wp2_with fail
        refine (image_x H4.out.dk).mono ?_
        rintro e w5 ⟨u5, rfl, o5, k5⟩
        have HO5 := Lib.hid o5
        clear o5
        go_wp2_with fail
        refine (image_r (HR.out.keepN k5)).mono ?_
        rintro e w6 ⟨u6, rfl, o6, k6⟩
        have HO6 := Lib.hid o6
        clear o6
        go_wp2_with fail
        refine (Bytes_c (HO5.out.readsB.keepN k6) HO6.out.readsB (by rw [HCL.out.2]; omega)).mono ?_
        rintro e w7 ⟨rfl, k7⟩
        rw [show decide (imageD d = imageD d) = true by simp]
        go_wp2_with fail
        go_roundw
        case rel => exact ⟨.inr (.inl rfl), kr.thenN ((((HT.out.kp.thenN k4).thenN k5).thenN k6).thenN k7)⟩
        case measure => decide
    · have kr := hk.alloc (.cells #[.slice iA IL ic, .int .i64 s] 40)
      have hrd := HI.out.keepN kr
      have hb := both_c hrd (by rw [HIL.out]; omega) hs
      have HB := Lib.hid hb
      clear hb hrd
      go_wp2_with fail
      refine HB.out.mono ?_
      rintro e w3 h3
      rcases hst : startD img s with _ | d
      · rw [hst] at h3
        obtain ⟨rfl, k3⟩ := h3
        clear hst
        go_wp2_with fail
        refine (dirty_no (p := .pointer none) (.inl rfl)).mono ?_
        rintro e w4 ⟨rfl, rfl⟩
        go_wp2_with fail
        refine (sectors_no (p := .pointer none) (.inl rfl)).mono ?_
        rintro e w4 ⟨rfl, rfl⟩
        go_wp2_with fail
        refine sectors_r0.mono ?_
        rintro e w4 ⟨rfl, rfl⟩
        go_wp2_with fail
        refine (down_no (p := .pointer none) (.inl rfl)).mono ?_
        rintro e w4 ⟨rfl, rfl⟩
        go_wp2_with fail
        refine (image_no (p := .pointer none) (.inl rfl)).mono ?_
        rintro e w4 ⟨rfl, rfl⟩
        go_wp2_with fail
        refine image_r0.mono ?_
        rintro e w4 ⟨rfl, rfl⟩
        go_wp2_with fail
        refine (Bytes_c (RdB.nil _) (RdB.nil _) (by simp)).mono ?_
        rintro e w5 ⟨rfl, k5⟩
        rw [show decide (([] : List UInt8) = []) = true by simp]
        go_wp2_with fail
        go_roundw
        case rel => exact ⟨.inr (.inr rfl), (kr.thenN k3).thenN k5⟩
        case measure => decide
      · rw [hst] at h3
        obtain ⟨F, G, g, r, rfl, ht⟩ := h3
        have hcl := startD_clean hst
        have hn2 := ht.dk.n2
        have hlen := imageD_len d ht.dk.len
        have HCL := Lib.hid (And.intro hcl hlen)
        have HT := Lib.hid ht
        clear hst hcl hlen ht
        go_wp2_with fail
        refine (dirty_y HT.out.dk (by omega)).mono ?_
        rintro e w4 ⟨x4, y4, rfl, ox, oy, k4⟩
        rw [HCL.out.1.1] at ox
        rw [HCL.out.1.2.1] at oy
        obtain ⟨xA, xc, rfl, -⟩ := RdC.form ox.rd
        obtain ⟨yA, yc, rfl, -⟩ := RdC.form oy.rd
        have H4 := Lib.hid (HT.out.keepN k4)
        clear ox oy
        go_wp2_with fail
        refine (sectors_x H4.out.dk).mono ?_
        rintro e w5 ⟨rfl, rfl⟩
        obtain ⟨rb, tv, vv, vs, hr⟩ := H4.out.rf
        have HR := Lib.hid hr
        clear hr
        go_wp2_with fail
        refine (sectors_r HR.out).mono ?_
        rintro e w5 ⟨rfl, rfl⟩
        go_wp2_with fail
        refine (down_x H4.out.dk).mono ?_
        rintro e w5 ⟨rfl, rfl⟩
        rw [HCL.out.1.2.2]
        go_wp2_with fail
        refine (image_x H4.out.dk).mono ?_
        rintro e w5 ⟨u5, rfl, o5, k5⟩
        have HO5 := Lib.hid o5
        clear o5
        go_wp2_with fail
        refine (image_r (HR.out.keepN k5)).mono ?_
        rintro e w6 ⟨u6, rfl, o6, k6⟩
        have HO6 := Lib.hid o6
        clear o6
        go_wp2_with fail
        refine (Bytes_c (HO5.out.readsB.keepN k6) HO6.out.readsB (by rw [HCL.out.2]; omega)).mono ?_
        rintro e w7 ⟨rfl, k7⟩
        rw [show decide (imageD d = imageD d) = true by simp]
        go_wp2_with fail
        go_roundw
        case rel => exact ⟨.inr (.inr rfl), kr.thenN ((((HT.out.kp.thenN k4).thenN k5).thenN k6).thenN k7)⟩
        case measure => decide
    · go_wp2_with fail
      go_ret
      exact ⟨rfl, hk⟩
end Go.Proofs.Ythkbgbbejgpeaaa
