/- The helpers of the statements on disks: span, Bytes, Ints, fill. -/
import Derived.Test.YthkbgbbejgpeaaaDM
import Derived.Laws.BitsAllLaws
namespace Go.Proofs.Ythkbgbbejgpeaaa
open Go Go.RowKit
set_option maxRecDepth 100000

/-- span's answer -/
def spanZ (n lo hi : Int) : Int := lo + (if n < 0 then -(n + 1) else n) % (hi - lo + 1)
theorem spanZ_bd (n lo hi : Int) (h : lo ≤ hi) : lo ≤ spanZ n lo hi ∧ spanZ n lo hi ≤ hi := by
  unfold spanZ
  have h1 := Int.emod_nonneg (if n < 0 then -(n + 1) else n) (b := hi - lo + 1) (by omega)
  have h2 := Int.emod_lt_of_pos (if n < 0 then -(n + 1) else n) (b := hi - lo + 1) (by omega)
  omega
theorem span_c {w : World} {n lo hi : Int} (hn : -9223372036854775808 ≤ n ∧ n ≤ 9223372036854775807) (h0 : 0 ≤ lo) (h1 : lo ≤ hi) (h2 : hi ≤ 1000000000) :
    Calls Try.prog 25 #[.int .i64 n, .int .i64 lo, .int .i64 hi] w fun e w' => e = .returned (.int .i64 (spanZ n lo hi)) ∧ w = w' := by
  have key : ∀ z : Int, 0 ≤ z → z.tmod (hi - lo + 1) = z % (hi - lo + 1) := fun z hz => Int.tmod_eq_emod_of_nonneg hz
  obtain ⟨hn1, hn2⟩ := hn
  by_cases hneg : n < 0
  · obtain ⟨z, hz⟩ : ∃ z, -(n + 1) = z := ⟨_, rfl⟩
    have hz0 : 0 ≤ z := by omega
    have hs : spanZ n lo hi = lo + z % (hi - lo + 1) := by simp [spanZ, hneg, hz]
    have hz2 : z ≤ 9223372036854775807 := by omega
    have hnz : n = -z - 1 := by omega
    have h3 := Int.emod_nonneg z (b := hi - lo + 1) (by omega)
    have h4 := Int.emod_lt_of_pos z (b := hi - lo + 1) (by omega)
    rw [hs]
    obtain ⟨r, hr⟩ : ∃ r, z % (hi - lo + 1) = r := ⟨_, rfl⟩
    obtain ⟨m, hm⟩ : ∃ m, hi - lo + 1 = m := ⟨_, rfl⟩
    have hm0 : 0 < m := by omega
    have hk := key z hz0
    rw [hm] at hr hk h3 h4 ⊢
    rw [hr] at h3 h4 ⊢
    rw [hr] at hk
    have hmn : ¬ m = 0 := by omega
    clear hs hnz
    go_enter Try.func25, Try.ntmps25
    go_wp2
    go_ret
    exact ⟨rfl, rfl⟩
  · have hs : spanZ n lo hi = lo + n % (hi - lo + 1) := by simp [spanZ, hneg]
    have h3 := Int.emod_nonneg n (b := hi - lo + 1) (by omega)
    have h4 := Int.emod_lt_of_pos n (b := hi - lo + 1) (by omega)
    rw [hs]
    obtain ⟨r, hr⟩ : ∃ r, n % (hi - lo + 1) = r := ⟨_, rfl⟩
    obtain ⟨m, hm⟩ : ∃ m, hi - lo + 1 = m := ⟨_, rfl⟩
    have hm0 : 0 < m := by omega
    have hk := key n (by omega)
    rw [hm] at hr hk h3 h4 ⊢
    rw [hr] at h3 h4 ⊢
    rw [hr] at hk
    have hmn : ¬ m = 0 := by omega
    clear hs
    go_enter Try.func25, Try.ntmps25
    go_wp2
    go_ret
    exact ⟨rfl, rfl⟩

theorem RdC.form {w : World} {v : Value} {n : Nat} {cs : List Value} (h : RdC w 1 v n cs) : ∃ A c, v = .slice A n c ∧ n ≤ c := by
  obtain ⟨_, A, c, rfl, hc, _⟩ := h
  exact ⟨A, c, rfl, hc⟩
theorem RdC.cellAt {w : World} {A : Option Addr} {n m c : Nat} {cs : List Value} (h : RdC w 1 (.slice A n c) m cs) (j : Nat) (hj : j < cs.length) : ∃ ad, A = some ad ∧ w.cell? (ad.add j) = some cs[j] := by
  obtain ⟨_, A', c', hv, _, hr⟩ := h
  injection hv with h1 h2 h3
  subst h1
  exact hr j _ (List.getElem?_eq_getElem hj)
/-- are they the same? -/
def SameP (w : World) (b : Bool) (e : Ending) (w' : World) : Prop := e = .returned (.bool b) ∧ KpN w w'
set_option maxHeartbeats 800000 in
theorem Bytes_c {w : World} {va vb : Value} {xs ys : List UInt8} (ha : RdB w va xs) (hb : RdB w vb ys) (hy : ys.length ≤ 1000000000000) :
    Calls Try.prog 23 #[va, vb] w (SameP w (decide (xs = ys))) := by
  obtain ⟨A, ca, rfl, -⟩ := RdC.form ha
  obtain ⟨B, cb, rfl, -⟩ := RdC.form hb
  by_cases hl : xs.length = ys.length
  · obtain ⟨L, hL⟩ : ∃ L, ys.length = L := ⟨_, rfl⟩
    rw [hL] at hl hy hb ⊢
    rw [hl] at ha ⊢
    have HA := Lib.hid ha
    have HB := Lib.hid hb
    have HL := Lib.hid (And.intro hl hL)
    clear ha hb hl hL
    go_enter Try.func23, Try.ntmps23
    go_wp2_with fail
    go_loopw [5] (fun j wr => ∃ q : Nat, q ≤ L ∧ j = .int .i64 q ∧ xs.take q = ys.take q ∧ KpN w wr) (fun j _ => L - (intOf j).toNat)
    case atStart => exact ⟨0, Nat.zero_le _, rfl, rfl, Kp.refl _ _⟩
    case round =>
      obtain ⟨q, hq, rfl, htk, hk⟩ := hrel
      by_cases hlt : q < L
      · have hqx : q < xs.length := by rw [HL.out.1]; exact hlt
        have hqy : q < ys.length := by rw [HL.out.2]; exact hlt
        obtain ⟨a, rfl, h1⟩ := RdC.cellAt (RdC.keepN HA.out hk) q (by simpa [bvs] using hqx)
        obtain ⟨b, rfl, h2⟩ := RdC.cellAt (RdC.keepN HB.out hk) q (by simpa [bvs] using hqy)
        simp only [bvs, List.getElem_map] at h1 h2
        have HTK := Lib.hid htk
        have hstep : xs[q] = ys[q] → xs.take (q + 1) = ys.take (q + 1) := fun e => by
          rw [List.take_succ_eq_append_getElem hqx, List.take_succ_eq_append_getElem hqy, HTK.out, e]
        have hdiff : ¬ xs[q] = ys[q] → ¬ xs = ys := fun h e => h (by simp [e])
        obtain ⟨x, hxx⟩ : ∃ x, xs[q] = x := ⟨_, rfl⟩
        obtain ⟨y, hyy⟩ : ∃ y, ys[q] = y := ⟨_, rfl⟩
        rw [hxx] at h1 hstep hdiff
        rw [hyy] at h2 hstep hdiff
        simp only [bv] at h1 h2
        have hz : x = y ↔ (x.toNat : Int) = (y.toNat : Int) := ⟨fun e => by rw [e], fun e => UInt8.toNat_inj.1 (Int.ofNat_inj.1 e)⟩
        rw [hz] at hstep hdiff
        obtain ⟨X, hX⟩ : ∃ X, (x.toNat : Int) = X := ⟨_, rfl⟩
        obtain ⟨Y, hY⟩ : ∃ Y, (y.toNat : Int) = Y := ⟨_, rfl⟩
        rw [hX] at h1 hstep hdiff
        rw [hY] at h2 hstep hdiff
        clear hz hX hY
        have HS := Lib.hid (And.intro hstep hdiff)
        clear hxx hyy htk hstep hdiff
        go_wp2_with fail
        go_region
        by_cases hxy : X = Y
        · subst hxy
          have hk2 := hk.drewN
          go_wp2
          go_roundw
          case rel => exact ⟨q + 1, by omega, by go_num, HS.out.1 rfl, by first | exact hk2 _ | exact hk.drew | exact hk⟩
          case measure => exact meas_up hlt
        · have hd : decide (xs = ys) = false := by simpa using HS.out.2 hxy
          have HD := Lib.hid hd
          have hk2 := hk.drewN
          clear hd
          go_wp2
          go_ret
          rw [HD.out]
          exact ⟨rfl, by first | exact hk2 _ | exact hk.drew | exact hk⟩
      · have hqL : q = L := by omega
        subst hqL
        have hd : decide (xs = ys) = true := by
          rw [List.take_of_length_le (by rw [HL.out.1]; omega), List.take_of_length_le (by rw [HL.out.2]; omega)] at htk
          simpa using htk
        have HD := Lib.hid hd
        clear hd htk
        go_wp2
        go_ret
        rw [HD.out]
        exact ⟨rfl, hk⟩
  · have hd : decide (xs = ys) = false := by
      simp only [decide_eq_false_iff_not]
      intro e
      exact hl (by rw [e])
    have HD := Lib.hid hd
    obtain ⟨L, hL⟩ : ∃ L, xs.length = L := ⟨_, rfl⟩
    obtain ⟨M, hM⟩ : ∃ M, ys.length = M := ⟨_, rfl⟩
    rw [hL] at hl ⊢
    rw [hM] at hl hy ⊢
    have hlm : ¬ (L : Int) = (M : Int) := by omega
    clear hd ha hb hL hM
    go_enter Try.func23, Try.ntmps23
    go_wp2
    go_ret
    rw [HD.out]
    exact ⟨rfl, Kp.refl _ _⟩
set_option maxHeartbeats 800000 in
theorem Ints_c {w : World} {va vb : Value} {xs ys : List Int} (ha : RdI w va xs) (hb : RdI w vb ys) (hy : ys.length ≤ 1000000000000) :
    Calls Try.prog 35 #[va, vb] w (SameP w (decide (xs = ys))) := by
  obtain ⟨A, ca, rfl, -⟩ := RdC.form ha
  obtain ⟨B, cb, rfl, -⟩ := RdC.form hb
  by_cases hl : xs.length = ys.length
  · obtain ⟨L, hL⟩ : ∃ L, ys.length = L := ⟨_, rfl⟩
    rw [hL] at hl hy hb ⊢
    rw [hl] at ha ⊢
    have HA := Lib.hid ha
    have HB := Lib.hid hb
    have HL := Lib.hid (And.intro hl hL)
    clear ha hb hl hL
    go_enter Try.func35, Try.ntmps35
    go_wp2_with fail
    go_loopw [5] (fun j wr => ∃ q : Nat, q ≤ L ∧ j = .int .i64 q ∧ xs.take q = ys.take q ∧ KpN w wr) (fun j _ => L - (intOf j).toNat)
    case atStart => exact ⟨0, Nat.zero_le _, rfl, rfl, Kp.refl _ _⟩
    case round =>
      obtain ⟨q, hq, rfl, htk, hk⟩ := hrel
      by_cases hlt : q < L
      · have hqx : q < xs.length := by rw [HL.out.1]; exact hlt
        have hqy : q < ys.length := by rw [HL.out.2]; exact hlt
        obtain ⟨a, rfl, h1⟩ := RdC.cellAt (RdC.keepN HA.out hk) q (by simpa using hqx)
        obtain ⟨b, rfl, h2⟩ := RdC.cellAt (RdC.keepN HB.out hk) q (by simpa using hqy)
        simp only [List.getElem_map] at h1 h2
        have HTK := Lib.hid htk
        have hstep : xs[q] = ys[q] → xs.take (q + 1) = ys.take (q + 1) := fun e => by
          rw [List.take_succ_eq_append_getElem hqx, List.take_succ_eq_append_getElem hqy, HTK.out, e]
        have hdiff : ¬ xs[q] = ys[q] → ¬ xs = ys := fun h e => h (by simp [e])
        obtain ⟨x, hxx⟩ : ∃ x, xs[q] = x := ⟨_, rfl⟩
        obtain ⟨y, hyy⟩ : ∃ y, ys[q] = y := ⟨_, rfl⟩
        rw [hxx] at h1 hstep hdiff
        rw [hyy] at h2 hstep hdiff
        have HS := Lib.hid (And.intro hstep hdiff)
        clear hxx hyy htk hstep hdiff
        go_wp2_with fail
        go_region
        by_cases hxy : x = y
        · subst hxy
          have hk2 := hk.drewN
          go_wp2
          go_roundw
          case rel => exact ⟨q + 1, by omega, by go_num, HS.out.1 rfl, by first | exact hk2 _ | exact hk.drew | exact hk⟩
          case measure => exact meas_up hlt
        · have hd : decide (xs = ys) = false := by simpa using HS.out.2 hxy
          have HD := Lib.hid hd
          have hk2 := hk.drewN
          clear hd
          go_wp2
          go_ret
          rw [HD.out]
          exact ⟨rfl, by first | exact hk2 _ | exact hk.drew | exact hk⟩
      · have hqL : q = L := by omega
        subst hqL
        have hd : decide (xs = ys) = true := by
          rw [List.take_of_length_le (by rw [HL.out.1]; omega), List.take_of_length_le (by rw [HL.out.2]; omega)] at htk
          simpa using htk
        have HD := Lib.hid hd
        clear hd htk
        go_wp2
        go_ret
        rw [HD.out]
        exact ⟨rfl, hk⟩
  · have hd : decide (xs = ys) = false := by
      simp only [decide_eq_false_iff_not]
      intro e
      exact hl (by rw [e])
    have HD := Lib.hid hd
    obtain ⟨L, hL⟩ : ∃ L, xs.length = L := ⟨_, rfl⟩
    obtain ⟨M, hM⟩ : ∃ M, ys.length = M := ⟨_, rfl⟩
    rw [hL] at hl ⊢
    rw [hM] at hl hy ⊢
    have hlm : ¬ (L : Int) = (M : Int) := by omega
    clear hd ha hb hL hM
    go_enter Try.func35, Try.ntmps35
    go_wp2
    go_ret
    rw [HD.out]
    exact ⟨rfl, Kp.refl _ _⟩
end Go.Proofs.Ythkbgbbejgpeaaa
