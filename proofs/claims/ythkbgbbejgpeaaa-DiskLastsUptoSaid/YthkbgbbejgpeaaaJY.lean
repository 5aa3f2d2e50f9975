/- DiskPicks, DiskDirties: what the calls do. -/
import Derived.Test.YthkbgbbejgpeaaaJW
namespace Go.Proofs.Ythkbgbbejgpeaaa
open Go Go.RowKit
set_option maxRecDepth 100000

theorem KS.lens {w0 w : World} {F B : Nat → Prop} {kb g k : Nat} {d : Dk} {mv : Value} {ls : List (Value × List Int)} {next : Nat} (h : KS w0 w F B kb g k d mv ls next) : ∀ l ∈ ls, 0 < l.2.length ∧ l.2.length ≤ k + 1 := fun l hl => by
  obtain ⟨j, hj, rfl⟩ := List.mem_iff_getElem.1 hl
  have hj' : j < (ls.map Prod.snd).length := by simpa using hj
  have hE := h.ok.each j hj'
  have h3 := hE.ca_len
  have h4 := h.dk.cnt j (by have := h.ls_len; omega)
  have h5 := hE.pos
  simp at h3 h5
  exact ⟨h5, by omega⟩
/-- the loop over a script -/
def PickRel (w : World) (kb g n : Nat) (L : Nat) (i : Value) (wr : World) : Prop := ∃ (q : Nat) (F B : Nat → Prop) (k : Nat) (d : Dk) (mv : Value) (ls : List (Value × List Int)) (next : Nat), q ≤ L ∧ i = .int .i64 q ∧ k ≤ q ∧ next ≤ q + 1 ∧ d.n = n ∧ KS w wr F B kb g k d mv ls next
theorem PickRel.at_ {w : World} {kb g n L q : Nat} {wr : World} (h : PickRel w kb g n L (.int .i64 (q : Int)) wr) : ∃ (F B : Nat → Prop) (k : Nat) (d : Dk) (mv : Value) (ls : List (Value × List Int)) (next : Nat), q ≤ L ∧ k ≤ q ∧ next ≤ q + 1 ∧ d.n = n ∧ KS w wr F B kb g k d mv ls next := by
  obtain ⟨q', F, B, k, d, mv, ls, next, h1, h2, h3⟩ := h
  obtain rfl : q = q' := by injection h2 with _ h; omega
  exact ⟨F, B, k, d, mv, ls, next, h1, h3⟩
/-- a script's step: its cells, and the step's contract -/
theorem step_at {w wr : World} {F B : Nat → Prop} {kb g k : Nat} {d : Dk} {mv : Value} {ls : List (Value × List Int)} {next : Nat} {A : Option Addr} {L c : Nat} {l : List Stp} (h : KS w wr F B kb g k d mv ls next) (hk : k ≤ 100000000) (hnx : next ≤ 100000000) (hl : RdSteps w (.slice A L c) l) (hls : stepsSize l ≤ 2000000) (q : Nat) (hq : q < l.length) :
    ∃ ad Do At Ac n cc, A = some ad ∧ RowAt wr (ad.add (q * 3)) [.int .i64 Do, .int .i64 At, .slice Ac n cc] ∧ l[q].1 = Do ∧ Calls Try.prog 38 #[ptrD kb, .agg #[.int .i64 Do, .int .i64 At, .slice Ac n cc]] wr (StepK w kb g k next d.n) := by
  obtain ⟨ad, cs, rfl, -, hrow, ⟨⟨cv, rfl, hcv⟩, hs1, hs2, hs3⟩⟩ := hl.row q hq
  obtain ⟨Ac, cc, rfl, -⟩ := RdC.form hcv
  have hsz := stepsSize_mem l l[q] (List.getElem_mem hq)
  exact ⟨ad, _, _, _, _, _, rfl, hrow.keepN h.kp, rfl, step_c h hk hnx hs2 hcv hs3 (by omega)⟩
set_option maxHeartbeats 3200000 in
theorem dpicks_walk {w : World} {sectors : Int} {va : Value} {l : List Stp} (hs : I64 sectors) (ha : RdSteps w va l) (hla : stepsSize l ≤ 2000000) :
    Calls Try.prog 8 #[.int .i64 sectors, va] w fun e w' => e = .returned (.bool true) ∧ KpN w w' := by
  obtain ⟨Aa, ca, rfl, -⟩ := SlAt.form ha
  obtain ⟨n, hn, hn1, hn2⟩ := span_nat (n := sectors) (lo := 1) (hi := 65536) (by omega) (by omega)
  have hll := stepsSize_len l
  obtain ⟨L, hL⟩ : ∃ L, l.length = L := ⟨_, rfl⟩
  rw [hL] at ha hll ⊢
  have HA := Lib.hid ha
  have HL := Lib.hid hL
  have HN := Lib.hid hn
  clear ha hL hn
  go_enter Try.func8, Try.ntmps8
  go_wp2_with fail
  refine (begin_c hs HN.out (by omega) (by omega)).mono ?_
  rintro e w1 ⟨kb, g, mv, ls, F, B, rfl, hks⟩
  have HK := Lib.hid hks
  clear hks
  go_wp2_with fail
  refine (present_c HK.out (by omega) (fun l hl => by have := (HK.out.lens l hl).2; omega)).mono ?_
  rintro e w2 ⟨rfl, k2⟩
  have HK2 := Lib.hid (HK.out.keepN k2)
  clear HK k2
  go_wp2_with fail
  go_loopw [7] (fun i wr => PickRel w kb g n L i wr) (fun i _ => L - (intOf i).toNat)
  case atStart => exact ⟨0, _, _, _, _, _, _, _, Nat.zero_le _, rfl, Nat.le_refl _, Nat.le_refl _, rfl, HK2.out⟩
  case round =>
    clear HK2
    obtain ⟨q, F, B, k, d, mv, ls, next, hq, rfl, hkq, hnq, hdn, hks⟩ := hrel
    by_cases hlt : q < L
    · have hql : q < l.length := by rw [HL.out]; exact hlt
      obtain ⟨ad, Do, At, Ac, nn, cc, rfl, hrow, hDo, hstep⟩ := step_at hks (by omega) (by omega) HA.out hla q hql
      have c0 := hrow.c0
      have c1 := hrow.fld 0 rfl
      have c2 := hrow.fld 1 rfl
      have HST := Lib.hid hstep
      have HROW := Lib.hid (And.intro ((HA.out.row q hql)) (And.intro hDo hdn))
      clear hks hstep hDo hdn
      go_wp2_with fail
      refine HST.out.mono ?_
      rintro e w3 ⟨rfl, F3, B3, k3, d3, mv3, ls3, next3, hk3, hn3, hd3, hks3⟩
      have hc0 : w3.cell? (ad.add (q * 3)) = some (.int .i64 Do) := by
        obtain ⟨ad', cs', ha', -, hr', ⟨⟨cv', rfl, -⟩, -⟩⟩ := HROW.out.1
        injection ha' with ha'
        subst ha'
        have := (hr'.keepN hks3.kp).c0
        rw [HROW.out.2.1] at this
        exact this
      have hd3n : d3.n = n := by rw [hd3]; exact HROW.out.2.2
      have HK3 := Lib.hid hks3
      clear c0 c1 c2 hrow hks3 hd3
      by_cases h3 : Do = 3
      · subst h3
        go_wp2_with fail
        refine (present_c HK3.out (by omega) (fun l hl => by have := (HK3.out.lens l hl).2; omega)).mono ?_
        rintro e w4 ⟨rfl, k4⟩
        go_wp2_with fail
        go_roundw
        case rel => exact ⟨q + 1, _, _, _, _, _, _, _, by omega, by go_num, by omega, by omega, hd3n, HK3.out.keepN k4⟩
        case measure => exact meas_up hlt
      · go_wp2_with fail
        go_roundw
        case rel => exact ⟨q + 1, _, _, _, _, _, _, _, by omega, by go_num, by omega, by omega, hd3n, HK3.out⟩
        case measure => exact meas_up hlt
    · have HK3 := Lib.hid hks
      clear hks
      go_wp2_with fail
      refine (present_c HK3.out (by omega) (fun l hl => by have := (HK3.out.lens l hl).2; omega)).mono ?_
      rintro e w4 ⟨rfl, k4⟩
      go_wp2_with fail
      go_ret
      exact ⟨rfl, (HK3.out.keepN k4).kp⟩
end Go.Proofs.Ythkbgbbejgpeaaa
