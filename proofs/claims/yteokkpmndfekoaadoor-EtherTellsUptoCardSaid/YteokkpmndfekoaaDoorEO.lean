/- EtherCalls: a step: Put. -/
import Derived.Test.YteokkpmndfekoaaDoorEN2
namespace Go.Proofs.YteokkpmndfekoaaDoor
open Go Go.RowKit
set_option maxRecDepth 100000

set_option maxHeartbeats 3200000 in
theorem step_put {w0 w : World} {F G : Nat → Prop} {g r n : Nat} {st : List (List UInt8 × Bool)} (h : TwoW w0 w F G g r n st st) {A : Option Addr} {L c : Nat} {i at_ m : Int} {bs : List UInt8} (hr : RdB w0 (.slice A L c) bs) (hL : L ≤ 10000000) :
    Calls Tryd.prog 18 #[.pointer (some ⟨g, 0, none⟩), .pointer (some ⟨r, 0, none⟩), .agg #[.int .i64 1, .slice A L c, .int .i64 i, .int .i64 at_, .int .u32 m]] w (StepP w0 w g r n) := by
  have kb := (Kp.refl (fun _ => False) w).alloc (.cells #[.int .i64 1, .slice A L c, .int .i64 i, .int .i64 at_, .int .u32 m] 49)
  have bx := OpBox.made w 1 (.slice A L c) i at_ m 49
  have b0 := bx.c0
  have H1 := Lib.hid (h.keepN kb)
  have hoS : ¬ (F w.heap.size ∨ G w.heap.size) := fun e => by
    rcases e with e | e
    · have := (h.fl _ e).2; omega
    · have := (h.gl _ e).2; omega
  have BX := Lib.hid bx
  clear h bx
  obtain ⟨o, ho⟩ : ∃ o, w.heap.size = o := ⟨_, rfl⟩
  rw [ho] at hoS BX b0
  obtain ⟨w1, hw1⟩ : ∃ w1, w.alloc (.cells #[.int .i64 1, .slice A L c, .int .i64 i, .int .i64 at_, .int .u32 m] 49) = w1 := ⟨_, rfl⟩
  have HW1 := Lib.hid hw1
  have HO := Lib.hid ho
  rw [hw1] at kb H1 BX b0
  clear hw1 ho
  have b1 := BX.out.c1
  have HRL := Lib.hid (And.intro hr.len hr)
  clear hr
  go_enter Tryd.func18, Tryd.ntmps18
  go_wp2_with (first | ((with_reducible show wpList _ _ _ _ _ (World.alloc w _)); rw [HW1.out, HO.out]) | fail)
  refine (bytes_c (HRL.out.2.keepN H1.out.kp) (by have := HRL.out.1; omega)).mono ?_
  rintro e w2 ⟨u, rfl, mk, iu, k2⟩
  obtain ⟨gb, rfl, -⟩ := id mk
  have hgb := iu gb rfl
  have t2 := H1.out.keepN k2
  have bx2 := BX.out.keep k2 (fun x => x)
  have hrb := mk.rd
  rw [← HRL.out.1] at hrb ⊢
  have HM := Lib.hid mk
  have hP := way_put t2.p hrb (by omega)
  have hz2 := k2.size
  clear b1 mk iu hrb
  go_wp2_with fail
  refine hP.mono ?_
  rintro e w3 ⟨rfl, F3, hX3, hG3, k3⟩
  have t3 := t2.left hX3 hG3 k3
  have b13 := (bx2.keep k3 (fun e => hoS (.inl e))).c1
  have hE := eput_c t3.q (HRL.out.2.keepN t3.kp) (by omega)
  have hz3 := k3.size
  have hgF : ∀ x, F3 x → ¬ x = gb := fun x hx e => by
    rcases hG3 x hx with hh | hh
    · have := (H1.out.fl x hh).2; have := hgb.1; omega
    · have := hh.1; have := hgb.2; omega
  have hgF0 : ∀ b, (Value.slice (some ⟨gb, 0, none⟩) L (L + 4)).ownBlock = some b → ¬ F b := fun b hb hf => by
    obtain rfl : gb = b := Option.some.inj hb
    have := (H1.out.fl _ hf).2; have := hgb.1; omega
  have hgG0 : ∀ b, (Value.slice (some ⟨gb, 0, none⟩) L (L + 4)).ownBlock = some b → ¬ G b := fun b hb hf => by
    obtain rfl : gb = b := Option.some.inj hb
    have := (H1.out.gl _ hf).2; have := hgb.1; omega
  clear hP t2
  generalize ((putS n st bs).1 : Int) = z at *
  go_wp2_with fail
  refine hE.mono ?_
  rintro e w4 ⟨rfl, G4, hX4, hG4, k4⟩
  have t4 := t3.right hX4 hG4 k4
  have b14 := ((bx2.keep k3 (fun e => hoS (.inl e))).keep k4 (fun e => hoS (.inr e))).c1
  have hgG : ∀ x, G4 x → ¬ x = gb := fun x hx e => by
    rcases hG4 x hx with hh | hh
    · have := (H1.out.gl x hh).2; have := hgb.1; omega
    · have := hh.1; have := hgb.2; omega
  have mk4 : MkB w4 (.slice (some ⟨gb, 0, none⟩) L (L + 4)) bs := by
    have := HM.out
    rw [← HRL.out.1] at this
    exact (this.keep k3 hgF0).keep k4 hgG0
  have hS := stays_c mk4 (HRL.out.2.keepN t4.kp) (by have := HRL.out.1; omega)
  obtain ⟨g', hv', hob⟩ := mk4
  injection hv' with e1 e2 e3
  clear e2 e3
  injection e1 with e1
  injection e1 with e1
  subst e1
  rw [← HRL.out.1] at hob
  clear b13 hE hX4 hG4 hX3 hG3
  go_wp2_with fail
  refine hS.mono ?_
  rintro e w5 ⟨rfl, k5⟩
  have HT := Lib.hid (And.intro (t4.keepN k5) (And.intro (hob.keepN k5) (And.intro hgF hgG)))
  clear t4 hob hgF hgG t3 hS b14
  go_wp2_with fail
  go_loopw [10] (fun i wr => ∃ q : Nat, q ≤ L ∧ i = .int .i64 q ∧ w.heap.size ≤ wr.heap.size ∧ TwoW w0 wr F3 G4 g r n (putS n st bs).2 (putS n st bs).2 ∧ (∃ ys : List UInt8, ys.length = L + 4 ∧ OwB wr 5 (fun b => b = gb) (.slice (some ⟨gb, 0, none⟩) (L + 4) (L + 4)) ys)) (fun i _ => L - (intOf i).toNat)
  case atStart => exact ⟨0, Nat.zero_le _, rfl, by have := kb.size; have := k4.size; have := k5.size; omega, HT.out.1, bs ++ m4, by rw [List.length_append, ← HRL.out.1]; rfl, HT.out.2.1⟩
  case round =>
    obtain ⟨q, hq, rfl, hsz, ht, ys, hys, ho⟩ := hrel
    by_cases hlt : q < L
    · have hc := ho.byteAt hys.symm q (by omega)
      have hf := ho.frozenAt q
      have ho2 := ho.putB hys.symm q 90
      have ks : Kp (fun k => k = gb) wr (wr.setCell ⟨gb, q, none⟩ (bv 90)) := (Kp.refl (fun k => k = gb) wr).setCell (p := ⟨gb, q, none⟩) (.inl rfl) _
      have hyl : (ys.set q 90).length = L + 4 := by rw [List.length_set]; exact hys
      have ht2 := ht.keep ks HT.out.2.2.1 HT.out.2.2.2 (fun x hx => by have := H1.out.kp.size; have := hgb.1; omega)
      have HSZ := Lib.hid (show w.heap.size ≤ (wr.setCell ⟨gb, q, none⟩ (.int .u8 90)).heap.size by simpa using hsz)
      have HN := Lib.hid (And.intro ht2 (And.intro hyl ho2))
      have hb90 : bv 90 = .int .u8 90 := rfl
      rw [hb90] at HN
      have hq4 : q < L + 4 := by omega
      generalize ys[q]'(by omega) = y at *
      clear ho ho2 ks hyl ht2 hys hb90 ht
      simp only [bv] at hc
      go_wp2
      go_roundw
      case rel => exact ⟨q + 1, by omega, by go_num, HSZ.out, HN.out.1, _, HN.out.2.1, HN.out.2.2⟩
      case measure => exact meas_up hlt
    · have HN := Lib.hid ht
      clear ho hys ht
      go_wp2
      go_ret
      exact ⟨rfl, hsz, F3, G4, _, HN.out⟩
end Go.Proofs.YteokkpmndfekoaaDoor
