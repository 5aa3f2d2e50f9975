/- Steps on disks that are alike; the fuse: the plain law. -/
import Derived.Test.YthkbgbbejgpeaaaJH
namespace Go.Proofs.Ythkbgbbejgpeaaa
open Go Go.RowKit
set_option maxRecDepth 100000

/-- alike, as far as the sectors go -/
structure EqD (d e : Dk) : Prop where
  n : d.n = e.n
  du : ∀ i, i < d.n → d.du i = e.du i
  tn : ∀ i, i < d.n → d.to i = e.to i
  ca : ∀ i, i < d.n → d.ca i = e.ca i
  off : d.off = e.off
  fuse : d.fuse = e.fuse
theorem EqD.refl (d : Dk) : EqD d d := ⟨rfl, fun _ _ => rfl, fun _ _ => rfl, fun _ _ => rfl, rfl, rfl⟩
theorem EqD.hasB {d e : Dk} (h : EqD d e) (i : Int) : hasB d i = hasB e i := by unfold Proofs.Ythkbgbbejgpeaaa.hasB; rw [h.n]
theorem EqD.goes {d e : Dk} (h : EqD d e) : (goesD d).1 = (goesD e).1 ∧ EqD (goesD d).2 (goesD e).2 := by
  unfold goesD
  rw [h.off, h.fuse]
  split
  · exact ⟨rfl, h⟩
  · split
    · exact ⟨rfl, h.n, h.du, h.tn, h.ca, rfl, rfl⟩
    · split
      · exact ⟨rfl, h.n, h.du, h.tn, h.ca, rfl, rfl⟩
      · exact ⟨rfl, h⟩
theorem EqD.write {d e : Dk} (h : EqD d e) (i : Int) (xs : List UInt8) : (writeD d i xs).1 = (writeD e i xs).1 ∧ EqD (writeD d i xs).2 (writeD e i xs).2 := by
  unfold writeD
  rw [h.hasB]
  split
  · exact ⟨rfl, h⟩
  · rename_i hc
    have hg := h.goes
    rw [hg.1]
    split
    · exact ⟨rfl, hg.2⟩
    · have hB : Proofs.Ythkbgbbejgpeaaa.hasB e i = true := by
        cases hq : Proofs.Ythkbgbbejgpeaaa.hasB e i
        · exact absurd (.inl hq) hc
        · rfl
      have hin : i.toNat < d.n := by
        simp [Proofs.Ythkbgbbejgpeaaa.hasB] at hB
        have := h.n
        omega
      refine ⟨rfl, hg.2.n, hg.2.du, hg.2.tn, fun j hj => ?_, hg.2.off, hg.2.fuse⟩
      have hj' : j < (goesD d).2.n := hj
      by_cases hji : j = i.toNat
      · subst hji
        simp only [upd_same]
        rw [hg.2.ca _ hj']
      · simp only [upd_ne _ _ hji]
        exact hg.2.ca j hj'
theorem EqD.flush {d e : Dk} (h : EqD d e) : (flushD d).1 = (flushD e).1 ∧ EqD (flushD d).2 (flushD e).2 := by
  unfold flushD
  have hg := h.goes
  rw [hg.1]
  split
  · exact ⟨rfl, hg.2⟩
  · refine ⟨rfl, hg.2.n, fun i hi => ?_, fun i hi => ?_, fun i _ => rfl, hg.2.off, hg.2.fuse⟩
    · have hi' : i < (goesD d).2.n := hi
      simp only [bareD, flushI, hg.2.ca i hi', hg.2.du i hi', hg.2.n]
    · have hi' : i < (goesD d).2.n := hi
      simp only [bareD, flushI, hg.2.ca i hi', hg.2.tn i hi', hg.2.n]
theorem EqD.rank {d e : Dk} (h : EqD d e) (j : Nat) (hj : j ≤ d.n) : rankD d j = rankD e j := by
  unfold rankD
  congr 1
  apply List.filter_congr
  intro i hi
  have hij : i < j := by simpa using hi
  rw [h.ca i (by omega)]
theorem EqD.dirty {d e : Dk} (h : EqD d e) : dirtyD d = dirtyD e := by
  unfold dirtyD
  rw [← h.n]
  apply List.filter_congr
  intro i hi
  rw [h.ca i (by simpa using hi)]
theorem EqD.crash {d e : Dk} (h : EqD d e) (ch : List Int) : EqD (crashD d ch) (crashD e ch) := by
  have hn : (crashD d ch).n = d.n := crashD_n d ch
  have key : ∀ i, i < d.n → ((crashD d ch).du i, (crashD d ch).to i) = ((crashD e ch).du i, (crashD e ch).to i) := fun i hi => by
    rw [crash_at d ch i hi, crash_at e ch i (by rw [← h.n]; exact hi), h.rank i (by omega)]
    unfold effD
    rw [h.ca i hi, h.du i hi, h.tn i hi]
  refine ⟨by rw [crashD_n, crashD_n]; exact h.n, fun i hi => ?_, fun i hi => ?_, fun i _ => rfl, rfl, rfl⟩
  · exact (Prod.mk.inj (key i (by omega))).1
  · exact (Prod.mk.inj (key i (by omega))).2
theorem EqD.step {d e : Dk} (h : EqD d e) (s : Stp) (i : Nat) : (stepD d s i).1 = (stepD e s i).1 ∧ EqD (stepD d s i).2 (stepD e s i).2 := by
  unfold stepD
  rw [h.n]
  split
  · exact h.write _ _
  · split
    · exact h.flush
    · split
      · exact ⟨rfl, h.crash _⟩
      · exact ⟨rfl, h⟩
theorem EqD.runL (most : Int) : ∀ (l : List Stp) (i done : Nat) {d e : Dk}, EqD d e → (runL most l i done d).1 = (Proofs.Ythkbgbbejgpeaaa.runL most l i done e).1 ∧ EqD (Proofs.Ythkbgbbejgpeaaa.runL most l i done d).2 (Proofs.Ythkbgbbejgpeaaa.runL most l i done e).2
  | [], _, _, _, _, h => ⟨rfl, h⟩
  | s :: r, i, done, d, e, h => by
    unfold Proofs.Ythkbgbbejgpeaaa.runL
    split
    · have hs := h.step s i
      rw [hs.1]
      exact EqD.runL most r _ _ hs.2
    · exact ⟨rfl, h⟩
theorem EqD.read {d e : Dk} (h : EqD d e) (i : Int) : readD d i = readD e i := by
  unfold readD
  rw [h.hasB, h.off]
  split
  · rfl
  · rename_i hB
    split
    · rfl
    · have hin : i.toNat < d.n := by
        simp [Proofs.Ythkbgbbejgpeaaa.hasB] at hB
        have := h.n
        omega
      rw [h.ca _ hin, h.tn _ hin, h.du _ hin]
theorem EqD.image {d e : Dk} (h : EqD d e) : imageD d = imageD e := by
  unfold imageD
  rw [← h.n]
  refine rows_cong d.n (fun i hi => ?_)
  unfold rowI
  rw [h.tn i hi, h.du i hi]
/-- a run keeps what is unreadable zeros -/
theorem step_ok {d : Dk} (h : OkD d) (s : Stp) (i : Nat) : OkD (stepD d s i).2 := by
  unfold stepD
  split
  · exact write_ok _ _ h
  · split
    · exact flush_ok h
    · split
      · exact crash_ok d _ h
      · exact h
theorem run_ok (most : Int) : ∀ (l : List Stp) (i done : Nat) {d : Dk}, OkD d → OkD (runL most l i done d).2
  | [], _, _, _, h => h
  | s :: r, i, done, d, h => by
    unfold runL
    split
    · exact run_ok most r _ _ (step_ok h s i)
    · exact h
theorem run_n (most : Int) : ∀ (l : List Stp) (i done : Nat) (d : Dk), (runL most l i done d).2.n = d.n
  | [], _, _, _ => rfl
  | s :: r, i, done, d => by
    unfold runL
    split
    · rw [run_n most r, step_n]
    · rfl
/-- a crash without choices leaves what is durable -/
theorem crash_none (d : Dk) (i : Nat) (hi : i < d.n) : (crashD d []).du i = d.du i ∧ (crashD d []).to i = d.to i := by
  have := crash_at d [] i hi
  simp only [List.getD_nil, effD, or_true, if_true] at this
  exact Prod.mk.inj this
/-- a disk behind a crash, and one that is loaded from its image -/
theorem same_law (d : Dk) (h1 : 1 ≤ d.n) (h2 : d.n ≤ 65536) (hl : ∀ i, i < d.n → (d.du i).length = 128) (hok : OkD d) : ∃ t, loadD (imageD d) = some t ∧ imageD t = imageD d ∧ imageD (crashD d []) = imageD d ∧ EqD (crashD d []) t := by
  obtain ⟨t, ht, tn, tca, toff, tfu, tto⟩ := image_again d h1 h2 hl
  refine ⟨t, ht, (image_load ht).1, ?_, ⟨by rw [crashD_n, tn], fun i hi => ?_, fun i hi => ?_, fun i _ => by rw [tca]; rfl, by rw [toff]; rfl, by rw [tfu]; rfl⟩⟩
  · unfold imageD
    rw [crashD_n]
    refine rows_cong d.n (fun i hi => ?_)
    have := crash_none d i hi
    unfold rowI
    rw [this.1, this.2]
  · rw [crashD_n] at hi
    rw [(crash_none d i hi).1, (tto i hi).2]
    by_cases htn : d.to i = true
    · rw [if_pos htn]; exact hok i hi htn
    · rw [if_neg htn]
  · rw [crashD_n] at hi
    rw [(crash_none d i hi).2, (tto i hi).1]
/-! the fuse -/
/-- a Write or a Flush -/
def OpS (s : Stp) : Prop := s.1 = 0 ∨ s.1 = 1 ∨ s.1 = 2
def withF (d : Dk) (off : Bool) (f : Int) : Dk := ⟨d.n, d.du, d.to, d.ca, off, f⟩
theorem withF_self (d : Dk) (h : d.off = false) (hf : d.fuse = -1) : withF d false (-1) = d := by
  obtain ⟨a, b, c, e, o, f⟩ := d
  simp only at h hf
  subst h hf
  rfl
/-- a step that is done, with a fuse and without -/
theorem step_fuse (b : Dk) (s : Stp) (i : Nat) (hs : OpS s) (hn : 1 ≤ b.n) (ho : b.off = false) (hf : b.fuse = -1) :
    ∃ b', stepD b s i = (0, b') ∧ b'.n = b.n ∧ b'.off = false ∧ b'.fuse = -1 ∧ (∀ f : Int, 0 < f → stepD (withF b false f) s i = (0, withF b' false (f - 1))) ∧ stepD (withF b false 0) s i = (5, withF b true (-1)) ∧ stepD (withF b true (-1)) s i = (5, withF b true (-1)) := by
  have g0 : goesD b = (true, b) := by simp [goesD, ho, hf]
  have g1 : ∀ f : Int, 0 < f → goesD (withF b false f) = (true, withF b false (f - 1)) := fun f h => by
    have : ¬ f = 0 := by omega
    simp [goesD, withF, this, h]
  have g2 : goesD (withF b false 0) = (false, withF b true (-1)) := by simp [goesD, withF]
  have g3 : goesD (withF b true (-1)) = (false, withF b true (-1)) := by simp [goesD, withF]
  by_cases h2 : s.1 = 2
  · have h01 : ¬ (s.1 = 0 ∨ s.1 = 1) := by omega
    refine ⟨bareD (flushI b (fun _ => false)), ?_, rfl, ho, hf, fun f hfp => ?_, ?_, ?_⟩
    · simp only [stepD, if_neg h01, if_pos h2, flushD, g0]
      rfl
    · simp only [stepD, if_neg h01, if_pos h2, flushD, g1 f hfp]
      rfl
    · simp only [stepD, if_neg h01, if_pos h2, flushD, g2]
      rfl
    · simp only [stepD, if_neg h01, if_pos h2, flushD, g3]
      rfl
  · have h01 : s.1 = 0 ∨ s.1 = 1 := by rcases hs with h | h | h; exact .inl h; exact .inr h; exact absurd h h2
    have hsp := spanZ_bd s.2.1 0 ((b.n : Int) - 1) (by omega)
    obtain ⟨z, hz⟩ : ∃ z, spanZ s.2.1 0 ((b.n : Int) - 1) = z := ⟨_, rfl⟩
    rw [hz] at hsp
    have hB : hasB b z = true := by simp [hasB]; omega
    have hB' : ∀ o f, hasB (withF b o f) z = true := fun o f => hB
    have hlen := fillB_len (i + 1)
    have hc : ¬ (hasB b z = false ∨ (fillB (i + 1)).length ≠ 128) := by simp [hB, hlen]
    refine ⟨{ b with ca := upd b.ca z.toNat (b.ca z.toNat ++ [fillB (i + 1)]) }, ?_, rfl, ho, hf, fun f hfp => ?_, ?_, ?_⟩
    · simp only [stepD, if_pos h01, hz, writeD, if_neg hc, g0]
      rfl
    · have e : spanZ s.2.1 0 (((withF b false f).n : Int) - 1) = z := hz
      have hc' : ¬ (hasB (withF b false f) z = false ∨ (fillB (i + 1)).length ≠ 128) := hc
      simp only [stepD, if_pos h01, e, writeD, if_neg hc', g1 f hfp]
      rfl
    · have e : spanZ s.2.1 0 (((withF b false 0).n : Int) - 1) = z := hz
      have hc' : ¬ (hasB (withF b false 0) z = false ∨ (fillB (i + 1)).length ≠ 128) := hc
      simp only [stepD, if_pos h01, e, writeD, if_neg hc', g2]
      rfl
    · have e : spanZ s.2.1 0 (((withF b true (-1)).n : Int) - 1) = z := hz
      have hc' : ¬ (hasB (withF b true (-1)) z = false ∨ (fillB (i + 1)).length ≠ 128) := hc
      simp only [stepD, if_pos h01, e, writeD, if_neg hc', g3]
      rfl
/-- behind the power's failing nothing is done -/
theorem run_dead (most : Int) (b : Dk) (hn : 1 ≤ b.n) (ho : b.off = false) (hf : b.fuse = -1) : ∀ (l : List Stp) (i done : Nat), (∀ s ∈ l, OpS s) → runL most l i done (withF b true (-1)) = (done, withF b true (-1))
  | [], _, _, _ => rfl
  | s :: r, i, done, h => by
    obtain ⟨b', -, -, -, -, -, -, h3⟩ := step_fuse b s i (h s (by simp)) hn ho hf
    unfold runL
    rw [h3]
    split
    · exact run_dead most b hn ho hf r _ _ (fun x hx => h x (by simp [hx]))
    · rfl
/-- n operations with a fuse of n, and the first n without one -/
theorem run_fuse (most : Int) : ∀ (l : List Stp) (i done f : Nat) (b : Dk), (∀ s ∈ l, OpS s) → 1 ≤ b.n → b.off = false → b.fuse = -1 → (done : Int) + l.length ≤ most →
    ∃ b', b'.off = false ∧ b'.fuse = -1 ∧ b'.n = b.n ∧ runL (done + f) l i done b = (done + min f l.length, b') ∧ runL most l i done (withF b false f) = (done + min f l.length, if l.length ≤ f then withF b' false (f - l.length : Nat) else withF b' true (-1))
  | [], i, done, f, b, _, _, ho, hf, _ => ⟨b, ho, hf, rfl, by simp [runL], by simp [runL]⟩
  | s :: r, i, done, f, b, h, hn, ho, hf, hm => by
    obtain ⟨b1, h0, hn1, ho1, hf1, h1, h2, h3⟩ := step_fuse b s i (h s (by simp)) hn ho hf
    simp only [List.length_cons] at hm
    rcases f with _ | f
    · refine ⟨b, ho, hf, rfl, ?_, ?_⟩
      · unfold runL
        rw [if_neg (by omega)]
        simp
      · unfold runL
        rw [if_pos (by omega)]
        have h2' : stepD (withF b false ((0 : Nat) : Int)) s i = (5, withF b true (-1)) := h2
        rw [h2']
        simp only [List.length_cons, Nat.zero_min, Nat.add_zero]
        rw [if_neg (by simp), if_neg (by omega)]
        exact run_dead most b hn ho hf r _ _ (fun x hx => h x (by simp [hx]))
    · obtain ⟨b', e1, e2, e3, e4, e5⟩ := run_fuse most r (i + 1) (done + 1) f b1 (fun x hx => h x (by simp [hx])) (by omega) ho1 hf1 (by omega)
      refine ⟨b', e1, e2, by omega, ?_, ?_⟩
      · unfold runL
        rw [if_pos (by omega), h0, if_pos rfl]
        rw [show ((done : Int) + ((f + 1 : Nat) : Int)) = (((done + 1 : Nat) : Int) + (f : Int)) by omega, e4]
        simp only [List.length_cons]
        congr 1
        omega
      · unfold runL
        rw [if_pos (by omega), h1 _ (by omega), if_pos rfl]
        rw [show (((f + 1 : Nat) : Int) - 1) = (f : Int) by omega, e5]
        simp only [List.length_cons]
        by_cases hlf : r.length ≤ f
        · rw [if_pos hlf, if_pos (by omega)]
          congr 1
          · omega
          · congr 1
            omega
        · rw [if_neg hlf, if_neg (by omega)]
          congr 1
          omega
theorem crash_withF (d : Dk) (o : Bool) (f : Int) (ch : List Int) : crashD (withF d o f) ch = withF (crashD d ch) false (-1) := by
  have key : ∀ q, crashI (withF d o f) ch q = withF (crashI d ch q) o f := by
    intro q
    induction q with
    | zero => rfl
    | succ q ih =>
      rw [crashI, crashI, ih]
      have : dirtyD (withF d o f) = dirtyD d := rfl
      rw [this]
      unfold crash1
      split
      · rfl
      · split
        · rename_i h1 h2
          have h2' : 0 < ch.getD q 0 ∧ ch.getD q 0 ≤ ((crashI d ch q).ca ((dirtyD d).getD q 0)).length := h2
          rw [if_pos h2']
          rfl
        · rename_i h1 h2
          have h2' : ¬ (0 < ch.getD q 0 ∧ ch.getD q 0 ≤ ((crashI d ch q).ca ((dirtyD d).getD q 0)).length) := h2
          rw [if_neg h2']
          rfl
  unfold crashD
  rw [show dirtyD (withF d o f) = dirtyD d from rfl, key]
  rfl
end Go.Proofs.Ythkbgbbejgpeaaa
