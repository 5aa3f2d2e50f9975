/- disk.settle. -/
import Derived.Test.YthkbgbbejgpeaaaDX
namespace Go.Proofs.Ythkbgbbejgpeaaa
open Go Go.RowKit
set_option maxRecDepth 100000

theorem Kp.setCells (b : Nat) : ∀ (vs : List Value) (o : Nat) (w : World), Kp (fun i => i = b) w (w.setCells b o vs)
  | [], _, w => Kp.refl _ w
  | v :: r, o, w => by
    rw [World.setCells]
    exact ((Kp.refl (fun i => i = b) w).setCell (p := ⟨b, o, none⟩) (.inl rfl) v).trans (Kp.setCells b r (o + 1) _) (fun _ _ x => x) (fun _ _ x => x)
/-- a sector's text and mark -/
def settleD (d : Dk) (i : Nat) (xs : List UInt8) (t : Bool) : Dk := ⟨d.n, upd d.du i xs, upd d.to i t, d.ca, d.off, d.fuse⟩
theorem DiskM.there {w : World} {F : Nat → Prop} {g bd bt m k : Nat} {D : DataW Unit} {sl : Nat → Value} {d : Dk} (h : DiskM w F g bd bt m k D sl d) (i : Nat) (hi : i < d.n) : w.there bd (i * 128) 128 := fun j hj => by
  have hl := h.len i hi
  have hc := h.sec i hi j _ (List.getElem?_eq_getElem (by rw [bvs_length]; omega))
  rw [Addr.add_mid] at hc
  exact ⟨by rw [hc]; rfl, h.sfz _⟩
theorem DiskM.settle {w : World} {F : Nat → Prop} {g bd bt m k : Nat} {D : DataW Unit} {sl : Nat → Value} {d : Dk} (h : DiskM w F g bd bt m k D sl d) (i : Nat) (hi : i < d.n) (xs : List UInt8) (hx : xs.length = 128) (t : Bool) :
    DiskM ((w.setCells bd (i * 128) (bvs xs)).setCell ⟨bt, i, none⟩ (.bool t)) F g bd bt m k D sl (settleD d i xs t) := by
  obtain ⟨l1, l2, l3, l4⟩ := h.lt
  obtain ⟨e1, e2, e3, e4, e5, e6⟩ := h.ne
  have k1 := Kp.setCells bd (bvs xs) (i * 128) w
  have k2 := kp1_set (w := w.setCells bd (i * 128) (bvs xs)) (F := fun b => b = bt) rfl i (.bool t)
  have hz1 := k1.size
  have hz2 := k2.size
  have kk : Kp (fun b => b = bd ∨ b = bt) w ((w.setCells bd (i * 128) (bvs xs)).setCell ⟨bt, i, none⟩ (.bool t)) := k1.trans k2 (fun _ _ x => .inl x) (fun _ _ x => .inr x)
  have hgn : ¬ (g = bd ∨ g = bt) := by rintro (x | x) <;> omega
  have hmn : ¬ (m = bd ∨ m = bt) := by rintro (x | x) <;> omega
  have hth := h.there i hi
  have hlen : (bvs xs).length = 128 := by rw [bvs_length, hx]
  refine ⟨h.n1, h.n2, h.fit, h.ne, ⟨by omega, by omega, by omega, by omega⟩, ?_, ?_, ?_, ?_, ?_, ?_, h.fb, ?_, ?_, ?_, ?_, ?_, ?_, h.tidy, h.at_, ?_, h.nul, h.clen, h.dom, h.sep, h.sepd, h.cnt⟩
  · rw [kk.cell l1 hgn]; exact h.c0
  · rw [kk.cell l1 hgn]; exact h.c1
  · rw [kk.cell l1 hgn]; exact h.c2
  · rw [kk.cell l1 hgn]; exact h.c3
  · rw [kk.cell l1 hgn]; exact h.c4
  · intro j; rw [kk.frozen l1 hgn]; exact h.fz j
  · intro j hj
    have hkeep : ∀ cs, RowAt (w.setCells bd (i * 128) (bvs xs)) ⟨bd, j * 128, none⟩ cs → RowAt ((w.setCells bd (i * 128) (bvs xs)).setCell ⟨bt, i, none⟩ (.bool t)) ⟨bd, j * 128, none⟩ cs := fun cs hc => hc.keep k2 e4
    refine hkeep _ ?_
    by_cases hji : j = i
    · subst hji
      intro q v hv
      simp only [settleD, upd_same] at hv
      rw [Addr.add_mid]
      exact World.rangeAt_setCells_same w bd (j * 128) (bvs xs) (by rw [hlen]; exact hth) q v hv
    · intro q v hv
      simp only [settleD, upd_ne _ _ hji] at hv
      have hlj : (bvs (d.du j)).length = 128 := by rw [bvs_length, h.len j hj]
      have hr : w.rangeAt bd (j * 128) (bvs (d.du j)) := fun q v hv => by
        have := h.sec j hj q v hv
        rwa [Addr.add_mid] at this
      rw [Addr.add_mid]
      exact World.rangeAt_setCells_apart hr bd (i * 128) (bvs xs) (.inr (by rw [hlj, hlen]; omega)) q v hv
  · intro j hj
    by_cases hji : j = i
    · subst hji
      simp only [settleD, upd_same]
      exact hx
    · simp only [settleD, upd_ne _ _ hji]
      exact h.len j hj
  · intro j
    rw [k2.frozen (by show bd < _; omega) e4, World.frozen?_setCells]
    exact h.sfz j
  · intro j hj
    have hc := h.tor j hj
    have hc1 : (w.setCells bd (i * 128) (bvs xs)).cell? ⟨bt, j, none⟩ = some (.bool (d.to j)) := by rw [k1.cell l3 (fun e => e4 e.symm)]; exact hc
    by_cases hji : j = i
    · subst hji
      simp only [settleD, upd_same]
      exact World.cell?_setCell_same _ _ _ hc1
    · simp only [settleD, upd_ne _ _ hji]
      rw [World.cell?_setCell_other _ _ _ _ (off_ne (fun e => hji e.symm))]
      exact hc1
  · intro j
    have : ((w.setCells bd (i * 128) (bvs xs)).setCell ⟨bt, i, none⟩ (.bool t)).frozen? ⟨bt, j, none⟩ = (w.setCells bd (i * 128) (bvs xs)).frozen? ⟨bt, j, none⟩ := by simp
    rw [this, World.frozen?_setCells]
    exact h.tfz j
  · obtain ⟨es, clock, hb, rest⟩ := h.map
    exact ⟨es, clock, (kk.block m l4 hmn).trans hb, rest⟩
  · intro j hj
    exact (h.own j hj).keepB kk (fun b hb hx => by
      have := h.sepd j hj b hb
      rcases hx with hx | hx
      · exact this.2.1 hx
      · exact this.2.2.1 hx)
end Go.Proofs.Ythkbgbbejgpeaaa
