/- disk.Load: the plain part, and a blank disk. -/
import Derived.Test.YthkbgbbejgpeaaaDA
import Derived.Test.YthkbgbbejgpeaaaEQ
namespace Go.Proofs.Ythkbgbbejgpeaaa
open Go Go.RowKit
set_option maxRecDepth 100000

section
variable {w : World} {F : Nat → Prop} {g bd bt m k : Nat} {D : DataW Unit} {sl : Nat → Value} {d : Dk}
/-- a sector's text alone -/
theorem DiskM.setRow (h : DiskM w F g bd bt m k D sl d) (i : Nat) (hi : i < d.n) (xs : List UInt8) (hx : xs.length = 128) : DiskM (w.setCells bd (i * 128) (bvs xs)) F g bd bt m k D sl ⟨d.n, upd d.du i xs, d.to, d.ca, d.off, d.fuse⟩ := by
  obtain ⟨l1, l2, l3, l4⟩ := h.lt
  obtain ⟨e1, e2, e3, e4, e5, e6⟩ := h.ne
  have kk := Kp.setCells bd (bvs xs) (i * 128) w
  have hz1 := kk.size
  have hth := h.there i hi
  have hlen : (bvs xs).length = 128 := by rw [bvs_length, hx]
  refine ⟨h.n1, h.n2, h.fit, h.ne, ⟨by omega, by omega, by omega, by omega⟩, ?_, ?_, ?_, ?_, ?_, ?_, h.fb, ?_, ?_, ?_, ?_, ?_, ?_, h.tidy, h.at_, ?_, h.nul, h.clen, h.dom, h.sep, h.sepd, h.cnt⟩
  · rw [kk.cell l1 e1]; exact h.c0
  · rw [kk.cell l1 e1]; exact h.c1
  · rw [kk.cell l1 e1]; exact h.c2
  · rw [kk.cell l1 e1]; exact h.c3
  · rw [kk.cell l1 e1]; exact h.c4
  · intro j; rw [World.frozen?_setCells]; exact h.fz j
  · intro j hj
    by_cases hji : j = i
    · subst hji
      intro q v hv
      simp only [upd_same] at hv
      rw [Addr.add_mid]
      exact World.rangeAt_setCells_same w bd (j * 128) (bvs xs) (by rw [hlen]; exact hth) q v hv
    · intro q v hv
      simp only [upd_ne _ _ hji] at hv
      have hlj : (bvs (d.du j)).length = 128 := by rw [bvs_length, h.len j hj]
      have hr : w.rangeAt bd (j * 128) (bvs (d.du j)) := fun q v hv => by
        have := h.sec j hj q v hv
        rwa [Addr.add_mid] at this
      rw [Addr.add_mid]
      exact World.rangeAt_setCells_apart hr bd (i * 128) (bvs xs) (.inr (by rw [hlj, hlen]; omega)) q v hv
  · intro j hj
    by_cases hji : j = i
    · subst hji
      simp only [upd_same]
      exact hx
    · simp only [upd_ne _ _ hji]
      exact h.len j hj
  · intro j; rw [World.frozen?_setCells]; exact h.sfz j
  · intro j hj; rw [kk.cell l3 (fun e => e4 e.symm)]; exact h.tor j hj
  · intro j; rw [World.frozen?_setCells]; exact h.tfz j
  · obtain ⟨es, clock, hb, rest⟩ := h.map
    exact ⟨es, clock, (kk.block m l4 (fun e => e5 e.symm)).trans hb, rest⟩
  · intro j hj
    exact (h.own j hj).keepB kk (fun b hb hx => (h.sepd j hj b hb).2.1 hx)
/-- a sector's mark alone -/
theorem DiskM.setTorn (h : DiskM w F g bd bt m k D sl d) (i : Nat) (hi : i < d.n) (t : Bool) : DiskM (w.setCell ⟨bt, i, none⟩ (.bool t)) F g bd bt m k D sl ⟨d.n, d.du, upd d.to i t, d.ca, d.off, d.fuse⟩ := by
  obtain ⟨l1, l2, l3, l4⟩ := h.lt
  obtain ⟨e1, e2, e3, e4, e5, e6⟩ := h.ne
  have kk := kp1_set (w := w) (F := fun b => b = bt) rfl i (.bool t)
  refine ⟨h.n1, h.n2, h.fit, h.ne, by simpa using h.lt, ?_, ?_, ?_, ?_, ?_, ?_, h.fb, ?_, h.len, ?_, ?_, ?_, ?_, h.tidy, h.at_, ?_, h.nul, h.clen, h.dom, h.sep, h.sepd, h.cnt⟩
  · rw [kk.cell l1 e2]; exact h.c0
  · rw [kk.cell l1 e2]; exact h.c1
  · rw [kk.cell l1 e2]; exact h.c2
  · rw [kk.cell l1 e2]; exact h.c3
  · rw [kk.cell l1 e2]; exact h.c4
  · intro j; rw [kk.frozen l1 e2]; exact h.fz j
  · intro j hj; exact (h.sec j hj).keep kk e4
  · intro j; rw [kk.frozen l2 e4]; exact h.sfz j
  · intro j hj
    have hc := h.tor j hj
    by_cases hji : j = i
    · subst hji
      simp only [upd_same]
      exact World.cell?_setCell_same _ _ _ hc
    · simp only [upd_ne _ _ hji]
      rw [World.cell?_setCell_other _ _ _ _ (off_ne (fun e => hji e.symm))]
      exact hc
  · intro j; simpa using h.tfz j
  · obtain ⟨es, clock, hb, rest⟩ := h.map
    exact ⟨es, clock, (kk.block m l4 (fun e => e6 e.symm)).trans hb, rest⟩
  · intro j hj
    exact (h.own j hj).keepB kk (fun b hb hx => (h.sepd j hj b hb).2.2.1 hx)
end
/-- a new disk -/
def newD (n : Nat) : Dk := ⟨n, fun _ => zsec, fun _ => false, fun _ => [], false, -1⟩
theorem DiskM.blank {w w' : World} {n g bd bt m : Nat} (h1 : 1 ≤ n) (h2 : n ≤ 65536) (lg : w.heap.size ≤ g) (lbd : w.heap.size ≤ bd) (lbt : w.heap.size ≤ bt) (lm : w.heap.size ≤ m) (ne : g ≠ bd ∧ g ≠ bt ∧ g ≠ m ∧ bd ≠ bt ∧ bd ≠ m ∧ bt ≠ m)
    (hg : w'.heap[g]? = some (.cells #[.slice (some ⟨bd, 0, none⟩) n n, .slice (some ⟨bt, 0, none⟩) n n, .map (some m), .bool false, .int .i64 (-1)] 79 (0, 0)))
    (hbd : w'.heap[bd]? = some (.cells (madeCells (Value.agg (Array.replicate 128 (.int .u8 0))).cells (n * 128)) 85 (0, 0))) (hbt : w'.heap[bt]? = some (.cells (madeCells (Value.bool false).cells (n * 1)) 4 (0, 0))) (hm : w'.heap[m]? = some (.map #[] 0)) :
    DiskM w' (Iv w.heap.size w'.heap.size) g bd bt m 0 (.map []) (fun _ => .slice none 0 0) (newD n) := by
  have l1 := (Array.getElem?_eq_some_iff.1 hg).1
  have l2 := (Array.getElem?_eq_some_iff.1 hbd).1
  have l3 := (Array.getElem?_eq_some_iff.1 hbt).1
  have l4 := (Array.getElem?_eq_some_iff.1 hm).1
  refine ⟨h1, h2, ⟨⟨lg, l1⟩, ⟨lbd, l2⟩, ⟨lbt, l3⟩, ⟨lm, l4⟩⟩, ne, ⟨l1, l2, l3, l4⟩, by simp [World.cell?, hg, newD], by simp [World.cell?, hg, newD], by simp [World.cell?, hg], by simp [World.cell?, hg, newD], by simp [World.cell?, hg, newD], fun j => frozen_of_row _ _ j _ _ hg, by simp [newD], ?_, fun i _ => zsec_len, fun j => frozen_of_row _ _ j _ _ hbd, ?_, fun j => frozen_of_row _ _ j _ _ hbt, ?_, ⟨[], rfl⟩, fun i hi => rfl, fun i hi => OwC.nil _ _ _ _, fun i hi _ => rfl, fun i hi s hs => (by cases hs), ?_, fun i j _ _ _ b hb => (by cases hb), fun i _ b hb => (by cases hb), fun i _ => Nat.zero_le _⟩
  · intro i hi j v hv
    have hi' : i < n := hi
    have hjl : j < 128 := by have := (List.getElem?_eq_some_iff.1 hv).1; rw [bvs_length] at this; exact Nat.lt_of_lt_of_eq this zsec_len
    rw [Addr.add_mid]
    have hv2 : v = .int .u8 0 := by
      have : (bvs zsec)[j]? = some (.int .u8 0) := by
        rw [bvs_get, zsec, List.getElem?_replicate, if_pos hjl]
        rfl
      exact Option.some.inj (hv.symm.trans this)
    subst hv2
    have hlt : i * 128 + j < n * 128 := by omega
    have : (madeCells (Value.agg (Array.replicate 128 (.int .u8 0))).cells (n * 128))[i * 128 + j]? = some (.int .u8 0) := by
      simp only [madeCells, Value.cells]
      rw [Array.getElem?_eq_getElem (by simpa using hlt)]
      have : j % 128 < 128 := by omega
      simp [this]
    rw [cell_of_row _ _ _ _ _ _ hbd]
    exact this
  · intro i hi
    have hi' : i < n := hi
    rw [cell_of_row _ _ _ _ _ _ hbt]
    rw [show (Value.bool false).cells = #[.bool false] from rfl]
    have : (madeCells #[Value.bool false] (n * 1))[i]? = some (.bool false) := by
      simp only [madeCells]
      rw [Array.getElem?_eq_getElem (by simp; omega)]
      simp [Nat.mod_one]
    exact this
  · exact ⟨#[], 0, hm, ⟨by simp, MapKept.stamped_empty 0, by simp⟩, Nat.zero_le _, rfl⟩
  · intro kl
    exact ⟨fun hh => by simp [Maps.has] at hh, fun ⟨i, _, _, hc⟩ => absurd rfl hc⟩
/-- rows of an image -/
def imgHead (img : List UInt8) (i : Nat) : UInt8 := img.getD (i * 129) 0
def imgText (img : List UInt8) (i : Nat) : List UInt8 := (img.drop (i * 129 + 1)).take 128
def goodRow (img : List UInt8) (i : Nat) : Bool := decide (imgHead img i = 0) || (decide (imgHead img i = 1) && decide (imgText img i = zsec))
def loadI (img : List UInt8) (n j : Nat) : Dk := ⟨n, fun i => if i < j then imgText img i else zsec, fun i => decide (i < j) && decide (imgHead img i = 1), fun _ => [], false, -1⟩
/-- the disk of an image, if it is one -/
def loadD (img : List UInt8) : Option Dk := if img.length % 129 = 0 ∧ 1 ≤ img.length / 129 ∧ img.length / 129 ≤ 65536 ∧ ∀ i, i < img.length / 129 → goodRow img i = true then some (loadI img (img.length / 129) (img.length / 129)) else none
theorem loadI_zero (img : List UInt8) (n : Nat) : loadI img n 0 = newD n := by simp [loadI, newD]
theorem imgText_len (img : List UInt8) (i n : Nat) (hi : i < n) (hl : img.length = n * 129) : (imgText img i).length = 128 := by
  simp only [imgText, List.length_take, List.length_drop]
  omega
theorem loadI_row (img : List UInt8) (n j : Nat) (t : Bool) (ht : t = decide (imgHead img j = 1)) : (⟨n, upd (loadI img n j).du j (imgText img j), upd (loadI img n j).to j t, fun _ => [], false, -1⟩ : Dk) = loadI img n (j + 1) := by
  subst ht
  unfold loadI
  congr 1
  · funext i
    by_cases hij : i = j
    · subst hij; simp [upd_same]
    · rw [upd_ne _ _ hij]
      have : (i < j + 1) = (i < j) := by apply propext; omega
      simp [this]
  · funext i
    by_cases hij : i = j
    · subst hij; simp [upd_same]
    · rw [upd_ne _ _ hij]
      have : (i < j + 1) = (i < j) := by apply propext; omega
      simp [this]
theorem loadI_row0 (img : List UInt8) (n j : Nat) (h : imgHead img j = 0) : (⟨n, upd (loadI img n j).du j (imgText img j), (loadI img n j).to, fun _ => [], false, -1⟩ : Dk) = loadI img n (j + 1) := by
  rw [← loadI_row img n j false (by simp [h])]
  congr 1
  funext i
  by_cases hij : i = j
  · subst hij; simp [upd_same, loadI]
  · rw [upd_ne _ _ hij]
end Go.Proofs.Ythkbgbbejgpeaaa
