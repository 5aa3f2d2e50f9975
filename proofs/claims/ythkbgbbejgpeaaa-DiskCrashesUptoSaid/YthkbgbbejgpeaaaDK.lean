/- A disk in memory. -/
import Derived.Test.YthkbgbbejgpeaaaDN
import Derived.Test.YthkbgbbejgpeaaaOW
import Derived.Maps.Own
import Derived.Maps.Views
import Derived.Deep.MidRow
namespace Go.Proofs.Ythkbgbbejgpeaaa
open Go Go.RowKit
set_option maxRecDepth 100000

theorem kp1_set {w : World} {F : Nat → Prop} {g : Nat} (hg : F g) (i : Nat) (u : Value) : Kp F w (w.setCell ⟨g, i, none⟩ u) := (Kp.refl F w).setCell (p := ⟨g, i, none⟩) (.inl hg) u
theorem off_ne {g i j : Nat} (h : i ≠ j) : (⟨g, i, none⟩ : Addr) ≠ ⟨g, j, none⟩ := fun e => h (congrArg Addr.off e)
/-- a disk: sectors, the unreadable ones, what was written since the last flush, the power, the fuse -/
structure Dk where
  n : Nat
  du : Nat → List UInt8
  to : Nat → Bool
  ca : Nat → List (List UInt8)
  off : Bool
  fuse : Int
/-- a slice value as data, whatever it points to -/
def slDat : Value → Option (DataW Unit × List MemPlace)
  | .slice none 0 0 => some (.nil, [])
  | .slice (some ⟨g, 0, none⟩) n c => some (.agg [.lit (.int .u64 g), .lit (.int .u64 n), .lit (.int .u64 c)], [])
  | _ => none
def slD (v : Value) : DataW Unit := ((slDat v).map Prod.fst).getD .nil
/-- nil, or from the head of a block -/
def IsRow (v : Value) : Prop := v = .slice none 0 0 ∨ ∃ g n c, v = .slice (some ⟨g, 0, none⟩) n c
theorem slDat_row {v : Value} (h : IsRow v) : slDat v = some (slD v, []) := by
  rcases h with rfl | ⟨g, n, c, rfl⟩ <;> rfl
theorem slDat_inj {v u : Value} {d : DataW Unit} {p : List MemPlace} (h : slDat v = some (d, p)) (hu : IsRow u) (hd : d = slD u) : v = u := by
  subst hd
  rcases hu with rfl | ⟨g, n, c, rfl⟩
  · unfold slDat at h
    split at h
    · rfl
    · simp [slD, slDat] at h
    · cases h
  · unfold slDat at h
    split at h
    · simp [slD, slDat] at h
    · simp [slD, slDat] at h
      obtain ⟨⟨h1, h2, h3⟩, _⟩ := h
      have e1 := Int.ofNat_inj.1 h1
      have e2 := Int.ofNat_inj.1 h2
      have e3 := Int.ofNat_inj.1 h3
      subst e1 e2 e3
      rfl
    · cases h
theorem OwC.isRow {w : World} {e size n : Nat} {F : Nat → Prop} {v : Value} {cs : List Value} (h : OwC w e size F v n cs) : IsRow v := by
  rcases h.own.2 with ⟨rfl, _⟩ | ⟨g, cap, cur, rfl, _⟩
  · exact .inl rfl
  · exact .inr ⟨g, n, cap, rfl⟩
/-- the number of a sector as a key -/
abbrev key (i : Nat) : Lit := .int .i64 (i : Int)
/-- the disk at block g: its sectors in bd, the torn ones in bt, the map in m, which holds the rows sl -/
structure DiskM (w : World) (F : Nat → Prop) (g bd bt m k : Nat) (D : DataW Unit) (sl : Nat → Value) (d : Dk) : Prop where
  n1 : 1 ≤ d.n
  n2 : d.n ≤ 65536
  fit : F g ∧ F bd ∧ F bt ∧ F m
  ne : g ≠ bd ∧ g ≠ bt ∧ g ≠ m ∧ bd ≠ bt ∧ bd ≠ m ∧ bt ≠ m
  lt : g < w.heap.size ∧ bd < w.heap.size ∧ bt < w.heap.size ∧ m < w.heap.size
  c0 : w.cell? ⟨g, 0, none⟩ = some (.slice (some ⟨bd, 0, none⟩) d.n d.n)
  c1 : w.cell? ⟨g, 1, none⟩ = some (.slice (some ⟨bt, 0, none⟩) d.n d.n)
  c2 : w.cell? ⟨g, 2, none⟩ = some (.map (some m))
  c3 : w.cell? ⟨g, 3, none⟩ = some (.bool d.off)
  c4 : w.cell? ⟨g, 4, none⟩ = some (.int .i64 d.fuse)
  fz : ∀ j, w.frozen? ⟨g, j, none⟩ = false
  fb : -1 ≤ d.fuse ∧ d.fuse ≤ 9223372036854775807
  sec : ∀ i, i < d.n → RowAt w ⟨bd, i * 128, none⟩ (bvs (d.du i))
  len : ∀ i, i < d.n → (d.du i).length = 128
  sfz : ∀ j, w.frozen? ⟨bd, j, none⟩ = false
  tor : ∀ i, i < d.n → w.cell? ⟨bt, i, none⟩ = some (.bool (d.to i))
  tfz : ∀ j, w.frozen? ⟨bt, j, none⟩ = false
  map : w.ownsMap Try.prog 3 slDat m k D
  tidy : Maps.IsMap D
  at_ : ∀ i, i < d.n → D.atKey (key i) .nil = slD (sl i)
  own : ∀ i, i < d.n → OwC w 85 128 F (sl i) (d.ca i).length ((d.ca i).flatMap bvs)
  nul : ∀ i, i < d.n → d.ca i = [] → sl i = .slice none 0 0
  clen : ∀ i, i < d.n → ∀ s ∈ d.ca i, s.length = 128
  dom : ∀ kl, Maps.has D kl = true ↔ ∃ i, i < d.n ∧ kl = key i ∧ d.ca i ≠ []
  sep : ∀ i j, i < d.n → j < d.n → i ≠ j → ∀ b, (sl i).ownBlock = some b → (sl j).ownBlock ≠ some b
  sepd : ∀ i, i < d.n → ∀ b, (sl i).ownBlock = some b → b ≠ g ∧ b ≠ bd ∧ b ≠ bt ∧ b ≠ m
  cnt : ∀ i, i < d.n → (d.ca i).length ≤ k
section
variable {w w' : World} {F : Nat → Prop} {g bd bt m k : Nat} {D : DataW Unit} {sl : Nat → Value} {d : Dk}
theorem DiskM.keep (h : DiskM w F g bd bt m k D sl d) {S : Nat → Prop} (kp : Kp S w w') (hs : ∀ i, F i → ¬ S i) : DiskM w' F g bd bt m k D sl d := by
  obtain ⟨f1, f2, f3, f4⟩ := h.fit
  obtain ⟨l1, l2, l3, l4⟩ := h.lt
  have hz := kp.size
  refine ⟨h.n1, h.n2, h.fit, h.ne, ⟨by omega, by omega, by omega, by omega⟩, ?_, ?_, ?_, ?_, ?_, ?_, h.fb, ?_, h.len, ?_, ?_, ?_, ?_, h.tidy, h.at_, ?_, h.nul, h.clen, h.dom, h.sep, h.sepd, h.cnt⟩
  · rw [kp.cell l1 (hs _ f1)]; exact h.c0
  · rw [kp.cell l1 (hs _ f1)]; exact h.c1
  · rw [kp.cell l1 (hs _ f1)]; exact h.c2
  · rw [kp.cell l1 (hs _ f1)]; exact h.c3
  · rw [kp.cell l1 (hs _ f1)]; exact h.c4
  · intro j; rw [kp.frozen l1 (hs _ f1)]; exact h.fz j
  · intro i hi; exact (h.sec i hi).keep kp (hs _ f2)
  · intro j; rw [kp.frozen l2 (hs _ f2)]; exact h.sfz j
  · intro i hi; rw [kp.cell l3 (hs _ f3)]; exact h.tor i hi
  · intro j; rw [kp.frozen l3 (hs _ f3)]; exact h.tfz j
  · obtain ⟨es, clock, hb, rest⟩ := h.map
    exact ⟨es, clock, (kp.block m l4 (hs _ f4)).trans hb, rest⟩
  · intro i hi; exact (h.own i hi).keep kp hs
theorem DiskM.keepN (h : DiskM w F g bd bt m k D sl d) (kp : KpN w w') : DiskM w' F g bd bt m k D sl d := h.keep kp (fun _ _ x => x)
theorem DiskM.wide {G : Nat → Prop} (h : DiskM w F g bd bt m k D sl d) (hg : ∀ i, i < w.heap.size → F i → G i) : DiskM w G g bd bt m k D sl d :=
  { h with fit := ⟨hg _ h.lt.1 h.fit.1, hg _ h.lt.2.1 h.fit.2.1, hg _ h.lt.2.2.1 h.fit.2.2.1, hg _ h.lt.2.2.2 h.fit.2.2.2⟩, own := fun i hi => (h.own i hi).wide hg }
/-- a store into one of its first cells -/
theorem DiskM.setOff (h : DiskM w F g bd bt m k D sl d) (b : Bool) : DiskM (w.setCell ⟨g, 3, none⟩ (.bool b)) F g bd bt m k D sl { d with off := b } := by
  have kp := kp1_set (w := w) (F := fun i => i = g) rfl 3 (.bool b)
  obtain ⟨l1, l2, l3, l4⟩ := h.lt
  obtain ⟨n1, n2, n3, -, -, -⟩ := h.ne
  refine ⟨h.n1, h.n2, h.fit, h.ne, by simpa using h.lt, ?_, ?_, ?_, World.cell?_setCell_same _ _ _ h.c3, ?_, ?_, h.fb, ?_, h.len, ?_, ?_, ?_, ?_, h.tidy, h.at_, ?_, h.nul, h.clen, h.dom, h.sep, h.sepd, h.cnt⟩
  · rw [World.cell?_setCell_other _ _ _ _ (fun e => by cases e)]; exact h.c0
  · rw [World.cell?_setCell_other _ _ _ _ (fun e => by cases e)]; exact h.c1
  · rw [World.cell?_setCell_other _ _ _ _ (fun e => by cases e)]; exact h.c2
  · rw [World.cell?_setCell_other _ _ _ _ (fun e => by cases e)]; exact h.c4
  · intro j; simpa using h.fz j
  · intro i hi; exact (h.sec i hi).keep kp (fun e => n1 e.symm)
  · intro j; rw [kp.frozen l2 (fun e => n1 e.symm)]; exact h.sfz j
  · intro i hi; rw [kp.cell l3 (fun e => n2 e.symm)]; exact h.tor i hi
  · intro j; rw [kp.frozen l3 (fun e => n2 e.symm)]; exact h.tfz j
  · obtain ⟨es, clock, hb, rest⟩ := h.map
    exact ⟨es, clock, (kp.block m l4 (fun e => n3 e.symm)).trans hb, rest⟩
  · intro i hi; exact (h.own i hi).keepB kp (fun b hb e => (h.sepd i hi b hb).1 e)
theorem DiskM.setFuse (h : DiskM w F g bd bt m k D sl d) (z : Int) (hz : -1 ≤ z ∧ z ≤ 9223372036854775807) : DiskM (w.setCell ⟨g, 4, none⟩ (.int .i64 z)) F g bd bt m k D sl { d with fuse := z } := by
  have kp := kp1_set (w := w) (F := fun i => i = g) rfl 4 (.int .i64 z)
  obtain ⟨l1, l2, l3, l4⟩ := h.lt
  obtain ⟨n1, n2, n3, -, -, -⟩ := h.ne
  refine ⟨h.n1, h.n2, h.fit, h.ne, by simpa using h.lt, ?_, ?_, ?_, ?_, World.cell?_setCell_same _ _ _ h.c4, ?_, hz, ?_, h.len, ?_, ?_, ?_, ?_, h.tidy, h.at_, ?_, h.nul, h.clen, h.dom, h.sep, h.sepd, h.cnt⟩
  · rw [World.cell?_setCell_other _ _ _ _ (fun e => by cases e)]; exact h.c0
  · rw [World.cell?_setCell_other _ _ _ _ (fun e => by cases e)]; exact h.c1
  · rw [World.cell?_setCell_other _ _ _ _ (fun e => by cases e)]; exact h.c2
  · rw [World.cell?_setCell_other _ _ _ _ (fun e => by cases e)]; exact h.c3
  · intro j; simpa using h.fz j
  · intro i hi; exact (h.sec i hi).keep kp (fun e => n1 e.symm)
  · intro j; rw [kp.frozen l2 (fun e => n1 e.symm)]; exact h.sfz j
  · intro i hi; rw [kp.cell l3 (fun e => n2 e.symm)]; exact h.tor i hi
  · intro j; rw [kp.frozen l3 (fun e => n2 e.symm)]; exact h.tfz j
  · obtain ⟨es, clock, hb, rest⟩ := h.map
    exact ⟨es, clock, (kp.block m l4 (fun e => n3 e.symm)).trans hb, rest⟩
  · intro i hi; exact (h.own i hi).keepB kp (fun b hb e => (h.sepd i hi b hb).1 e)
theorem intKeyed : Maps.Keyed Try.prog 3 := Maps.int_keyed Try.underlying3
theorem zeroRows (w : World) : (zeroValue 75).run Try.prog w = .ok (.slice none 0 0) w := by kernel_rfl
theorem key_wf (i : Nat) (h : i ≤ 1000000000) : (key i).wf = true := WalkArith.wf_i64 (by omega)
/-- the versions of a sector, looked up -/
theorem DiskM.look (h : DiskM w F g bd bt m k D sl d) (i : Nat) (hi : i < d.n) : (Instr.lookup 77 (.map (some m)) (.int .i64 (i : Int)) false).run Try.prog w = .ok (sl i) w := by
  have hn := h.n2
  obtain ⟨v, ps, hrun, hv⟩ := h.map.lookup intKeyed Try.underlying77 (zeroRows w) (zd := .nil) (zp := []) rfl (Maps.keyOf_int_mk Try.underlying3 (key_wf i (by omega)))
  rw [h.at_ i hi] at hv
  rw [hrun, slDat_inj hv (h.own i hi).isRow rfl]
end
theorem dmade_c {w : World} {F : Nat → Prop} {g bd bt m k : Nat} {D : DataW Unit} {sl : Nat → Value} {d : Dk} (h : DiskM w F g bd bt m k D sl d) :
    Calls Try.prog 48 #[.pointer (some ⟨g, 0, none⟩)] w fun e w' => e = .returned (.bool true) ∧ w = w' := made_c h.c2
theorem sectors_c {w : World} {F : Nat → Prop} {g bd bt m k : Nat} {D : DataW Unit} {sl : Nat → Value} {d : Dk} (h : DiskM w F g bd bt m k D sl d) :
    Calls Try.prog 21 #[.pointer (some ⟨g, 0, none⟩)] w fun e w' => e = .returned (.int .i64 (d.n : Int)) ∧ w = w' := dsectors_c h.c0 h.c2
theorem down_c {w : World} {F : Nat → Prop} {g bd bt m k : Nat} {D : DataW Unit} {sl : Nat → Value} {d : Dk} (h : DiskM w F g bd bt m k D sl d) :
    Calls Try.prog 32 #[.pointer (some ⟨g, 0, none⟩)] w fun e w' => e = .returned (.bool d.off) ∧ w = w' := by
  have c3 := h.c3
  go_enter Try.func32, Try.ntmps32
  go_wp2_with fail
  refine (dmade_c h).mono ?_
  rintro e w2 ⟨rfl, rfl⟩
  go_wp2
  go_ret
  exact ⟨rfl, rfl⟩
/-- is there such a sector? -/
def hasB (d : Dk) (i : Int) : Bool := decide (0 ≤ i) && decide (i < d.n)
theorem has_c {w : World} {F : Nat → Prop} {g bd bt m k : Nat} {D : DataW Unit} {sl : Nat → Value} {d : Dk} {i : Int} (h : DiskM w F g bd bt m k D sl d) :
    Calls Try.prog 49 #[.pointer (some ⟨g, 0, none⟩), .int .i64 i] w fun e w' => e = .returned (.bool (hasB d i)) ∧ w = w' := by
  have c0 := h.c0
  have n2 := h.n2
  go_enter Try.func49, Try.ntmps49
  by_cases h0 : 0 ≤ i
  · by_cases h1 : i < (d.n : Int)
    · have hB : hasB d i = true := by simp [hasB, h0, h1]
      have HB := Lib.hid hB
      clear hB
      go_wp2_with fail
      refine (dmade_c h).mono ?_
      rintro e w2 ⟨rfl, rfl⟩
      go_wp2
      go_ret
      exact ⟨by rw [HB.out]; rfl, rfl⟩
    · have hd : decide (i < (d.n : Int)) = false := by simpa using h1
      have hB : hasB d i = false := by simp [hasB, h1]
      have HB := Lib.hid hB
      clear hB
      go_wp2_with fail
      refine (dmade_c h).mono ?_
      rintro e w2 ⟨rfl, rfl⟩
      go_wp2
      go_ret
      exact ⟨by rw [HB.out]; rfl, rfl⟩
  · have hB : hasB d i = false := by simp [hasB, h0]
    have HB := Lib.hid hB
    have h0' : ¬ (i ≥ 0) := h0
    clear hB
    go_wp2_with fail
    refine (dmade_c h).mono ?_
    rintro e w2 ⟨rfl, rfl⟩
    go_wp2
    go_ret
    exact ⟨by rw [HB.out]; rfl, rfl⟩
theorem has_t {w : World} {F : Nat → Prop} {g bd bt m k : Nat} {D : DataW Unit} {sl : Nat → Value} {d : Dk} {i : Nat} (h : DiskM w F g bd bt m k D sl d) (hi : i < d.n) :
    Calls Try.prog 49 #[.pointer (some ⟨g, 0, none⟩), .int .i64 (i : Int)] w fun e w' => e = .returned (.bool true) ∧ w = w' := by
  have := has_c (i := (i : Int)) h
  rwa [show hasB d (i : Int) = true by simp [hasB]; omega] at this
theorem has_f {w : World} {F : Nat → Prop} {g bd bt m k : Nat} {D : DataW Unit} {sl : Nat → Value} {d : Dk} {i : Int} (h : DiskM w F g bd bt m k D sl d) (hi : i < 0 ∨ (d.n : Int) ≤ i) :
    Calls Try.prog 49 #[.pointer (some ⟨g, 0, none⟩), .int .i64 i] w fun e w' => e = .returned (.bool false) ∧ w = w' := by
  have := has_c (i := i) h
  rwa [show hasB d i = false by simp [hasB]; omega] at this
/-- may the operation be done, and what becomes of the fuse -/
def goesD (d : Dk) : Bool × Dk := if d.off then (false, d) else if d.fuse = 0 then (false, { d with off := true, fuse := -1 }) else if 0 < d.fuse then (true, { d with fuse := d.fuse - 1 }) else (true, d)
theorem goes_c {w : World} {F : Nat → Prop} {g bd bt m k : Nat} {D : DataW Unit} {sl : Nat → Value} {d : Dk} (h : DiskM w F g bd bt m k D sl d) :
    Calls Try.prog 51 #[.pointer (some ⟨g, 0, none⟩)] w fun e w' => e = .returned (.bool (goesD d).1) ∧ DiskM w' F g bd bt m k D sl (goesD d).2 ∧ Kp (fun i => i = g) w w' := by
  have c3 := h.c3
  have c4 := h.c4
  have f3 := h.fz 3
  have f4 := h.fz 4
  have hb := h.fb
  go_enter Try.func51, Try.ntmps51
  by_cases ho : d.off = true
  · have hg : goesD d = (false, d) := by simp [goesD, ho]
    have HG := Lib.hid hg
    rw [ho] at c3
    clear hg
    go_wp2
    go_ret
    exact ⟨by rw [HG.out]; rfl, by rw [HG.out]; exact h, Kp.refl _ _⟩
  · have ho' : d.off = false := by simpa using ho
    rw [ho'] at c3
    by_cases h0 : d.fuse = 0
    · have hg : goesD d = (false, { d with off := true, fuse := -1 }) := by simp [goesD, ho', h0]
      have HG := Lib.hid hg
      have hw := (h.setOff true).setFuse (-1) (by omega)
      have kw := (kp1_set (w := w) (F := fun i => i = g) rfl 3 (.bool true)).trans (kp1_set (F := fun i => i = g) rfl 4 (.int .i64 (-1))) (U := fun i => i = g) (fun _ _ x => x) (fun _ _ x => x)
      rw [h0] at c4
      clear hg ho
      go_wp2
      go_ret
      exact ⟨by rw [HG.out]; rfl, by rw [HG.out]; exact hw, kw⟩
    · by_cases h1 : 0 < d.fuse
      · have hg : goesD d = (true, { d with fuse := d.fuse - 1 }) := by simp [goesD, ho', h0, h1]
        have HG := Lib.hid hg
        have hw := h.setFuse (d.fuse - 1) (by omega)
        have kw := kp1_set (w := w) (F := fun i => i = g) rfl 4 (.int .i64 (d.fuse - 1))
        clear hg ho
        go_wp2
        go_ret
        exact ⟨by rw [HG.out]; rfl, by rw [HG.out]; exact hw, kw⟩
      · have hg : goesD d = (true, d) := by simp [goesD, ho', h0, h1]
        have HG := Lib.hid hg
        clear hg ho
        go_wp2
        go_ret
        exact ⟨by rw [HG.out]; rfl, by rw [HG.out]; exact h, Kp.refl _ _⟩
def cutD (d : Dk) (n : Int) : Dk := if d.off then d else { d with fuse := max n (-1) }
theorem cut_c {w : World} {F : Nat → Prop} {g bd bt m k : Nat} {D : DataW Unit} {sl : Nat → Value} {d : Dk} {n : Int} (h : DiskM w F g bd bt m k D sl d) (hn : -9223372036854775808 ≤ n ∧ n ≤ 9223372036854775807) :
    Calls Try.prog 45 #[.pointer (some ⟨g, 0, none⟩), .int .i64 n] w fun e w' => (∃ u, e = .returned u) ∧ DiskM w' F g bd bt m k D sl (cutD d n) ∧ Kp (fun i => i = g) w w' := by
  have c3 := h.c3
  have c4 := h.c4
  have f4 := h.fz 4
  go_enter Try.func45, Try.ntmps45
  go_wp2_with fail
  refine (dmade_c h).mono ?_
  rintro e w2 ⟨rfl, rfl⟩
  by_cases ho : d.off = true
  · have hg : cutD d n = d := by simp [cutD, ho]
    have HG := Lib.hid hg
    rw [ho] at c3
    clear hg
    go_wp2
    go_end0
    exact ⟨⟨_, rfl⟩, by rw [HG.out]; exact h, Kp.refl _ _⟩
  · have ho' : d.off = false := by simpa using ho
    rw [ho'] at c3
    by_cases hm : n < -1
    · have hg : cutD d n = { d with fuse := -1 } := by simp [cutD, ho', Int.max_eq_right (by omega : n ≤ -1)]
      have HG := Lib.hid hg
      have hw := h.setFuse (-1) (by omega)
      have kw := kp1_set (w := w) (F := fun i => i = g) rfl 4 (.int .i64 (-1))
      clear hg ho
      go_wp2
      go_end0
      exact ⟨⟨_, rfl⟩, by rw [HG.out]; exact hw, kw⟩
    · have hg : cutD d n = { d with fuse := n } := by simp [cutD, ho', Int.max_eq_left (by omega : -1 ≤ n)]
      have HG := Lib.hid hg
      have hw := h.setFuse n (by omega)
      have kw := kp1_set (w := w) (F := fun i => i = g) rfl 4 (.int .i64 n)
      clear hg ho
      go_wp2
      go_end0
      exact ⟨⟨_, rfl⟩, by rw [HG.out]; exact hw, kw⟩
end Go.Proofs.Ythkbgbbejgpeaaa
