/- slices.Sort over a slice of one's own. -/
import Derived.Test.YthkbgbbejgpeaaaDJ
import Derived.Test.YthkbgbbejgpeaaaDZ
import Derived.Sort.OwnSortedInts
namespace Go.Proofs.Ythkbgbbejgpeaaa
open Go Go.RowKit
set_option maxRecDepth 100000

theorem sort_c {w : World} {F : Nat → Prop} {v : Value} {zs : List Int} (h : OwC w 3 1 F v zs.length (zs.map (Value.int .i64))) (hl : zs.length < 4611686018427387904) :
    Calls Try.prog 54 #[v] w fun e w' => e = .returned (.tuple #[]) ∧ OwC w' 3 1 F v zs.length ((zs.mergeSort fun x y => decide (x ≤ y)).map (Value.int .i64)) ∧ Kp F w w' := by
  have hfit := h.fit
  rcases h.own.2 with ⟨rfl, hz⟩ | ⟨g, cap, cur, rfl, hg0, hb, hn, hcap, hsz, ht⟩
  · obtain rfl : zs = [] := List.eq_nil_of_length_eq_zero hz
    refine (Try.slices_Sort_int_none none 0 w).mono ?_
    rintro e w' ⟨rfl, rfl⟩
    exact ⟨rfl, by simpa using h, Kp.refl _ _⟩
  · have hlt : g < w.heap.size := h.lt g rfl
    refine (Try.slices_Sort_int g 0 cap zs w (holds_of_blockI hb (by rwa [Nat.mul_one] at ht)) hlt hl).mono ?_
    rintro e w' ⟨rfl, n, os, rfl⟩
    have hgr := grownBy_sortedI (w := w) (g := g) (n := n) (os := os) (zs.mergeSort fun x y => decide (x ≤ y)).toArray
    refine ⟨rfl, ⟨ownsRow_sortedI (by simp) hg0 hb hn hcap hsz, hfit⟩, hgr.os, hgr.tape, hgr.output, hgr.size, fun k hk hne => hgr.block k hk (fun e => hne ?_)⟩
    injection e with e
    rw [e]
    exact hfit g rfl
end Go.Proofs.Ythkbgbbejgpeaaa
