/- The helpers of the statements on bundles: given. -/
import Derived.Test.YteokkpmndfekoaaBD
namespace Go.Proofs.Yteokkpmndfekoaa
open Go Go.RowKit
set_option maxRecDepth 100000

/-- a bundle as it is handed in: all of it in memory of its own, marks behind -/
structure GivenM (w : World) (g : Nat) (dv : Nat → Value) (pv : Value) (b : Bdl) : Prop where
  row : ∀ j (h : j < b.bl.length), RowAt w ⟨g, j * 4, none⟩ [n64 b.bl[j].ty, n64 b.bl[j].nu, n64 b.bl[j].fl, dv j]
  dat : ∀ j (h : j < b.bl.length), MkB w (dv j) b.bl[j].da
  r1 : RowAt w ⟨g, b.bl.length * 4, none⟩ [n64 0, n64 0, n64 77, .slice none 0 0]
  r2 : RowAt w ⟨g, (b.bl.length + 1) * 4, none⟩ [n64 0, n64 0, n64 78, .slice none 0 0]
  pay : MkB w pv b.pl
theorem GivenM.keepN {w w' : World} {g : Nat} {dv : Nat → Value} {pv : Value} {b : Bdl} (h : GivenM w g dv pv b) (k : KpN w w') : GivenM w' g dv pv b := ⟨fun j hj => (h.row j hj).keepN k, fun j hj => (h.dat j hj).keepN k, h.r1.keepN k, h.r2.keepN k, h.pay.keepN k⟩
def GivenP (b : Bdl) (w : World) (e : Ending) (w' : World) : Prop := ∃ g dv pv, e = .returned (bdV b (.slice (some ⟨g, 0, none⟩) b.bl.length (b.bl.length + 2)) pv) ∧ GivenM w' g dv pv b ∧ KpN w w'
/-- a block of cells, all of them -/
def CellsAt (w : World) (g : Nat) (cs : List Value) : Prop := RowAt w ⟨g, 0, none⟩ cs ∧ ∀ j, w.frozen? ⟨g, j, none⟩ = false
theorem CellsAt.keep {w w' : World} {g : Nat} {cs : List Value} (h : CellsAt w g cs) (hl : g < w.heap.size) {S : Nat → Prop} (k : Kp S w w') (hs : ¬ S g) : CellsAt w' g cs := ⟨h.1.keep k hs, fun j => by rw [k.frozen hl hs]; exact h.2 j⟩
theorem CellsAt.there {w : World} {g : Nat} {cs : List Value} (h : CellsAt w g cs) (n : Nat) (hn : n ≤ cs.length) : w.there g 0 n := fun j hj => by
  have := h.1 j cs[j] (List.getElem?_eq_getElem (by omega))
  rw [Addr.add_mid, Nat.zero_add] at this
  rw [Nat.zero_add, this]
  exact ⟨rfl, h.2 j⟩
theorem CellsAt.at_ {w : World} {g : Nat} {cs : List Value} (h : CellsAt w g cs) (j : Nat) {v : Value} (hj : cs[j]? = some v) : w.cell? ⟨g, j, none⟩ = some v := by
  have := h.1 j v hj
  rwa [Addr.add_mid, Nat.zero_add] at this
theorem CellsAt.put {w : World} {g : Nat} {cs ds : List Value} (h : CellsAt w g cs) (hl : ds.length = cs.length) : CellsAt (w.setCells g 0 ds) g ds := by
  refine ⟨fun j v hj => ?_, fun j => by rw [World.frozen?_setCells]; exact h.2 j⟩
  rw [Addr.add_mid]
  exact World.rangeAt_setCells_same w g 0 ds (h.there _ (by omega)) j v hj
theorem CellsAt.new (w : World) (cs : List Value) (t : TypeId) : CellsAt (w.alloc (.cells cs.toArray t)) w.heap.size cs := by
  refine ⟨fun j v hj => ?_, fun j => frozen_of_row _ _ j _ _ (heap_alloc_new w _)⟩
  rw [add_plain', cell_of_row _ _ _ _ _ _ (heap_alloc_new w _)]
  simpa using hj
theorem kp1_set3 {w : World} (g i : Nat) (u : Value) : Kp (fun x => x = g) w (w.setCell ⟨g, i, none⟩ u) := (Kp.refl (fun x => x = g) w).setCell (p := ⟨g, i, none⟩) (.inl rfl) u
set_option maxHeartbeats 12800000 in
theorem given_c {w : World} {bv pv : Value} {b : Bdl} (h : RdBd w bv pv b) (hsz : bdSize b ≤ 10000000) : Calls Try.prog 13 #[bdV b bv pv] w (GivenP b w) := by
  obtain ⟨hbl, hpl, hda⟩ := bdSize_len b
  obtain ⟨hok, hb, hp⟩ := h
  obtain ⟨bA, bc, rfl, hbc⟩ := hb.form
  obtain ⟨pA, pc, rfl, -⟩ := hp.form
  obtain ⟨fl, e0, e1, e2, e3, e4, e5, ti, sq, li, bl, pl⟩ := b
  dsimp only at hb hp hbc hbl hpl hda hok ⊢
  obtain ⟨n, hn⟩ : ∃ n, bl.length = n := ⟨_, rfl⟩
  obtain ⟨m, hm⟩ : ∃ m, pl.length = m := ⟨_, rfl⟩
  rw [hn] at hb hbc hbl ⊢
  rw [hm] at hp hpl ⊢
  have hnb : n ≤ 2500000 := by omega
  have hmb : m ≤ 10000000 := by omega
  have kb : KpN w ((w.alloc (.cells #[n64 fl, n64 e0, n64 e1, n64 e2, n64 e3, n64 e4, n64 e5, n64 ti, n64 sq, n64 li, .slice bA n bc, .slice pA m pc] 29)).alloc (.cells #[.int .u64 0, .int .u64 0, .int .u64 0, .int .u64 0, .int .u64 0, .int .u64 0, .int .u64 0, .int .u64 0, .int .u64 0, .int .u64 0, .slice none 0 0, .slice none 0 0] 34)) := ((Kp.refl _ w).alloc _).alloc _
  have hz1 : ((w.alloc (.cells #[n64 fl, n64 e0, n64 e1, n64 e2, n64 e3, n64 e4, n64 e5, n64 ti, n64 sq, n64 li, .slice bA n bc, .slice pA m pc] 29)).alloc (.cells #[.int .u64 0, .int .u64 0, .int .u64 0, .int .u64 0, .int .u64 0, .int .u64 0, .int .u64 0, .int .u64 0, .int .u64 0, .int .u64 0, .slice none 0 0, .slice none 0 0] 34)).heap.size = w.heap.size + 2 := by simp
  have hbox : CellsAt ((w.alloc (.cells #[n64 fl, n64 e0, n64 e1, n64 e2, n64 e3, n64 e4, n64 e5, n64 ti, n64 sq, n64 li, .slice bA n bc, .slice pA m pc] 29)).alloc (.cells #[.int .u64 0, .int .u64 0, .int .u64 0, .int .u64 0, .int .u64 0, .int .u64 0, .int .u64 0, .int .u64 0, .int .u64 0, .int .u64 0, .slice none 0 0, .slice none 0 0] 34)) w.heap.size [n64 fl, n64 e0, n64 e1, n64 e2, n64 e3, n64 e4, n64 e5, n64 ti, n64 sq, n64 li, .slice bA n bc, .slice pA m pc] := (CellsAt.new w [n64 fl, n64 e0, n64 e1, n64 e2, n64 e3, n64 e4, n64 e5, n64 ti, n64 sq, n64 li, .slice bA n bc, .slice pA m pc] _).keep (by simp) ((Kp.refl (fun _ => False) _).alloc _) (fun x => x)
  have hres : CellsAt ((w.alloc (.cells #[n64 fl, n64 e0, n64 e1, n64 e2, n64 e3, n64 e4, n64 e5, n64 ti, n64 sq, n64 li, .slice bA n bc, .slice pA m pc] 29)).alloc (.cells #[.int .u64 0, .int .u64 0, .int .u64 0, .int .u64 0, .int .u64 0, .int .u64 0, .int .u64 0, .int .u64 0, .int .u64 0, .int .u64 0, .slice none 0 0, .slice none 0 0] 34)) (w.heap.size + 1) [.int .u64 0, .int .u64 0, .int .u64 0, .int .u64 0, .int .u64 0, .int .u64 0, .int .u64 0, .int .u64 0, .int .u64 0, .int .u64 0, .slice none 0 0, .slice none 0 0] := by
    have := CellsAt.new (w.alloc (.cells #[n64 fl, n64 e0, n64 e1, n64 e2, n64 e3, n64 e4, n64 e5, n64 ti, n64 sq, n64 li, .slice bA n bc, .slice pA m pc] 29)) [.int .u64 0, .int .u64 0, .int .u64 0, .int .u64 0, .int .u64 0, .int .u64 0, .int .u64 0, .int .u64 0, .int .u64 0, .int .u64 0, .slice none 0 0, .slice none 0 0] 34
    rwa [show (w.alloc (.cells #[n64 fl, n64 e0, n64 e1, n64 e2, n64 e3, n64 e4, n64 e5, n64 ti, n64 sq, n64 li, .slice bA n bc, .slice pA m pc] 29)).heap.size = w.heap.size + 1 by simp] at this
  obtain ⟨w1, hw1⟩ : ∃ w1, ((w.alloc (.cells #[n64 fl, n64 e0, n64 e1, n64 e2, n64 e3, n64 e4, n64 e5, n64 ti, n64 sq, n64 li, .slice bA n bc, .slice pA m pc] 29)).alloc (.cells #[.int .u64 0, .int .u64 0, .int .u64 0, .int .u64 0, .int .u64 0, .int .u64 0, .int .u64 0, .int .u64 0, .int .u64 0, .int .u64 0, .slice none 0 0, .slice none 0 0] 34)) = w1 := ⟨_, rfl⟩
  rw [hw1] at kb hz1 hbox hres
  have HW1 := Lib.hid hw1
  have HB := Lib.hid (SlAt.keep hb kb (fun x y => x.keep y))
  have HPL := Lib.hid (hp.keepN kb)
  have HN := Lib.hid (And.intro hn hm)
  have HZ := Lib.hid hz1
  have HBX := Lib.hid (And.intro hbox hres)
  have HDA := Lib.hid (And.intro hda hsz)
  clear hbox hres hw1 hb hp hn hm hz1 hda hsz hok
  go_enter Try.func13, Try.ntmps13
  go_wp2_with fail
  rw [HW1.out]
  refine rg_begin 32 (fun _ => False) (by kernel_rfl) (fun w3 d3 => ?_)
  have hz13 := d3.size
  have hbx3 : CellsAt w3 w.heap.size [n64 fl, n64 e0, n64 e1, n64 e2, n64 e3, n64 e4, n64 e5, n64 ti, n64 sq, n64 li, .slice bA n bc, .slice pA m pc] := HBX.out.1.keep (by have := HZ.out; omega) d3 (fun x => x)
  have hlt3 : w.heap.size < w3.heap.size := by have := HZ.out; omega
  refine rg_take 0 (d := (some 7)) (v := .pointer (some ⟨w.heap.size, 0, none⟩)) (by decide) rfl rfl (by kernel_rfl) (by kernel_rfl) (by kernel_rfl) (fun _ _ _ h => h) rfl (fun W => by go_simp) ?_
  conv => arg 8; simp only [Act.put, List.setIfInBounds_toArray, List.set_cons_zero, List.set_cons_succ]
  refine rg_read 1 (d := (some 8)) (v := n64 fl) (by decide) (by kernel_rfl) (by kernel_rfl) rfl rfl (by kernel_rfl) (by kernel_rfl) (by kernel_rfl) (fun _ _ _ h => h) rfl (fun W hW => by have hc := (hW.cell (p := ⟨w.heap.size, 0, none⟩) (hlt3) (fun x => x)).trans (hbx3.at_ 0 rfl); go_simp) ?_
  conv => arg 8; simp only [Act.put, List.setIfInBounds_toArray, List.set_cons_zero, List.set_cons_succ]
  refine rg_take 2 (d := (some 9)) (v := .pointer (some ⟨w.heap.size, 1, none⟩)) (by decide) rfl rfl (by kernel_rfl) (by kernel_rfl) (by kernel_rfl) (fun _ _ _ h => h) rfl (fun W => by go_simp) ?_
  conv => arg 8; simp only [Act.put, List.setIfInBounds_toArray, List.set_cons_zero, List.set_cons_succ]
  refine rg_take 3 (d := (some 10)) (v := .pointer (some ⟨w.heap.size, 1, none⟩)) (by decide) rfl rfl (by kernel_rfl) (by kernel_rfl) (by kernel_rfl) (fun _ _ _ h => h) rfl (fun W => by go_simp) ?_
  conv => arg 8; simp only [Act.put, List.setIfInBounds_toArray, List.set_cons_zero, List.set_cons_succ]
  refine rg_read 4 (d := (some 11)) (v := n64 e0) (by decide) (by kernel_rfl) (by kernel_rfl) rfl rfl (by kernel_rfl) (by kernel_rfl) (by kernel_rfl) (fun _ _ _ h => h) rfl (fun W hW => by have hc := (hW.cell (p := ⟨w.heap.size, 1, none⟩) (hlt3) (fun x => x)).trans (hbx3.at_ 1 rfl); go_simp) ?_
  conv => arg 8; simp only [Act.put, List.setIfInBounds_toArray, List.set_cons_zero, List.set_cons_succ]
  refine rg_take 5 (d := (some 12)) (v := .pointer (some ⟨w.heap.size, 1, none⟩)) (by decide) rfl rfl (by kernel_rfl) (by kernel_rfl) (by kernel_rfl) (fun _ _ _ h => h) rfl (fun W => by go_simp) ?_
  conv => arg 8; simp only [Act.put, List.setIfInBounds_toArray, List.set_cons_zero, List.set_cons_succ]
  refine rg_take 6 (d := (some 13)) (v := .pointer (some ⟨w.heap.size, 2, none⟩)) (by decide) rfl rfl (by kernel_rfl) (by kernel_rfl) (by kernel_rfl) (fun _ _ _ h => h) rfl (fun W => by go_simp) ?_
  conv => arg 8; simp only [Act.put, List.setIfInBounds_toArray, List.set_cons_zero, List.set_cons_succ]
  refine rg_read 7 (d := (some 14)) (v := n64 e1) (by decide) (by kernel_rfl) (by kernel_rfl) rfl rfl (by kernel_rfl) (by kernel_rfl) (by kernel_rfl) (fun _ _ _ h => h) rfl (fun W hW => by have hc := (hW.cell (p := ⟨w.heap.size, 2, none⟩) (hlt3) (fun x => x)).trans (hbx3.at_ 2 rfl); go_simp) ?_
  conv => arg 8; simp only [Act.put, List.setIfInBounds_toArray, List.set_cons_zero, List.set_cons_succ]
  refine rg_take 8 (d := (some 15)) (v := .agg #[n64 e0, n64 e1]) (by decide) rfl rfl (by kernel_rfl) (by kernel_rfl) (by kernel_rfl) (fun _ _ _ h => h) rfl (fun W => run_buildE rfl rfl) ?_
  conv => arg 8; simp only [Act.put, List.setIfInBounds_toArray, List.set_cons_zero, List.set_cons_succ]
  refine rg_take 9 (d := (some 16)) (v := .pointer (some ⟨w.heap.size, 1, none⟩)) (by decide) rfl rfl (by kernel_rfl) (by kernel_rfl) (by kernel_rfl) (fun _ _ _ h => h) rfl (fun W => by go_simp) ?_
  conv => arg 8; simp only [Act.put, List.setIfInBounds_toArray, List.set_cons_zero, List.set_cons_succ]
  refine rg_take 10 (d := (some 17)) (v := .pointer (some ⟨w.heap.size, 3, none⟩)) (by decide) rfl rfl (by kernel_rfl) (by kernel_rfl) (by kernel_rfl) (fun _ _ _ h => h) rfl (fun W => by go_simp) ?_
  conv => arg 8; simp only [Act.put, List.setIfInBounds_toArray, List.set_cons_zero, List.set_cons_succ]
  refine rg_read 11 (d := (some 18)) (v := n64 e2) (by decide) (by kernel_rfl) (by kernel_rfl) rfl rfl (by kernel_rfl) (by kernel_rfl) (by kernel_rfl) (fun _ _ _ h => h) rfl (fun W hW => by have hc := (hW.cell (p := ⟨w.heap.size, 3, none⟩) (hlt3) (fun x => x)).trans (hbx3.at_ 3 rfl); go_simp) ?_
  conv => arg 8; simp only [Act.put, List.setIfInBounds_toArray, List.set_cons_zero, List.set_cons_succ]
  refine rg_take 12 (d := (some 19)) (v := .pointer (some ⟨w.heap.size, 1, none⟩)) (by decide) rfl rfl (by kernel_rfl) (by kernel_rfl) (by kernel_rfl) (fun _ _ _ h => h) rfl (fun W => by go_simp) ?_
  conv => arg 8; simp only [Act.put, List.setIfInBounds_toArray, List.set_cons_zero, List.set_cons_succ]
  refine rg_take 13 (d := (some 20)) (v := .pointer (some ⟨w.heap.size, 4, none⟩)) (by decide) rfl rfl (by kernel_rfl) (by kernel_rfl) (by kernel_rfl) (fun _ _ _ h => h) rfl (fun W => by go_simp) ?_
  conv => arg 8; simp only [Act.put, List.setIfInBounds_toArray, List.set_cons_zero, List.set_cons_succ]
  refine rg_read 14 (d := (some 21)) (v := n64 e3) (by decide) (by kernel_rfl) (by kernel_rfl) rfl rfl (by kernel_rfl) (by kernel_rfl) (by kernel_rfl) (fun _ _ _ h => h) rfl (fun W hW => by have hc := (hW.cell (p := ⟨w.heap.size, 4, none⟩) (hlt3) (fun x => x)).trans (hbx3.at_ 4 rfl); go_simp) ?_
  conv => arg 8; simp only [Act.put, List.setIfInBounds_toArray, List.set_cons_zero, List.set_cons_succ]
  refine rg_take 15 (d := (some 22)) (v := .agg #[n64 e2, n64 e3]) (by decide) rfl rfl (by kernel_rfl) (by kernel_rfl) (by kernel_rfl) (fun _ _ _ h => h) rfl (fun W => run_buildE rfl rfl) ?_
  conv => arg 8; simp only [Act.put, List.setIfInBounds_toArray, List.set_cons_zero, List.set_cons_succ]
  refine rg_take 16 (d := (some 23)) (v := .pointer (some ⟨w.heap.size, 1, none⟩)) (by decide) rfl rfl (by kernel_rfl) (by kernel_rfl) (by kernel_rfl) (fun _ _ _ h => h) rfl (fun W => by go_simp) ?_
  conv => arg 8; simp only [Act.put, List.setIfInBounds_toArray, List.set_cons_zero, List.set_cons_succ]
  refine rg_take 17 (d := (some 24)) (v := .pointer (some ⟨w.heap.size, 5, none⟩)) (by decide) rfl rfl (by kernel_rfl) (by kernel_rfl) (by kernel_rfl) (fun _ _ _ h => h) rfl (fun W => by go_simp) ?_
  conv => arg 8; simp only [Act.put, List.setIfInBounds_toArray, List.set_cons_zero, List.set_cons_succ]
  refine rg_read 18 (d := (some 25)) (v := n64 e4) (by decide) (by kernel_rfl) (by kernel_rfl) rfl rfl (by kernel_rfl) (by kernel_rfl) (by kernel_rfl) (fun _ _ _ h => h) rfl (fun W hW => by have hc := (hW.cell (p := ⟨w.heap.size, 5, none⟩) (hlt3) (fun x => x)).trans (hbx3.at_ 5 rfl); go_simp) ?_
  conv => arg 8; simp only [Act.put, List.setIfInBounds_toArray, List.set_cons_zero, List.set_cons_succ]
  refine rg_take 19 (d := (some 26)) (v := .pointer (some ⟨w.heap.size, 1, none⟩)) (by decide) rfl rfl (by kernel_rfl) (by kernel_rfl) (by kernel_rfl) (fun _ _ _ h => h) rfl (fun W => by go_simp) ?_
  conv => arg 8; simp only [Act.put, List.setIfInBounds_toArray, List.set_cons_zero, List.set_cons_succ]
  refine rg_take 20 (d := (some 27)) (v := .pointer (some ⟨w.heap.size, 6, none⟩)) (by decide) rfl rfl (by kernel_rfl) (by kernel_rfl) (by kernel_rfl) (fun _ _ _ h => h) rfl (fun W => by go_simp) ?_
  conv => arg 8; simp only [Act.put, List.setIfInBounds_toArray, List.set_cons_zero, List.set_cons_succ]
  refine rg_read 21 (d := (some 28)) (v := n64 e5) (by decide) (by kernel_rfl) (by kernel_rfl) rfl rfl (by kernel_rfl) (by kernel_rfl) (by kernel_rfl) (fun _ _ _ h => h) rfl (fun W hW => by have hc := (hW.cell (p := ⟨w.heap.size, 6, none⟩) (hlt3) (fun x => x)).trans (hbx3.at_ 6 rfl); go_simp) ?_
  conv => arg 8; simp only [Act.put, List.setIfInBounds_toArray, List.set_cons_zero, List.set_cons_succ]
  refine rg_take 22 (d := (some 29)) (v := .agg #[n64 e4, n64 e5]) (by decide) rfl rfl (by kernel_rfl) (by kernel_rfl) (by kernel_rfl) (fun _ _ _ h => h) rfl (fun W => run_buildE rfl rfl) ?_
  conv => arg 8; simp only [Act.put, List.setIfInBounds_toArray, List.set_cons_zero, List.set_cons_succ]
  refine rg_take 23 (d := (some 30)) (v := .pointer (some ⟨w.heap.size, 7, none⟩)) (by decide) rfl rfl (by kernel_rfl) (by kernel_rfl) (by kernel_rfl) (fun _ _ _ h => h) rfl (fun W => by go_simp) ?_
  conv => arg 8; simp only [Act.put, List.setIfInBounds_toArray, List.set_cons_zero, List.set_cons_succ]
  refine rg_read 24 (d := (some 31)) (v := .agg #[n64 ti, n64 sq]) (by decide) (by kernel_rfl) (by kernel_rfl) rfl rfl (by kernel_rfl) (by kernel_rfl) (by kernel_rfl) (fun _ _ _ h => h) rfl (fun W hW => by exact run_load_op (cs := [n64 ti, n64 sq]) (fun j v hj => by rw [Addr.add_mid]; match j, hj with | 0, hj => (rw [← Option.some.inj hj]; exact (hbx3.keep hlt3 hW (fun x => x)).at_ 7 rfl) | 1, hj => (rw [← Option.some.inj hj]; exact (hbx3.keep hlt3 hW (fun x => x)).at_ 8 rfl)) rfl Try.underlying25 rfl (by kernel_rfl)) ?_
  conv => arg 8; simp only [Act.put, List.setIfInBounds_toArray, List.set_cons_zero, List.set_cons_succ]
  refine rg_take 25 (d := (some 32)) (v := .pointer (some ⟨w.heap.size, 9, none⟩)) (by decide) rfl rfl (by kernel_rfl) (by kernel_rfl) (by kernel_rfl) (fun _ _ _ h => h) rfl (fun W => by go_simp) ?_
  conv => arg 8; simp only [Act.put, List.setIfInBounds_toArray, List.set_cons_zero, List.set_cons_succ]
  refine rg_read 26 (d := (some 33)) (v := n64 li) (by decide) (by kernel_rfl) (by kernel_rfl) rfl rfl (by kernel_rfl) (by kernel_rfl) (by kernel_rfl) (fun _ _ _ h => h) rfl (fun W hW => by have hc := (hW.cell (p := ⟨w.heap.size, 9, none⟩) (hlt3) (fun x => x)).trans (hbx3.at_ 9 rfl); go_simp) ?_
  conv => arg 8; simp only [Act.put, List.setIfInBounds_toArray, List.set_cons_zero, List.set_cons_succ]
  refine rg_take 27 (d := (some 34)) (v := .pointer (some ⟨w.heap.size, 11, none⟩)) (by decide) rfl rfl (by kernel_rfl) (by kernel_rfl) (by kernel_rfl) (fun _ _ _ h => h) rfl (fun W => by go_simp) ?_
  conv => arg 8; simp only [Act.put, List.setIfInBounds_toArray, List.set_cons_zero, List.set_cons_succ]
  refine rg_read 28 (d := (some 35)) (v := .slice pA m pc) (by decide) (by kernel_rfl) (by kernel_rfl) rfl rfl (by kernel_rfl) (by kernel_rfl) (by kernel_rfl) (fun _ _ _ h => h) rfl (fun W hW => by have hc := (hW.cell (p := ⟨w.heap.size, 11, none⟩) (hlt3) (fun x => x)).trans (hbx3.at_ 11 rfl); go_simp) ?_
  conv => arg 8; simp only [Act.put, List.setIfInBounds_toArray, List.set_cons_zero, List.set_cons_succ]
  refine rg_callOr 29 31 (d := (some 36)) (de := (some 3)) (w2 := w3.alloc (.cells #[.int .u64 0, .int .u64 0, .int .u64 0, .int .u64 0, .int .u64 0, .int .u64 0, .int .u64 0, .int .u64 0, .int .u64 0, .int .u64 0, .slice none 0 0, .slice none 0 0] 34)) (u := .pointer (some ⟨w3.heap.size, 0, none⟩)) (by kernel_rfl) (mkb_c (HPL.out.keepN d3) (by rw [HN.out.2]; omega)) rfl rfl rfl rfl (by kernel_rfl) rfl rfl rfl (run_alloc34 w3) ((Kp.refl _ w3).alloc _) ?_ ?_
  · intro e w'0 hR0
    revert hR0
    revert w'0
    revert e
    rintro e w4 ⟨vp, rfl, hm4, hf4, k4⟩
    refine ⟨_, rfl, k4, ?_⟩
    conv => arg 8; simp only [Act.put, List.setIfInBounds_toArray, List.set_cons_zero, List.set_cons_succ]
    obtain ⟨A4, c4, rfl, -⟩ := hm4.rd.form
    have hz4 := k4.size
    have hB : ∃ W g3, (w4.alloc (.cells #[.int .u64 0, .int .u64 0, .int .u64 0, .int .u64 0, .int .u64 0, .int .u64 0, .int .u64 0, .int .u64 0, .int .u64 0, .int .u64 0, .slice none 0 0, .slice none 0 0] 34)).setCells w4.heap.size 0 [n64 fl, n64 e0, n64 e1, n64 e2, n64 e3, n64 e4, n64 e5, n64 ti, n64 sq, n64 li, .slice none 0 0, .slice A4 pl.length c4] = W ∧ w4.heap.size = g3 ∧ w1.heap.size ≤ g3 ∧ g3 < W.heap.size ∧ KpN w1 W ∧ CellsAt W g3 [n64 fl, n64 e0, n64 e1, n64 e2, n64 e3, n64 e4, n64 e5, n64 ti, n64 sq, n64 li, .slice none 0 0, .slice A4 pl.length c4] ∧ MkB W (.slice A4 pl.length c4) pl ∧ ∀ x, (Value.slice A4 pl.length c4).ownBlock = some x → w1.heap.size ≤ x ∧ x ≠ g3 := by
      have kc := Kp.setCells w4.heap.size [n64 fl, n64 e0, n64 e1, n64 e2, n64 e3, n64 e4, n64 e5, n64 ti, n64 sq, n64 li, .slice none 0 0, .slice A4 pl.length c4] 0 (w4.alloc (.cells #[.int .u64 0, .int .u64 0, .int .u64 0, .int .u64 0, .int .u64 0, .int .u64 0, .int .u64 0, .int .u64 0, .int .u64 0, .int .u64 0, .slice none 0 0, .slice none 0 0] 34))
      have hza : (w4.alloc (.cells #[.int .u64 0, .int .u64 0, .int .u64 0, .int .u64 0, .int .u64 0, .int .u64 0, .int .u64 0, .int .u64 0, .int .u64 0, .int .u64 0, .slice none 0 0, .slice none 0 0] 34)).heap.size = w4.heap.size + 1 := by simp
      have hzc := kc.size
      exact ⟨_, _, rfl, rfl, by omega, by omega, ((d3.thenN k4).alloc _).fresh kc (fun i hi => by rw [hi]; omega), (CellsAt.new w4 [.int .u64 0, .int .u64 0, .int .u64 0, .int .u64 0, .int .u64 0, .int .u64 0, .int .u64 0, .int .u64 0, .int .u64 0, .int .u64 0, .slice none 0 0, .slice none 0 0] _).put rfl, (hm4.keepN ((Kp.refl _ _).alloc _)).keep kc (fun x hx e => by have := (hf4 x hx).2; omega), fun x hx => ⟨by have := (hf4 x hx).1; omega, by have := (hf4 x hx).2; omega⟩⟩
    refine rg_take 30 (d := (some 37)) (v := .agg #[n64 fl, n64 e0, n64 e1, n64 e2, n64 e3, n64 e4, n64 e5, n64 ti, n64 sq, n64 li, .slice none 0 0, .slice A4 pl.length c4]) (by decide) rfl rfl (by kernel_rfl) (by kernel_rfl) (by kernel_rfl) (fun _ _ _ h => h) rfl (fun W => run_buildBd rfl rfl rfl rfl rfl rfl rfl) ?_
    conv => arg 8; simp only [Act.put, List.setIfInBounds_toArray, List.set_cons_zero, List.set_cons_succ]
    refine rg_onlyW 31 (w' := w4.alloc (.cells #[.int .u64 0, .int .u64 0, .int .u64 0, .int .u64 0, .int .u64 0, .int .u64 0, .int .u64 0, .int .u64 0, .int .u64 0, .int .u64 0, .slice none 0 0, .slice none 0 0] 34)) (d := (some 3)) (v := .pointer (some ⟨w4.heap.size, 0, none⟩)) rfl rfl (by kernel_rfl) rfl (run_alloc34 w4) ((Kp.refl _ w4).alloc _) ?_
    conv => arg 8; simp only [Act.put, List.setIfInBounds_toArray, List.set_cons_zero, List.set_cons_succ]
    refine rg_lastS (G := fun _ => True) ((w4.alloc (.cells #[.int .u64 0, .int .u64 0, .int .u64 0, .int .u64 0, .int .u64 0, .int .u64 0, .int .u64 0, .int .u64 0, .int .u64 0, .int .u64 0, .slice none 0 0, .slice none 0 0] 34)).setCells w4.heap.size 0 [n64 fl, n64 e0, n64 e1, n64 e2, n64 e3, n64 e4, n64 e5, n64 ti, n64 sq, n64 li, .slice none 0 0, .slice A4 pl.length c4]) (d := none) rfl rfl (by kernel_rfl) rfl (run_store_op (run_storeAt_mid _ w4.heap.size 0 34 #[n64 fl, n64 e0, n64 e1, n64 e2, n64 e3, n64 e4, n64 e5, n64 ti, n64 sq, n64 li, .slice none 0 0, .slice A4 pl.length c4] ((CellsAt.new w4 [.int .u64 0, .int .u64 0, .int .u64 0, .int .u64 0, .int .u64 0, .int .u64 0, .int .u64 0, .int .u64 0, .int .u64 0, .int .u64 0, .slice none 0 0, .slice none 0 0] _).there _ (Nat.le_refl _)) (by kernel_rfl) (by kernel_rfl)) rfl rfl) (by kernel_rfl) ?_
    conv => arg 8; simp only [Act.put, List.setIfInBounds_toArray, List.set_cons_zero, List.set_cons_succ]
    refine rg_done (by kernel_rfl) ?_
    obtain ⟨W, g3, hWe, hge, hg1, hg2, kW, hcW, hmW, hpb⟩ := hB
    have HPB := Lib.hid hpb
    clear hpb
    rw [hWe, hge]
    have hz1 := HZ.out
    have hzk := kW.size
    have hbxW : CellsAt W w.heap.size [n64 fl, n64 e0, n64 e1, n64 e2, n64 e3, n64 e4, n64 e5, n64 ti, n64 sq, n64 li, .slice bA n bc, .slice pA m pc] := HBX.out.1.keep (by omega) kW (fun x => x)
    have hrsW : CellsAt W (w.heap.size + 1) [.int .u64 0, .int .u64 0, .int .u64 0, .int .u64 0, .int .u64 0, .int .u64 0, .int .u64 0, .int .u64 0, .int .u64 0, .int .u64 0, .slice none 0 0, .slice none 0 0] := HBX.out.2.keep (by omega) kW (fun x => x)
    obtain ⟨W2, hmk, hz2, k2, hall⟩ := AllM.made W n (fun _ => .slice none 0 0) bl (by omega)
    have b10 : W.cell? ⟨w.heap.size, 10, none⟩ = some (.slice bA n bc) := hbxW.at_ 10 rfl
    have HALL := Lib.hid hall
    have HCW := Lib.hid (And.intro hbxW (And.intro hrsW (And.intro hcW hmW)))
    have hga : W.heap.size < W2.heap.size := by omega
    have HZZ := Lib.hid (And.intro hz1 (And.intro hzk (And.intro hz2 (And.intro hg1 hg2))))
    clear hall hbxW hrsW hcW hmW hWe hge hz1 hzk hz2 hg1 hg2
    go_wp2_with fail
    go_loopw [5] (fun i wr => ∃ (q : Nat) (dv : Nat → Value), q ≤ n ∧ i = .int .i64 q ∧ AllM wr W.heap.size n q dv bl ∧ Kp (fun x => x = W.heap.size) W2 wr ∧ ∀ j, j < q → ∀ x, (dv j).ownBlock = some x → W.heap.size ≤ x) (fun i _ => n - (intOf i).toNat)
    case atStart => exact ⟨0, _, Nat.zero_le _, rfl, HALL.out, Kp.refl _ _, fun j hj => by omega⟩
    case round =>
      clear hmk b10
      obtain ⟨q, dv, hq, rfl, hal, hkr, hdv⟩ := hrel
      have HDV := Lib.hid hdv
      clear hdv
      have kWr : KpN W wr := k2.fresh hkr (fun i e => by rw [e]; exact Nat.le_refl _)
      have hzr := hkr.size
      have b10 : wr.cell? ⟨w.heap.size, 10, none⟩ = some (.slice bA n bc) := (HCW.out.1.keep (by have := HZZ.out; omega) kWr (fun x => x)).at_ 10 rfl
      by_cases hlt : q < n
      · have hql : q < bl.length := by rw [HN.out.1]; exact hlt
        obtain ⟨ad, cs, rfl, -, hrow0, ⟨⟨dw, rfl, hdw⟩, -⟩⟩ := HB.out.row q hql
        have hrow := (hrow0.keepN kW).keepN kWr
        have hdr := (hdw.keepN kW).keepN kWr
        have hdl := HDA.out.1 bl[q] (List.getElem_mem hql)
        have hstep := fun (w6 : World) (v : Value) (k6 : KpN wr w6) (hv : MkB w6 v bl[q].da) (hne : ∀ x, v.ownBlock = some x → x ≠ W.heap.size) => (hal.keepN k6 (by omega)).step hql HN.out.1 hv hne
        have hzer := hal.zer q (Nat.le_refl _) (by omega)
        have hfzr := hal.fz
        obtain ⟨xt, hxt⟩ : ∃ x, bl[q].ty = x := ⟨_, rfl⟩
        obtain ⟨xn, hxn⟩ : ∃ x, bl[q].nu = x := ⟨_, rfl⟩
        obtain ⟨xf, hxf⟩ : ∃ x, bl[q].fl = x := ⟨_, rfl⟩
        obtain ⟨xd, hxd⟩ : ∃ x, bl[q].da = x := ⟨_, rfl⟩
        rw [hxt, hxn, hxf] at hrow hstep
        rw [hxd] at hdr hdl hstep
        obtain ⟨dA, dc, rfl, -⟩ := hdr.form
        obtain ⟨xl, hxl⟩ : ∃ x, xd.length = x := ⟨_, rfl⟩
        rw [hxl] at hrow hdr
        have c0 := hrow.c0
        have c1 := hrow.fld 0 rfl
        have c2 := hrow.fld 1 rfl
        have c3 := hrow.fld 2 rfl
        have kx : KpN wr (wr.alloc (.cells #[n64 xt, n64 xn, n64 xf, .slice dA xl dc] 40)) := (Kp.refl _ _).alloc _
        have hqx : ((n : Int) + 2 ≤ (q : Int)) = False := propext ⟨fun h => by omega, fun h => h.elim⟩
        have hcx := CellsAt.new wr [n64 xt, n64 xn, n64 xf, .slice dA xl dc] 40
        have hzx : (wr.alloc (.cells #[n64 xt, n64 xn, n64 xf, .slice dA xl dc] 40)).heap.size = wr.heap.size + 1 := by simp
        have HX := Lib.hid (And.intro hcx (And.intro hdr (And.intro hstep (And.intro hzer (And.intro hfzr (And.intro hxl hdl))))))
        obtain ⟨wx, hwx⟩ : ∃ wx, wr.alloc (.cells #[n64 xt, n64 xn, n64 xf, .slice dA xl dc] 40) = wx := ⟨_, rfl⟩
        rw [hwx] at kx hzx HX
        have HWX := Lib.hid hwx
        clear hrow hrow0 hdr hdw hdl hstep hzer hfzr hal hxt hxn hxf hxd hxl hcx hwx
        go_wp2_with fail
        rw [HWX.out]
        refine rg_begin 13 (fun _ => False) (by kernel_rfl) (fun w5 d5 => ?_)
        have hz5 := d5.size
        have hcx5 := HX.out.1.keep (by omega) d5 (fun x => x)
        have hlx5 : wr.heap.size < w5.heap.size := by omega
        refine rg_take 0 (d := (some 55)) (v := .slice (some ⟨W.heap.size, 0, none⟩) (n + 2) (n + 2)) (by decide) rfl rfl (by kernel_rfl) (by kernel_rfl) (by kernel_rfl) (fun _ _ _ h => h) rfl (fun W => rfl) ?_
        conv => arg 8; simp only [Act.put, List.setIfInBounds_toArray, List.set_cons_zero, List.set_cons_succ]
        refine rg_take 1 (d := (some 56)) (v := .int .i64 q) (by decide) rfl rfl (by kernel_rfl) (by kernel_rfl) (by kernel_rfl) (fun _ _ _ h => h) rfl (fun W => rfl) ?_
        conv => arg 8; simp only [Act.put, List.setIfInBounds_toArray, List.set_cons_zero, List.set_cons_succ]
        refine rg_take 2 (d := (some 57)) (v := .pointer (some ⟨wr.heap.size, 0, none⟩)) (by decide) rfl rfl (by kernel_rfl) (by kernel_rfl) (by kernel_rfl) (fun _ _ _ h => h) rfl (fun W => by go_simp) ?_
        conv => arg 8; simp only [Act.put, List.setIfInBounds_toArray, List.set_cons_zero, List.set_cons_succ]
        refine rg_read 3 (d := (some 58)) (v := n64 xt) (by decide) (by kernel_rfl) (by kernel_rfl) rfl rfl (by kernel_rfl) (by kernel_rfl) (by kernel_rfl) (fun _ _ _ h => h) rfl (fun W hW => by have hc := (hW.cell (p := ⟨wr.heap.size, 0, none⟩) (hlx5) (fun x => x)).trans (hcx5.at_ 0 rfl); go_simp) ?_
        conv => arg 8; simp only [Act.put, List.setIfInBounds_toArray, List.set_cons_zero, List.set_cons_succ]
        refine rg_take 4 (d := (some 59)) (v := .pointer (some ⟨wr.heap.size, 1, none⟩)) (by decide) rfl rfl (by kernel_rfl) (by kernel_rfl) (by kernel_rfl) (fun _ _ _ h => h) rfl (fun W => by go_simp) ?_
        conv => arg 8; simp only [Act.put, List.setIfInBounds_toArray, List.set_cons_zero, List.set_cons_succ]
        refine rg_read 5 (d := (some 60)) (v := n64 xn) (by decide) (by kernel_rfl) (by kernel_rfl) rfl rfl (by kernel_rfl) (by kernel_rfl) (by kernel_rfl) (fun _ _ _ h => h) rfl (fun W hW => by have hc := (hW.cell (p := ⟨wr.heap.size, 1, none⟩) (hlx5) (fun x => x)).trans (hcx5.at_ 1 rfl); go_simp) ?_
        conv => arg 8; simp only [Act.put, List.setIfInBounds_toArray, List.set_cons_zero, List.set_cons_succ]
        refine rg_take 6 (d := (some 61)) (v := .pointer (some ⟨wr.heap.size, 2, none⟩)) (by decide) rfl rfl (by kernel_rfl) (by kernel_rfl) (by kernel_rfl) (fun _ _ _ h => h) rfl (fun W => by go_simp) ?_
        conv => arg 8; simp only [Act.put, List.setIfInBounds_toArray, List.set_cons_zero, List.set_cons_succ]
        refine rg_read 7 (d := (some 62)) (v := n64 xf) (by decide) (by kernel_rfl) (by kernel_rfl) rfl rfl (by kernel_rfl) (by kernel_rfl) (by kernel_rfl) (fun _ _ _ h => h) rfl (fun W hW => by have hc := (hW.cell (p := ⟨wr.heap.size, 2, none⟩) (hlx5) (fun x => x)).trans (hcx5.at_ 2 rfl); go_simp) ?_
        conv => arg 8; simp only [Act.put, List.setIfInBounds_toArray, List.set_cons_zero, List.set_cons_succ]
        refine rg_take 8 (d := (some 63)) (v := .pointer (some ⟨wr.heap.size, 3, none⟩)) (by decide) rfl rfl (by kernel_rfl) (by kernel_rfl) (by kernel_rfl) (fun _ _ _ h => h) rfl (fun W => by go_simp) ?_
        conv => arg 8; simp only [Act.put, List.setIfInBounds_toArray, List.set_cons_zero, List.set_cons_succ]
        refine rg_read 9 (d := (some 64)) (v := .slice dA xl dc) (by decide) (by kernel_rfl) (by kernel_rfl) rfl rfl (by kernel_rfl) (by kernel_rfl) (by kernel_rfl) (fun _ _ _ h => h) rfl (fun W hW => by have hc := (hW.cell (p := ⟨wr.heap.size, 3, none⟩) (hlx5) (fun x => x)).trans (hcx5.at_ 3 rfl); go_simp) ?_
        conv => arg 8; simp only [Act.put, List.setIfInBounds_toArray, List.set_cons_zero, List.set_cons_succ]
        refine rg_call 10 (d := (some 65)) (by kernel_rfl) (mkb_c ((HX.out.2.1.keepN kx).keepN d5) (by have := HX.out.2.2.2.2.2.1; have := HX.out.2.2.2.2.2.2; have := HDA.out.2; omega)) rfl rfl (by kernel_rfl) rfl rfl ?_
        rintro e w6 ⟨vp, rfl, hm6, hf6, k6⟩
        refine ⟨_, rfl, k6, ?_⟩
        conv => arg 8; simp only [Act.put, List.setIfInBounds_toArray, List.set_cons_zero, List.set_cons_succ]
        obtain ⟨A5, c5, rfl, -⟩ := hm6.rd.form
        have k06 : KpN wr w6 := (kx.thenN d5).thenN k6
        have hz6 := k6.size
        have hst := HX.out.2.2.1 w6 _ k06 hm6 (fun x hx e => by have := (hf6 x hx).1; omega)
        have hth : w6.there W.heap.size (q * 4) 4 := (HX.out.2.2.2.1.keepN k06).there (fun j => by rw [k06.frozen (p := ⟨W.heap.size, j, none⟩) (by show W.heap.size < _; omega) (fun x => x)]; exact HX.out.2.2.2.2.1 j) rfl
        refine rg_take 11 (d := (some 66)) (v := .agg #[n64 xt, n64 xn, n64 xf, .slice A5 xd.length c5]) (by decide) rfl rfl (by kernel_rfl) (by kernel_rfl) (by kernel_rfl) (fun _ _ _ h => h) rfl (fun W => run_buildBk rfl rfl rfl rfl) ?_
        conv => arg 8; simp only [Act.put, List.setIfInBounds_toArray, List.set_cons_zero, List.set_cons_succ]
        refine rg_take 12 (d := (some 67)) (v := .pointer (some ⟨W.heap.size, q * 4, none⟩)) (by decide) rfl rfl (by kernel_rfl) (by kernel_rfl) (by kernel_rfl) (fun _ _ _ h => h) rfl (fun W => by go_simp) ?_
        conv => arg 8; simp only [Act.put, List.setIfInBounds_toArray, List.set_cons_zero, List.set_cons_succ]
        refine rg_lastS (G := fun _ => True) (w6.setCells W.heap.size (q * 4) [n64 xt, n64 xn, n64 xf, .slice A5 xd.length c5]) (d := none) rfl rfl (by kernel_rfl) rfl (run_store_op (run_storeAt_mid w6 W.heap.size (q * 4) 37 #[n64 xt, n64 xn, n64 xf, .slice A5 xd.length c5] hth (by kernel_rfl) (by kernel_rfl)) rfl rfl) (by kernel_rfl) ?_
        conv => arg 8; simp only [Act.put, List.setIfInBounds_toArray, List.set_cons_zero, List.set_cons_succ]
        refine rg_done (by kernel_rfl) ?_
        have hfin : ∃ (q' : Nat) (dv : Nat → Value), q' ≤ n ∧ Value.int .i64 ((q : Int) + 1) = .int .i64 q' ∧ AllM (w6.setCells W.heap.size (q * 4) [n64 xt, n64 xn, n64 xf, .slice A5 xd.length c5]) W.heap.size n q' dv bl ∧ Kp (fun x => x = W.heap.size) W2 (w6.setCells W.heap.size (q * 4) [n64 xt, n64 xn, n64 xf, .slice A5 xd.length c5]) ∧ ∀ j, j < q' → ∀ x, (dv j).ownBlock = some x → W.heap.size ≤ x :=
          ⟨q + 1, _, by omega, by go_num, hst, (hkr.thenN k06).trans (Kp.setCells _ _ _ _) (fun _ _ x => x) (fun _ _ x => x), fun j hj x hx => by
            by_cases e : j = q
            · subst e
              rw [upd_same] at hx
              have := (hf6 x hx).1
              omega
            · rw [upd_ne _ _ e] at hx
              exact HDV.out j (by omega) x hx⟩
        have HF := Lib.hid hfin
        clear hfin hst hth hm6 hcx5
        generalize w6.setCells W.heap.size (q * 4) [n64 xt, n64 xn, n64 xf, .slice A5 xd.length c5] = w7 at HF ⊢
        go_wp2_with fail
        exact ⟨HF.out, meas_up hlt⟩
      · have hqn : n = q := by omega
        subst hqn
        have hr1 := hal.zer n (Nat.le_refl _) (by omega)
        have hr2 := hal.zer (n + 1) (by omega) (by omega)
        have hfz := hal.fz
        have hg3W : g3 ≠ W.heap.size := by have := HZZ.out; omega
        have hgw : g3 ≠ w.heap.size + 1 := by have := HZZ.out; omega
        have hgb : W.heap.size ≠ w.heap.size + 1 := by have := HZZ.out; omega
        have hg3l : g3 < wr.heap.size := by have := HZZ.out; omega
        have k5 : Kp (fun x => x = W.heap.size) wr ((wr.setCell ⟨W.heap.size, n * 4 + 2, none⟩ (.int .u64 77)).setCell ⟨W.heap.size, (n + 1) * 4 + 2, none⟩ (.int .u64 78)) := ((Kp.refl (fun x => x = W.heap.size) _).setCell (p := ⟨W.heap.size, n * 4 + 2, none⟩) (.inl rfl) _).setCell (p := ⟨W.heap.size, (n + 1) * 4 + 2, none⟩) (.inl rfl) _
        have k77 : wr.cell? ⟨W.heap.size, n * 4 + 2, none⟩ = some (.int .u64 0) := hr1.range 2 _ rfl
        have f77 := hfz (n * 4 + 2)
        have k78 : (wr.setCell ⟨W.heap.size, n * 4 + 2, none⟩ (.int .u64 77)).cell? ⟨W.heap.size, (n + 1) * 4 + 2, none⟩ = some (.int .u64 0) := (hr2.setApart (.int .u64 77) (by omega)).range 2 _ rfl
        have f78 : (wr.setCell ⟨W.heap.size, n * 4 + 2, none⟩ (.int .u64 77)).frozen? ⟨W.heap.size, (n + 1) * 4 + 2, none⟩ = false := by rw [World.frozen?_setCell]; exact hfz _
        have g1 : RowAt ((wr.setCell ⟨W.heap.size, n * 4 + 2, none⟩ (.int .u64 77)).setCell ⟨W.heap.size, (n + 1) * 4 + 2, none⟩ (.int .u64 78)) ⟨W.heap.size, n * 4, none⟩ [n64 0, n64 0, n64 77, .slice none 0 0] := (hr1.setOne 2 (.int .u64 77) (by simp [zero4])).setApart (.int .u64 78) (by simp [zero4]; omega)
        have g2 : RowAt ((wr.setCell ⟨W.heap.size, n * 4 + 2, none⟩ (.int .u64 77)).setCell ⟨W.heap.size, (n + 1) * 4 + 2, none⟩ (.int .u64 78)) ⟨W.heap.size, (n + 1) * 4, none⟩ [n64 0, n64 0, n64 78, .slice none 0 0] := (hr2.setApart (.int .u64 77) (by omega)).setOne 2 (.int .u64 78) (by simp [zero4])
        have grow : ∀ j (h : j < bl.length), RowAt ((wr.setCell ⟨W.heap.size, n * 4 + 2, none⟩ (.int .u64 77)).setCell ⟨W.heap.size, (n + 1) * 4 + 2, none⟩ (.int .u64 78)) ⟨W.heap.size, j * 4, none⟩ [n64 bl[j].ty, n64 bl[j].nu, n64 bl[j].fl, dv j] := fun j hj => ((hal.row j hj (by rw [← HN.out.1]; exact hj)).setApart (.int .u64 77) (by have := HN.out.1; simp; omega)).setApart (.int .u64 78) (by have := HN.out.1; simp; omega)
        have gdat : ∀ j (h : j < bl.length), MkB ((wr.setCell ⟨W.heap.size, n * 4 + 2, none⟩ (.int .u64 77)).setCell ⟨W.heap.size, (n + 1) * 4 + 2, none⟩ (.int .u64 78)) (dv j) bl[j].da := fun j hj => (hal.dat j hj (by rw [← HN.out.1]; exact hj)).keep k5 (fun x hx e => hal.ne j (by rw [← HN.out.1]; exact hj) x hx e)
        have gpay : MkB ((wr.setCell ⟨W.heap.size, n * 4 + 2, none⟩ (.int .u64 77)).setCell ⟨W.heap.size, (n + 1) * 4 + 2, none⟩ (.int .u64 78)) (.slice A4 pl.length c4) pl := (HCW.out.2.2.2.keepN kWr).keep k5 (fun x hx e => by
          obtain ⟨gp, hv, ho⟩ := HCW.out.2.2.2
          rw [hv] at hx
          have hx : gp = x := Option.some.inj hx
          have := ho.lt gp rfl
          omega)
        have gc3 := ((HCW.out.2.2.1.keep (by have := HZZ.out; omega) kWr (fun x => x)).keep hg3l k5 hg3W)
        have grs := ((HCW.out.2.1.keep (by have := HZZ.out; omega) kWr (fun x => x)).keep (by have := HZZ.out; have := kWr.size; omega) k5 (fun e => hgb e.symm))
        have k05 : KpN w ((wr.setCell ⟨W.heap.size, n * 4 + 2, none⟩ (.int .u64 77)).setCell ⟨W.heap.size, (n + 1) * 4 + 2, none⟩ (.int .u64 78)) := ((kb.thenN kW).thenN kWr).fresh k5 (fun i e => by rw [e]; have := kb.size; have := kW.size; omega)
        obtain ⟨W5, hW5⟩ : ∃ W5, (wr.setCell ⟨W.heap.size, n * 4 + 2, none⟩ (.int .u64 77)).setCell ⟨W.heap.size, (n + 1) * 4 + 2, none⟩ (.int .u64 78) = W5 := ⟨_, rfl⟩
        have hz5' : W5.heap.size = wr.heap.size := by rw [← hW5]; simp
        rw [hW5] at g1 g2 grow gdat gpay gc3 grs k05
        have c310 : W5.cell? ⟨g3, 10, none⟩ = some (.slice none 0 0) := gc3.at_ 10 rfl
        have f310 := gc3.2 10
        have k6 : Kp (fun x => x = g3) W5 (W5.setCell ⟨g3, 10, none⟩ (.slice (some ⟨W.heap.size, 0, none⟩) n (n + 2))) := kp1_set3 g3 10 _
        have gc6 : CellsAt (W5.setCell ⟨g3, 10, none⟩ (.slice (some ⟨W.heap.size, 0, none⟩) n (n + 2))) g3 [n64 fl, n64 e0, n64 e1, n64 e2, n64 e3, n64 e4, n64 e5, n64 ti, n64 sq, n64 li, .slice (some ⟨W.heap.size, 0, none⟩) n (n + 2), .slice A4 pl.length c4] := ⟨by have := gc3.1.setOne 10 (.slice (some ⟨W.heap.size, 0, none⟩) n (n + 2)) (by simp); rw [Nat.zero_add] at this; exact this, fun j => by rw [World.frozen?_setCell]; exact gc3.2 j⟩
        have grs6 := grs.keep (by have := HZZ.out; omega) k6 (fun e => hgw e.symm)
        have k7 : Kp (fun x => x = w.heap.size + 1) (W5.setCell ⟨g3, 10, none⟩ (.slice (some ⟨W.heap.size, 0, none⟩) n (n + 2))) ((W5.setCell ⟨g3, 10, none⟩ (.slice (some ⟨W.heap.size, 0, none⟩) n (n + 2))).setCells (w.heap.size + 1) 0 [n64 fl, n64 e0, n64 e1, n64 e2, n64 e3, n64 e4, n64 e5, n64 ti, n64 sq, n64 li, .slice (some ⟨W.heap.size, 0, none⟩) n (n + 2), .slice A4 pl.length c4]) := Kp.setCells _ _ _ _
        have gr7 := grs6.put (ds := [n64 fl, n64 e0, n64 e1, n64 e2, n64 e3, n64 e4, n64 e5, n64 ti, n64 sq, n64 li, .slice (some ⟨W.heap.size, 0, none⟩) n (n + 2), .slice A4 pl.length c4]) rfl
        have kk57 : Kp (fun x => x = g3 ∨ x = w.heap.size + 1) W5 ((W5.setCell ⟨g3, 10, none⟩ (.slice (some ⟨W.heap.size, 0, none⟩) n (n + 2))).setCells (w.heap.size + 1) 0 [n64 fl, n64 e0, n64 e1, n64 e2, n64 e3, n64 e4, n64 e5, n64 ti, n64 sq, n64 li, .slice (some ⟨W.heap.size, 0, none⟩) n (n + 2), .slice A4 pl.length c4]) := k6.trans k7 (fun _ _ x => .inl x) (fun _ _ x => .inr x)
        have hld := run_loadAt_rowat (P := Try.prog) gc6.1 Try.underlying34 rfl (by kernel_rfl)
        have hst := run_storeAt_mid (P := Try.prog) (W5.setCell ⟨g3, 10, none⟩ (.slice (some ⟨W.heap.size, 0, none⟩) n (n + 2))) (w.heap.size + 1) 0 34 #[n64 fl, n64 e0, n64 e1, n64 e2, n64 e3, n64 e4, n64 e5, n64 ti, n64 sq, n64 li, .slice (some ⟨W.heap.size, 0, none⟩) n (n + 2), .slice A4 pl.length c4] (grs6.there _ (Nat.le_refl _)) (by kernel_rfl) (by kernel_rfl)
        have hfin : GivenP ⟨fl, e0, e1, e2, e3, e4, e5, ti, sq, li, bl, pl⟩ w (.returned (.agg ([n64 fl, n64 e0, n64 e1, n64 e2, n64 e3, n64 e4, n64 e5, n64 ti, n64 sq, n64 li, .slice (some ⟨W.heap.size, 0, none⟩) n (n + 2), .slice A4 pl.length c4]).toArray)) ((W5.setCell ⟨g3, 10, none⟩ (.slice (some ⟨W.heap.size, 0, none⟩) n (n + 2))).setCells (w.heap.size + 1) 0 [n64 fl, n64 e0, n64 e1, n64 e2, n64 e3, n64 e4, n64 e5, n64 ti, n64 sq, n64 li, .slice (some ⟨W.heap.size, 0, none⟩) n (n + 2), .slice A4 pl.length c4]) := by
          have hz := HZZ.out
          have hnb1 : ∀ x, x = W.heap.size → ¬ (x = g3 ∨ x = w.heap.size + 1) := fun x hx e => by rcases e with e | e <;> omega
          refine ⟨W.heap.size, dv, .slice A4 pl.length c4, by simp only [bdV, HN.out.1], ⟨fun j hj => (grow j hj).keep kk57 (hnb1 _ rfl), fun j hj => (gdat j hj).keep kk57 (fun x hx e => ?_), ?_, ?_, gpay.keep kk57 (fun x hx e => ?_)⟩, k05.fresh kk57 (fun i e => by rcases e with e | e <;> (have := kb.size; omega))⟩
          · have hlo := HDV.out j (by rw [← HN.out.1]; exact hj) x hx
            rcases e with e | e <;> omega
          · show RowAt _ ⟨W.heap.size, bl.length * 4, none⟩ _
            rw [HN.out.1]
            exact g1.keep kk57 (hnb1 _ rfl)
          · show RowAt _ ⟨W.heap.size, (bl.length + 1) * 4, none⟩ _
            rw [HN.out.1]
            exact g2.keep kk57 (hnb1 _ rfl)
          · have := HPB.out x hx
            rcases e with e | e <;> omega
        have HF := Lib.hid hfin
        obtain ⟨W6, hW6⟩ : ∃ W6, W5.setCell ⟨g3, 10, none⟩ (.slice (some ⟨W.heap.size, 0, none⟩) n (n + 2)) = W6 := ⟨_, rfl⟩
        rw [hW6] at hld hst HF gr7
        have HW5 := Lib.hid hW5
        have HW6 := Lib.hid hW6
        have HG7 := Lib.hid gr7
        clear hfin g1 g2 grow gdat gpay gc3 grs k05 gc6 grs6 gr7 kk57 k6 k7 hW5 hW6 k5 hal hr1 hr2 hfz
        have c310w : wr.cell? ⟨g3, 10, none⟩ = some (.slice none 0 0) := (HCW.out.2.2.1.keep (by have := HZZ.out; omega) kWr (fun x => x)).at_ 10 rfl
        have f310w : wr.frozen? ⟨g3, 10, none⟩ = false := (HCW.out.2.2.1.keep (by have := HZZ.out; omega) kWr (fun x => x)).2 10
        have c310r : ((wr.setCell ⟨W.heap.size, n * 4 + 2, none⟩ (.int .u64 77)).setCell ⟨W.heap.size, (n + 1) * 4 + 2, none⟩ (.int .u64 78)).cell? ⟨g3, 10, none⟩ = some (.slice none 0 0) := by rw [HW5.out]; exact c310
        have f310r : ((wr.setCell ⟨W.heap.size, n * 4 + 2, none⟩ (.int .u64 77)).setCell ⟨W.heap.size, (n + 1) * 4 + 2, none⟩ (.int .u64 78)).frozen? ⟨g3, 10, none⟩ = false := by rw [HW5.out]; exact f310
        have hwW : (⟨W.heap.size, n * 4 + 2, none⟩ : Addr) ≠ ⟨w.heap.size, 10, none⟩ := fun e => by have := congrArg Addr.block e; simp at this; have := HZZ.out; omega
        have hwW2 : (⟨W.heap.size, (n + 1) * 4 + 2, none⟩ : Addr) ≠ ⟨w.heap.size, 10, none⟩ := fun e => by have := congrArg Addr.block e; simp at this; have := HZZ.out; omega
        have b10a : (wr.setCell ⟨W.heap.size, n * 4 + 2, none⟩ (.int .u64 77)).cell? ⟨w.heap.size, 10, none⟩ = some (.slice bA n bc) := by rw [World.cell?_setCell_other _ _ _ _ hwW]; exact b10
        have b10b : ((wr.setCell ⟨W.heap.size, n * 4 + 2, none⟩ (.int .u64 77)).setCell ⟨W.heap.size, (n + 1) * 4 + 2, none⟩ (.int .u64 78)).cell? ⟨w.heap.size, 10, none⟩ = some (.slice bA n bc) := by rw [World.cell?_setCell_other _ _ _ _ hwW2]; exact b10a
        clear c310 f310 hwW hwW2
        go_wp2_with (first
          | ((with_reducible show wpList _ _ _ (Oper.mk _ (Op.load 34 _) _ _ _ _ :: _) _ _); rw [HW5.out, HW6.out]; refine wpl_val rfl (run_load_opv hld rfl) ?_)
          | ((with_reducible show wpList _ _ _ (Oper.mk _ (Op.store 34 _ _) _ _ _ _ :: _) _ _); refine wpl_skip rfl (run_store_op hst rfl rfl) ?_))
        (try simp only [Exit.inBlock, Exit.then])
        refine bodyPost_ret (results_cell_at rfl _ _ rfl HG7.out.1 Try.underlying34 rfl (by kernel_rfl)) rfl ?_
        exact HF.out
  · conv => arg 8; simp only [Act.put, List.setIfInBounds_toArray, List.set_cons_zero, List.set_cons_succ]
    have ka : KpN w3 (w3.alloc (.cells #[.int .u64 0, .int .u64 0, .int .u64 0, .int .u64 0, .int .u64 0, .int .u64 0, .int .u64 0, .int .u64 0, .int .u64 0, .int .u64 0, .slice none 0 0, .slice none 0 0] 34)) := (Kp.refl _ w3).alloc _
    have hza : (w3.alloc (.cells #[.int .u64 0, .int .u64 0, .int .u64 0, .int .u64 0, .int .u64 0, .int .u64 0, .int .u64 0, .int .u64 0, .int .u64 0, .int .u64 0, .slice none 0 0, .slice none 0 0] 34)).heap.size = w3.heap.size + 1 := by simp
    have hca := CellsAt.new w3 [.int .u64 0, .int .u64 0, .int .u64 0, .int .u64 0, .int .u64 0, .int .u64 0, .int .u64 0, .int .u64 0, .int .u64 0, .int .u64 0, .slice none 0 0, .slice none 0 0] 34
    refine rg_call 29 (d := (some 36)) (by kernel_rfl) (mkb_c ((HPL.out.keepN d3).keepN ka) (by rw [HN.out.2]; omega)) rfl rfl (by kernel_rfl) rfl rfl ?_
    rintro e w4 ⟨vp, rfl, hm4, hf4, k4⟩
    refine ⟨_, rfl, k4, ?_⟩
    conv => arg 8; simp only [Act.put, List.setIfInBounds_toArray, List.set_cons_zero, List.set_cons_succ]
    obtain ⟨A4, c4, rfl, -⟩ := hm4.rd.form
    have hz4 := k4.size
    have hca4 := hca.keep (by omega) k4 (fun x => x)
    have hB : ∃ W g3, w4.setCells w3.heap.size 0 [n64 fl, n64 e0, n64 e1, n64 e2, n64 e3, n64 e4, n64 e5, n64 ti, n64 sq, n64 li, .slice none 0 0, .slice A4 pl.length c4] = W ∧ w3.heap.size = g3 ∧ w1.heap.size ≤ g3 ∧ g3 < W.heap.size ∧ KpN w1 W ∧ CellsAt W g3 [n64 fl, n64 e0, n64 e1, n64 e2, n64 e3, n64 e4, n64 e5, n64 ti, n64 sq, n64 li, .slice none 0 0, .slice A4 pl.length c4] ∧ MkB W (.slice A4 pl.length c4) pl ∧ ∀ x, (Value.slice A4 pl.length c4).ownBlock = some x → w1.heap.size ≤ x ∧ x ≠ g3 := by
      have kc := Kp.setCells w3.heap.size [n64 fl, n64 e0, n64 e1, n64 e2, n64 e3, n64 e4, n64 e5, n64 ti, n64 sq, n64 li, .slice none 0 0, .slice A4 pl.length c4] 0 w4
      have hzc := kc.size
      exact ⟨_, _, rfl, rfl, by omega, by omega, ((d3.alloc _).thenN k4).fresh kc (fun i hi => by rw [hi]; omega), hca4.put rfl, hm4.keep kc (fun x hx e => by have := (hf4 x hx).1; omega), fun x hx => ⟨by have := (hf4 x hx).1; omega, by have := (hf4 x hx).1; omega⟩⟩
    refine rg_take 30 (d := (some 37)) (v := .agg #[n64 fl, n64 e0, n64 e1, n64 e2, n64 e3, n64 e4, n64 e5, n64 ti, n64 sq, n64 li, .slice none 0 0, .slice A4 pl.length c4]) (by decide) rfl rfl (by kernel_rfl) (by kernel_rfl) (by kernel_rfl) (fun _ _ _ h => h) rfl (fun W => run_buildBd rfl rfl rfl rfl rfl rfl rfl) ?_
    conv => arg 8; simp only [Act.put, List.setIfInBounds_toArray, List.set_cons_zero, List.set_cons_succ]
    refine rg_lastS (G := fun _ => True) (w4.setCells w3.heap.size 0 [n64 fl, n64 e0, n64 e1, n64 e2, n64 e3, n64 e4, n64 e5, n64 ti, n64 sq, n64 li, .slice none 0 0, .slice A4 pl.length c4]) (d := none) rfl rfl (by kernel_rfl) rfl (run_store_op (run_storeAt_mid _ w3.heap.size 0 34 #[n64 fl, n64 e0, n64 e1, n64 e2, n64 e3, n64 e4, n64 e5, n64 ti, n64 sq, n64 li, .slice none 0 0, .slice A4 pl.length c4] (hca4.there _ (Nat.le_refl _)) (by kernel_rfl) (by kernel_rfl)) rfl rfl) (by kernel_rfl) ?_
    conv => arg 8; simp only [Act.put, List.setIfInBounds_toArray, List.set_cons_zero, List.set_cons_succ]
    refine rg_done (by kernel_rfl) ?_
    obtain ⟨W, g3, hWe, hge, hg1, hg2, kW, hcW, hmW, hpb⟩ := hB
    have HPB := Lib.hid hpb
    clear hpb
    rw [hWe, hge]
    have hz1 := HZ.out
    have hzk := kW.size
    have hbxW : CellsAt W w.heap.size [n64 fl, n64 e0, n64 e1, n64 e2, n64 e3, n64 e4, n64 e5, n64 ti, n64 sq, n64 li, .slice bA n bc, .slice pA m pc] := HBX.out.1.keep (by omega) kW (fun x => x)
    have hrsW : CellsAt W (w.heap.size + 1) [.int .u64 0, .int .u64 0, .int .u64 0, .int .u64 0, .int .u64 0, .int .u64 0, .int .u64 0, .int .u64 0, .int .u64 0, .int .u64 0, .slice none 0 0, .slice none 0 0] := HBX.out.2.keep (by omega) kW (fun x => x)
    obtain ⟨W2, hmk, hz2, k2, hall⟩ := AllM.made W n (fun _ => .slice none 0 0) bl (by omega)
    have b10 : W.cell? ⟨w.heap.size, 10, none⟩ = some (.slice bA n bc) := hbxW.at_ 10 rfl
    have HALL := Lib.hid hall
    have HCW := Lib.hid (And.intro hbxW (And.intro hrsW (And.intro hcW hmW)))
    have hga : W.heap.size < W2.heap.size := by omega
    have HZZ := Lib.hid (And.intro hz1 (And.intro hzk (And.intro hz2 (And.intro hg1 hg2))))
    clear hall hbxW hrsW hcW hmW hWe hge hz1 hzk hz2 hg1 hg2
    go_wp2_with fail
    go_loopw [5] (fun i wr => ∃ (q : Nat) (dv : Nat → Value), q ≤ n ∧ i = .int .i64 q ∧ AllM wr W.heap.size n q dv bl ∧ Kp (fun x => x = W.heap.size) W2 wr ∧ ∀ j, j < q → ∀ x, (dv j).ownBlock = some x → W.heap.size ≤ x) (fun i _ => n - (intOf i).toNat)
    case atStart => exact ⟨0, _, Nat.zero_le _, rfl, HALL.out, Kp.refl _ _, fun j hj => by omega⟩
    case round =>
      clear hmk b10
      obtain ⟨q, dv, hq, rfl, hal, hkr, hdv⟩ := hrel
      have HDV := Lib.hid hdv
      clear hdv
      have kWr : KpN W wr := k2.fresh hkr (fun i e => by rw [e]; exact Nat.le_refl _)
      have hzr := hkr.size
      have b10 : wr.cell? ⟨w.heap.size, 10, none⟩ = some (.slice bA n bc) := (HCW.out.1.keep (by have := HZZ.out; omega) kWr (fun x => x)).at_ 10 rfl
      by_cases hlt : q < n
      · have hql : q < bl.length := by rw [HN.out.1]; exact hlt
        obtain ⟨ad, cs, rfl, -, hrow0, ⟨⟨dw, rfl, hdw⟩, -⟩⟩ := HB.out.row q hql
        have hrow := (hrow0.keepN kW).keepN kWr
        have hdr := (hdw.keepN kW).keepN kWr
        have hdl := HDA.out.1 bl[q] (List.getElem_mem hql)
        have hstep := fun (w6 : World) (v : Value) (k6 : KpN wr w6) (hv : MkB w6 v bl[q].da) (hne : ∀ x, v.ownBlock = some x → x ≠ W.heap.size) => (hal.keepN k6 (by omega)).step hql HN.out.1 hv hne
        have hzer := hal.zer q (Nat.le_refl _) (by omega)
        have hfzr := hal.fz
        obtain ⟨xt, hxt⟩ : ∃ x, bl[q].ty = x := ⟨_, rfl⟩
        obtain ⟨xn, hxn⟩ : ∃ x, bl[q].nu = x := ⟨_, rfl⟩
        obtain ⟨xf, hxf⟩ : ∃ x, bl[q].fl = x := ⟨_, rfl⟩
        obtain ⟨xd, hxd⟩ : ∃ x, bl[q].da = x := ⟨_, rfl⟩
        rw [hxt, hxn, hxf] at hrow hstep
        rw [hxd] at hdr hdl hstep
        obtain ⟨dA, dc, rfl, -⟩ := hdr.form
        obtain ⟨xl, hxl⟩ : ∃ x, xd.length = x := ⟨_, rfl⟩
        rw [hxl] at hrow hdr
        have c0 := hrow.c0
        have c1 := hrow.fld 0 rfl
        have c2 := hrow.fld 1 rfl
        have c3 := hrow.fld 2 rfl
        have kx : KpN wr (wr.alloc (.cells #[n64 xt, n64 xn, n64 xf, .slice dA xl dc] 40)) := (Kp.refl _ _).alloc _
        have hqx : ((n : Int) + 2 ≤ (q : Int)) = False := propext ⟨fun h => by omega, fun h => h.elim⟩
        have hcx := CellsAt.new wr [n64 xt, n64 xn, n64 xf, .slice dA xl dc] 40
        have hzx : (wr.alloc (.cells #[n64 xt, n64 xn, n64 xf, .slice dA xl dc] 40)).heap.size = wr.heap.size + 1 := by simp
        have HX := Lib.hid (And.intro hcx (And.intro hdr (And.intro hstep (And.intro hzer (And.intro hfzr (And.intro hxl hdl))))))
        obtain ⟨wx, hwx⟩ : ∃ wx, wr.alloc (.cells #[n64 xt, n64 xn, n64 xf, .slice dA xl dc] 40) = wx := ⟨_, rfl⟩
        rw [hwx] at kx hzx HX
        have HWX := Lib.hid hwx
        clear hrow hrow0 hdr hdw hdl hstep hzer hfzr hal hxt hxn hxf hxd hxl hcx hwx
        go_wp2_with fail
        rw [HWX.out]
        refine rg_begin 13 (fun _ => False) (by kernel_rfl) (fun w5 d5 => ?_)
        have hz5 := d5.size
        have hcx5 := HX.out.1.keep (by omega) d5 (fun x => x)
        have hlx5 : wr.heap.size < w5.heap.size := by omega
        refine rg_take 0 (d := (some 55)) (v := .slice (some ⟨W.heap.size, 0, none⟩) (n + 2) (n + 2)) (by decide) rfl rfl (by kernel_rfl) (by kernel_rfl) (by kernel_rfl) (fun _ _ _ h => h) rfl (fun W => rfl) ?_
        conv => arg 8; simp only [Act.put, List.setIfInBounds_toArray, List.set_cons_zero, List.set_cons_succ]
        refine rg_take 1 (d := (some 56)) (v := .int .i64 q) (by decide) rfl rfl (by kernel_rfl) (by kernel_rfl) (by kernel_rfl) (fun _ _ _ h => h) rfl (fun W => rfl) ?_
        conv => arg 8; simp only [Act.put, List.setIfInBounds_toArray, List.set_cons_zero, List.set_cons_succ]
        refine rg_take 2 (d := (some 57)) (v := .pointer (some ⟨wr.heap.size, 0, none⟩)) (by decide) rfl rfl (by kernel_rfl) (by kernel_rfl) (by kernel_rfl) (fun _ _ _ h => h) rfl (fun W => by go_simp) ?_
        conv => arg 8; simp only [Act.put, List.setIfInBounds_toArray, List.set_cons_zero, List.set_cons_succ]
        refine rg_read 3 (d := (some 58)) (v := n64 xt) (by decide) (by kernel_rfl) (by kernel_rfl) rfl rfl (by kernel_rfl) (by kernel_rfl) (by kernel_rfl) (fun _ _ _ h => h) rfl (fun W hW => by have hc := (hW.cell (p := ⟨wr.heap.size, 0, none⟩) (hlx5) (fun x => x)).trans (hcx5.at_ 0 rfl); go_simp) ?_
        conv => arg 8; simp only [Act.put, List.setIfInBounds_toArray, List.set_cons_zero, List.set_cons_succ]
        refine rg_take 4 (d := (some 59)) (v := .pointer (some ⟨wr.heap.size, 1, none⟩)) (by decide) rfl rfl (by kernel_rfl) (by kernel_rfl) (by kernel_rfl) (fun _ _ _ h => h) rfl (fun W => by go_simp) ?_
        conv => arg 8; simp only [Act.put, List.setIfInBounds_toArray, List.set_cons_zero, List.set_cons_succ]
        refine rg_read 5 (d := (some 60)) (v := n64 xn) (by decide) (by kernel_rfl) (by kernel_rfl) rfl rfl (by kernel_rfl) (by kernel_rfl) (by kernel_rfl) (fun _ _ _ h => h) rfl (fun W hW => by have hc := (hW.cell (p := ⟨wr.heap.size, 1, none⟩) (hlx5) (fun x => x)).trans (hcx5.at_ 1 rfl); go_simp) ?_
        conv => arg 8; simp only [Act.put, List.setIfInBounds_toArray, List.set_cons_zero, List.set_cons_succ]
        refine rg_take 6 (d := (some 61)) (v := .pointer (some ⟨wr.heap.size, 2, none⟩)) (by decide) rfl rfl (by kernel_rfl) (by kernel_rfl) (by kernel_rfl) (fun _ _ _ h => h) rfl (fun W => by go_simp) ?_
        conv => arg 8; simp only [Act.put, List.setIfInBounds_toArray, List.set_cons_zero, List.set_cons_succ]
        refine rg_read 7 (d := (some 62)) (v := n64 xf) (by decide) (by kernel_rfl) (by kernel_rfl) rfl rfl (by kernel_rfl) (by kernel_rfl) (by kernel_rfl) (fun _ _ _ h => h) rfl (fun W hW => by have hc := (hW.cell (p := ⟨wr.heap.size, 2, none⟩) (hlx5) (fun x => x)).trans (hcx5.at_ 2 rfl); go_simp) ?_
        conv => arg 8; simp only [Act.put, List.setIfInBounds_toArray, List.set_cons_zero, List.set_cons_succ]
        refine rg_take 8 (d := (some 63)) (v := .pointer (some ⟨wr.heap.size, 3, none⟩)) (by decide) rfl rfl (by kernel_rfl) (by kernel_rfl) (by kernel_rfl) (fun _ _ _ h => h) rfl (fun W => by go_simp) ?_
        conv => arg 8; simp only [Act.put, List.setIfInBounds_toArray, List.set_cons_zero, List.set_cons_succ]
        refine rg_read 9 (d := (some 64)) (v := .slice dA xl dc) (by decide) (by kernel_rfl) (by kernel_rfl) rfl rfl (by kernel_rfl) (by kernel_rfl) (by kernel_rfl) (fun _ _ _ h => h) rfl (fun W hW => by have hc := (hW.cell (p := ⟨wr.heap.size, 3, none⟩) (hlx5) (fun x => x)).trans (hcx5.at_ 3 rfl); go_simp) ?_
        conv => arg 8; simp only [Act.put, List.setIfInBounds_toArray, List.set_cons_zero, List.set_cons_succ]
        refine rg_call 10 (d := (some 65)) (by kernel_rfl) (mkb_c ((HX.out.2.1.keepN kx).keepN d5) (by have := HX.out.2.2.2.2.2.1; have := HX.out.2.2.2.2.2.2; have := HDA.out.2; omega)) rfl rfl (by kernel_rfl) rfl rfl ?_
        rintro e w6 ⟨vp, rfl, hm6, hf6, k6⟩
        refine ⟨_, rfl, k6, ?_⟩
        conv => arg 8; simp only [Act.put, List.setIfInBounds_toArray, List.set_cons_zero, List.set_cons_succ]
        obtain ⟨A5, c5, rfl, -⟩ := hm6.rd.form
        have k06 : KpN wr w6 := (kx.thenN d5).thenN k6
        have hz6 := k6.size
        have hst := HX.out.2.2.1 w6 _ k06 hm6 (fun x hx e => by have := (hf6 x hx).1; omega)
        have hth : w6.there W.heap.size (q * 4) 4 := (HX.out.2.2.2.1.keepN k06).there (fun j => by rw [k06.frozen (p := ⟨W.heap.size, j, none⟩) (by show W.heap.size < _; omega) (fun x => x)]; exact HX.out.2.2.2.2.1 j) rfl
        refine rg_take 11 (d := (some 66)) (v := .agg #[n64 xt, n64 xn, n64 xf, .slice A5 xd.length c5]) (by decide) rfl rfl (by kernel_rfl) (by kernel_rfl) (by kernel_rfl) (fun _ _ _ h => h) rfl (fun W => run_buildBk rfl rfl rfl rfl) ?_
        conv => arg 8; simp only [Act.put, List.setIfInBounds_toArray, List.set_cons_zero, List.set_cons_succ]
        refine rg_take 12 (d := (some 67)) (v := .pointer (some ⟨W.heap.size, q * 4, none⟩)) (by decide) rfl rfl (by kernel_rfl) (by kernel_rfl) (by kernel_rfl) (fun _ _ _ h => h) rfl (fun W => by go_simp) ?_
        conv => arg 8; simp only [Act.put, List.setIfInBounds_toArray, List.set_cons_zero, List.set_cons_succ]
        refine rg_lastS (G := fun _ => True) (w6.setCells W.heap.size (q * 4) [n64 xt, n64 xn, n64 xf, .slice A5 xd.length c5]) (d := none) rfl rfl (by kernel_rfl) rfl (run_store_op (run_storeAt_mid w6 W.heap.size (q * 4) 37 #[n64 xt, n64 xn, n64 xf, .slice A5 xd.length c5] hth (by kernel_rfl) (by kernel_rfl)) rfl rfl) (by kernel_rfl) ?_
        conv => arg 8; simp only [Act.put, List.setIfInBounds_toArray, List.set_cons_zero, List.set_cons_succ]
        refine rg_done (by kernel_rfl) ?_
        have hfin : ∃ (q' : Nat) (dv : Nat → Value), q' ≤ n ∧ Value.int .i64 ((q : Int) + 1) = .int .i64 q' ∧ AllM (w6.setCells W.heap.size (q * 4) [n64 xt, n64 xn, n64 xf, .slice A5 xd.length c5]) W.heap.size n q' dv bl ∧ Kp (fun x => x = W.heap.size) W2 (w6.setCells W.heap.size (q * 4) [n64 xt, n64 xn, n64 xf, .slice A5 xd.length c5]) ∧ ∀ j, j < q' → ∀ x, (dv j).ownBlock = some x → W.heap.size ≤ x :=
          ⟨q + 1, _, by omega, by go_num, hst, (hkr.thenN k06).trans (Kp.setCells _ _ _ _) (fun _ _ x => x) (fun _ _ x => x), fun j hj x hx => by
            by_cases e : j = q
            · subst e
              rw [upd_same] at hx
              have := (hf6 x hx).1
              omega
            · rw [upd_ne _ _ e] at hx
              exact HDV.out j (by omega) x hx⟩
        have HF := Lib.hid hfin
        clear hfin hst hth hm6 hcx5
        generalize w6.setCells W.heap.size (q * 4) [n64 xt, n64 xn, n64 xf, .slice A5 xd.length c5] = w7 at HF ⊢
        go_wp2_with fail
        exact ⟨HF.out, meas_up hlt⟩
      · have hqn : n = q := by omega
        subst hqn
        have hr1 := hal.zer n (Nat.le_refl _) (by omega)
        have hr2 := hal.zer (n + 1) (by omega) (by omega)
        have hfz := hal.fz
        have hg3W : g3 ≠ W.heap.size := by have := HZZ.out; omega
        have hgw : g3 ≠ w.heap.size + 1 := by have := HZZ.out; omega
        have hgb : W.heap.size ≠ w.heap.size + 1 := by have := HZZ.out; omega
        have hg3l : g3 < wr.heap.size := by have := HZZ.out; omega
        have k5 : Kp (fun x => x = W.heap.size) wr ((wr.setCell ⟨W.heap.size, n * 4 + 2, none⟩ (.int .u64 77)).setCell ⟨W.heap.size, (n + 1) * 4 + 2, none⟩ (.int .u64 78)) := ((Kp.refl (fun x => x = W.heap.size) _).setCell (p := ⟨W.heap.size, n * 4 + 2, none⟩) (.inl rfl) _).setCell (p := ⟨W.heap.size, (n + 1) * 4 + 2, none⟩) (.inl rfl) _
        have k77 : wr.cell? ⟨W.heap.size, n * 4 + 2, none⟩ = some (.int .u64 0) := hr1.range 2 _ rfl
        have f77 := hfz (n * 4 + 2)
        have k78 : (wr.setCell ⟨W.heap.size, n * 4 + 2, none⟩ (.int .u64 77)).cell? ⟨W.heap.size, (n + 1) * 4 + 2, none⟩ = some (.int .u64 0) := (hr2.setApart (.int .u64 77) (by omega)).range 2 _ rfl
        have f78 : (wr.setCell ⟨W.heap.size, n * 4 + 2, none⟩ (.int .u64 77)).frozen? ⟨W.heap.size, (n + 1) * 4 + 2, none⟩ = false := by rw [World.frozen?_setCell]; exact hfz _
        have g1 : RowAt ((wr.setCell ⟨W.heap.size, n * 4 + 2, none⟩ (.int .u64 77)).setCell ⟨W.heap.size, (n + 1) * 4 + 2, none⟩ (.int .u64 78)) ⟨W.heap.size, n * 4, none⟩ [n64 0, n64 0, n64 77, .slice none 0 0] := (hr1.setOne 2 (.int .u64 77) (by simp [zero4])).setApart (.int .u64 78) (by simp [zero4]; omega)
        have g2 : RowAt ((wr.setCell ⟨W.heap.size, n * 4 + 2, none⟩ (.int .u64 77)).setCell ⟨W.heap.size, (n + 1) * 4 + 2, none⟩ (.int .u64 78)) ⟨W.heap.size, (n + 1) * 4, none⟩ [n64 0, n64 0, n64 78, .slice none 0 0] := (hr2.setApart (.int .u64 77) (by omega)).setOne 2 (.int .u64 78) (by simp [zero4])
        have grow : ∀ j (h : j < bl.length), RowAt ((wr.setCell ⟨W.heap.size, n * 4 + 2, none⟩ (.int .u64 77)).setCell ⟨W.heap.size, (n + 1) * 4 + 2, none⟩ (.int .u64 78)) ⟨W.heap.size, j * 4, none⟩ [n64 bl[j].ty, n64 bl[j].nu, n64 bl[j].fl, dv j] := fun j hj => ((hal.row j hj (by rw [← HN.out.1]; exact hj)).setApart (.int .u64 77) (by have := HN.out.1; simp; omega)).setApart (.int .u64 78) (by have := HN.out.1; simp; omega)
        have gdat : ∀ j (h : j < bl.length), MkB ((wr.setCell ⟨W.heap.size, n * 4 + 2, none⟩ (.int .u64 77)).setCell ⟨W.heap.size, (n + 1) * 4 + 2, none⟩ (.int .u64 78)) (dv j) bl[j].da := fun j hj => (hal.dat j hj (by rw [← HN.out.1]; exact hj)).keep k5 (fun x hx e => hal.ne j (by rw [← HN.out.1]; exact hj) x hx e)
        have gpay : MkB ((wr.setCell ⟨W.heap.size, n * 4 + 2, none⟩ (.int .u64 77)).setCell ⟨W.heap.size, (n + 1) * 4 + 2, none⟩ (.int .u64 78)) (.slice A4 pl.length c4) pl := (HCW.out.2.2.2.keepN kWr).keep k5 (fun x hx e => by
          obtain ⟨gp, hv, ho⟩ := HCW.out.2.2.2
          rw [hv] at hx
          have hx : gp = x := Option.some.inj hx
          have := ho.lt gp rfl
          omega)
        have gc3 := ((HCW.out.2.2.1.keep (by have := HZZ.out; omega) kWr (fun x => x)).keep hg3l k5 hg3W)
        have grs := ((HCW.out.2.1.keep (by have := HZZ.out; omega) kWr (fun x => x)).keep (by have := HZZ.out; have := kWr.size; omega) k5 (fun e => hgb e.symm))
        have k05 : KpN w ((wr.setCell ⟨W.heap.size, n * 4 + 2, none⟩ (.int .u64 77)).setCell ⟨W.heap.size, (n + 1) * 4 + 2, none⟩ (.int .u64 78)) := ((kb.thenN kW).thenN kWr).fresh k5 (fun i e => by rw [e]; have := kb.size; have := kW.size; omega)
        obtain ⟨W5, hW5⟩ : ∃ W5, (wr.setCell ⟨W.heap.size, n * 4 + 2, none⟩ (.int .u64 77)).setCell ⟨W.heap.size, (n + 1) * 4 + 2, none⟩ (.int .u64 78) = W5 := ⟨_, rfl⟩
        have hz5' : W5.heap.size = wr.heap.size := by rw [← hW5]; simp
        rw [hW5] at g1 g2 grow gdat gpay gc3 grs k05
        have c310 : W5.cell? ⟨g3, 10, none⟩ = some (.slice none 0 0) := gc3.at_ 10 rfl
        have f310 := gc3.2 10
        have k6 : Kp (fun x => x = g3) W5 (W5.setCell ⟨g3, 10, none⟩ (.slice (some ⟨W.heap.size, 0, none⟩) n (n + 2))) := kp1_set3 g3 10 _
        have gc6 : CellsAt (W5.setCell ⟨g3, 10, none⟩ (.slice (some ⟨W.heap.size, 0, none⟩) n (n + 2))) g3 [n64 fl, n64 e0, n64 e1, n64 e2, n64 e3, n64 e4, n64 e5, n64 ti, n64 sq, n64 li, .slice (some ⟨W.heap.size, 0, none⟩) n (n + 2), .slice A4 pl.length c4] := ⟨by have := gc3.1.setOne 10 (.slice (some ⟨W.heap.size, 0, none⟩) n (n + 2)) (by simp); rw [Nat.zero_add] at this; exact this, fun j => by rw [World.frozen?_setCell]; exact gc3.2 j⟩
        have grs6 := grs.keep (by have := HZZ.out; omega) k6 (fun e => hgw e.symm)
        have k7 : Kp (fun x => x = w.heap.size + 1) (W5.setCell ⟨g3, 10, none⟩ (.slice (some ⟨W.heap.size, 0, none⟩) n (n + 2))) ((W5.setCell ⟨g3, 10, none⟩ (.slice (some ⟨W.heap.size, 0, none⟩) n (n + 2))).setCells (w.heap.size + 1) 0 [n64 fl, n64 e0, n64 e1, n64 e2, n64 e3, n64 e4, n64 e5, n64 ti, n64 sq, n64 li, .slice (some ⟨W.heap.size, 0, none⟩) n (n + 2), .slice A4 pl.length c4]) := Kp.setCells _ _ _ _
        have gr7 := grs6.put (ds := [n64 fl, n64 e0, n64 e1, n64 e2, n64 e3, n64 e4, n64 e5, n64 ti, n64 sq, n64 li, .slice (some ⟨W.heap.size, 0, none⟩) n (n + 2), .slice A4 pl.length c4]) rfl
        have kk57 : Kp (fun x => x = g3 ∨ x = w.heap.size + 1) W5 ((W5.setCell ⟨g3, 10, none⟩ (.slice (some ⟨W.heap.size, 0, none⟩) n (n + 2))).setCells (w.heap.size + 1) 0 [n64 fl, n64 e0, n64 e1, n64 e2, n64 e3, n64 e4, n64 e5, n64 ti, n64 sq, n64 li, .slice (some ⟨W.heap.size, 0, none⟩) n (n + 2), .slice A4 pl.length c4]) := k6.trans k7 (fun _ _ x => .inl x) (fun _ _ x => .inr x)
        have hld := run_loadAt_rowat (P := Try.prog) gc6.1 Try.underlying34 rfl (by kernel_rfl)
        have hst := run_storeAt_mid (P := Try.prog) (W5.setCell ⟨g3, 10, none⟩ (.slice (some ⟨W.heap.size, 0, none⟩) n (n + 2))) (w.heap.size + 1) 0 34 #[n64 fl, n64 e0, n64 e1, n64 e2, n64 e3, n64 e4, n64 e5, n64 ti, n64 sq, n64 li, .slice (some ⟨W.heap.size, 0, none⟩) n (n + 2), .slice A4 pl.length c4] (grs6.there _ (Nat.le_refl _)) (by kernel_rfl) (by kernel_rfl)
        have hfin : GivenP ⟨fl, e0, e1, e2, e3, e4, e5, ti, sq, li, bl, pl⟩ w (.returned (.agg ([n64 fl, n64 e0, n64 e1, n64 e2, n64 e3, n64 e4, n64 e5, n64 ti, n64 sq, n64 li, .slice (some ⟨W.heap.size, 0, none⟩) n (n + 2), .slice A4 pl.length c4]).toArray)) ((W5.setCell ⟨g3, 10, none⟩ (.slice (some ⟨W.heap.size, 0, none⟩) n (n + 2))).setCells (w.heap.size + 1) 0 [n64 fl, n64 e0, n64 e1, n64 e2, n64 e3, n64 e4, n64 e5, n64 ti, n64 sq, n64 li, .slice (some ⟨W.heap.size, 0, none⟩) n (n + 2), .slice A4 pl.length c4]) := by
          have hz := HZZ.out
          have hnb1 : ∀ x, x = W.heap.size → ¬ (x = g3 ∨ x = w.heap.size + 1) := fun x hx e => by rcases e with e | e <;> omega
          refine ⟨W.heap.size, dv, .slice A4 pl.length c4, by simp only [bdV, HN.out.1], ⟨fun j hj => (grow j hj).keep kk57 (hnb1 _ rfl), fun j hj => (gdat j hj).keep kk57 (fun x hx e => ?_), ?_, ?_, gpay.keep kk57 (fun x hx e => ?_)⟩, k05.fresh kk57 (fun i e => by rcases e with e | e <;> (have := kb.size; omega))⟩
          · have hlo := HDV.out j (by rw [← HN.out.1]; exact hj) x hx
            rcases e with e | e <;> omega
          · show RowAt _ ⟨W.heap.size, bl.length * 4, none⟩ _
            rw [HN.out.1]
            exact g1.keep kk57 (hnb1 _ rfl)
          · show RowAt _ ⟨W.heap.size, (bl.length + 1) * 4, none⟩ _
            rw [HN.out.1]
            exact g2.keep kk57 (hnb1 _ rfl)
          · have := HPB.out x hx
            rcases e with e | e <;> omega
        have HF := Lib.hid hfin
        obtain ⟨W6, hW6⟩ : ∃ W6, W5.setCell ⟨g3, 10, none⟩ (.slice (some ⟨W.heap.size, 0, none⟩) n (n + 2)) = W6 := ⟨_, rfl⟩
        rw [hW6] at hld hst HF gr7
        have HW5 := Lib.hid hW5
        have HW6 := Lib.hid hW6
        have HG7 := Lib.hid gr7
        clear hfin g1 g2 grow gdat gpay gc3 grs k05 gc6 grs6 gr7 kk57 k6 k7 hW5 hW6 k5 hal hr1 hr2 hfz
        have c310w : wr.cell? ⟨g3, 10, none⟩ = some (.slice none 0 0) := (HCW.out.2.2.1.keep (by have := HZZ.out; omega) kWr (fun x => x)).at_ 10 rfl
        have f310w : wr.frozen? ⟨g3, 10, none⟩ = false := (HCW.out.2.2.1.keep (by have := HZZ.out; omega) kWr (fun x => x)).2 10
        have c310r : ((wr.setCell ⟨W.heap.size, n * 4 + 2, none⟩ (.int .u64 77)).setCell ⟨W.heap.size, (n + 1) * 4 + 2, none⟩ (.int .u64 78)).cell? ⟨g3, 10, none⟩ = some (.slice none 0 0) := by rw [HW5.out]; exact c310
        have f310r : ((wr.setCell ⟨W.heap.size, n * 4 + 2, none⟩ (.int .u64 77)).setCell ⟨W.heap.size, (n + 1) * 4 + 2, none⟩ (.int .u64 78)).frozen? ⟨g3, 10, none⟩ = false := by rw [HW5.out]; exact f310
        have hwW : (⟨W.heap.size, n * 4 + 2, none⟩ : Addr) ≠ ⟨w.heap.size, 10, none⟩ := fun e => by have := congrArg Addr.block e; simp at this; have := HZZ.out; omega
        have hwW2 : (⟨W.heap.size, (n + 1) * 4 + 2, none⟩ : Addr) ≠ ⟨w.heap.size, 10, none⟩ := fun e => by have := congrArg Addr.block e; simp at this; have := HZZ.out; omega
        have b10a : (wr.setCell ⟨W.heap.size, n * 4 + 2, none⟩ (.int .u64 77)).cell? ⟨w.heap.size, 10, none⟩ = some (.slice bA n bc) := by rw [World.cell?_setCell_other _ _ _ _ hwW]; exact b10
        have b10b : ((wr.setCell ⟨W.heap.size, n * 4 + 2, none⟩ (.int .u64 77)).setCell ⟨W.heap.size, (n + 1) * 4 + 2, none⟩ (.int .u64 78)).cell? ⟨w.heap.size, 10, none⟩ = some (.slice bA n bc) := by rw [World.cell?_setCell_other _ _ _ _ hwW2]; exact b10a
        clear c310 f310 hwW hwW2
        go_wp2_with (first
          | ((with_reducible show wpList _ _ _ (Oper.mk _ (Op.load 34 _) _ _ _ _ :: _) _ _); rw [HW5.out, HW6.out]; refine wpl_val rfl (run_load_opv hld rfl) ?_)
          | ((with_reducible show wpList _ _ _ (Oper.mk _ (Op.store 34 _ _) _ _ _ _ :: _) _ _); refine wpl_skip rfl (run_store_op hst rfl rfl) ?_))
        (try simp only [Exit.inBlock, Exit.then])
        refine bodyPost_ret (results_cell_at rfl _ _ rfl HG7.out.1 Try.underlying34 rfl (by kernel_rfl)) rfl ?_
        exact HF.out
end Go.Proofs.Yteokkpmndfekoaa
