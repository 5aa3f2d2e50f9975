/- slices.Clone, slices.Grow, slices.Concat at []byte; AppendNumber and the document's. -/
import Derived.Test.YteokkpmndfekoaaOCL
namespace Go.Proofs.Yteokkpmndfekoaa
open Go Go.RowKit
set_option maxRecDepth 100000

set_option maxHeartbeats 400000 in
/-- Grow of nil -/
theorem grow_c (n : Nat) (w : World) (hb : n ≤ 10000000000000) :
    Calls Try.prog 89 #[.slice none 0 0, .int .i64 (n : Int)] w (GotB 5 w []) := by
  by_cases h0 : 0 < n
  · obtain ⟨i0, hi, hz, hs, hby⟩ := info_parts u8info
    have r1 := Lib.run_append_nil_zeros (P := Try.prog) w 27 3 27 5 i0 (.int .u8 0) .i64 .i64 Try.underlying27 Try.underlying3 hi hz n h0 (by omega) (by omega) (by rw [hby]; omega)
    have hge := grownCap_ge w n 0 5
    have hle := grownCap_le_maxLen w n 0 5 (by simp only [maxLen]; omega)
    generalize grownCap w n 0 5 = cap at *
    simp only [maxLen] at hle
    clear hi hz hs hby
    go_enter Try.func89, Try.ntmps89
    go_wp2_with (refine app_op r1 rfl rfl ?_)
    go_ret
    refine got_of ?_ ((Kp.refl _ _).drew.alloc _)
    exact (OwC.made w.drew 5 1 cap _ (by simp only [maxLen]; omega) (by simp [size_zeroCells]; omega)).wide (fun k hk h => ⟨h.1, hk⟩)
  · obtain rfl : n = 0 := by omega
    go_enter Try.func89, Try.ntmps89
    go_wp2
    go_ret
    exact got_of (OwB.nil _ _ _) (Kp.refl _ _)
/-- the first loop of Concat, of two lists: k of them are counted -/
def CatRel1 (n m : Nat) (i s : Value) : Prop := (i = .int .i64 0 ∧ s = .int .i64 0) ∨ (i = .int .i64 1 ∧ s = .int .i64 n) ∨ (i = .int .i64 2 ∧ s = .int .i64 ((n : Int) + m))
/-- the second: k of them are there -/
def CatRel2 (xs ys : List UInt8) (w : World) (i v : Value) (wr : World) : Prop :=
  KpN w wr ∧ ((i = .int .i64 0 ∧ OwB wr 5 (Iv w.heap.size wr.heap.size) v []) ∨ (i = .int .i64 1 ∧ OwB wr 5 (Iv w.heap.size wr.heap.size) v xs) ∨ (i = .int .i64 2 ∧ OwB wr 5 (Iv w.heap.size wr.heap.size) v (xs ++ ys)))
set_option maxHeartbeats 800000 in
theorem concat_c {u v : Value} {xs ys : List UInt8} {g : Nat} {w : World} (h0 : w.cell? ⟨g, 0, none⟩ = some u) (h1 : w.cell? ⟨g, 1, none⟩ = some v) (hu : RdB w u xs) (hv : RdB w v ys) (hb : xs.length + ys.length ≤ 1000000000000) :
    Calls Try.prog 72 #[.slice (some ⟨g, 0, none⟩) 2 2] w (GotB 5 w (xs ++ ys)) := by
  obtain ⟨A, c, rfl, hc⟩ := hu.form
  obtain ⟨B, d, rfl, hd⟩ := hv.form
  go_enter Try.func72, Try.ntmps72
  go_wp2_with fail
  go_loop [11, 3] (fun i s => CatRel1 xs.length ys.length i s) (fun i _ => 2 - (intOf i).toNat)
  case atStart => exact .inl ⟨rfl, rfl⟩
  case round =>
    rcases hrel with ⟨rfl, rfl⟩ | ⟨rfl, rfl⟩ | ⟨rfl, rfl⟩
    · go_wp2
      go_round
      case rel => exact .inr (.inl ⟨rfl, rfl⟩)
      case measure => simp [intOf]
    · go_wp2
      go_round
      case rel => exact .inr (.inr ⟨rfl, rfl⟩)
      case measure => simp [intOf]
    · go_wp2_with fail
      refine (grow_c (xs.length + ys.length) w (by omega)).mono ?_
      rintro e w1 ⟨v1, rfl, o1, k1⟩
      go_wp2_with fail
      go_loopw [27, 6] (fun i v wr => CatRel2 xs ys w i v wr) (fun i _ _ => 2 - (intOf i).toNat)
      case atStart => exact ⟨k1, .inl ⟨rfl, o1⟩⟩
      case round =>
        obtain ⟨hk, hrel⟩ := hrel
        have h0' : wr.cell? ⟨g, 0, none⟩ = some (.slice A xs.length c) := (hk.cell (World.block_lt_of_cell? w _ h0) (fun x => x)).trans h0
        have h1' : wr.cell? ⟨g, 1, none⟩ = some (.slice B ys.length d) := (hk.cell (World.block_lt_of_cell? w _ h1) (fun x => x)).trans h1
        have hs := hk.size
        rcases hrel with ⟨rfl, o2⟩ | ⟨rfl, o2⟩ | ⟨rfl, o2⟩
        · obtain ⟨v2, w2, r2, o3, k2, _⟩ := run_appB (P := Try.prog) (ty := 27) wr Try.underlying27 u8info o2 (hu.keepN hk) (by simp; omega)
          have hs2 := k2.size
          go_wp2_with (refine app_op r2 rfl rfl ?_)
          go_roundw
          case rel => exact ⟨hk.fresh k2 (fun i hi => (o2.fit i hi).1), .inr (.inl ⟨rfl, o3.wide (fun k hk h => by rcases h with h | h <;> exact ⟨by have := h.1; omega, hk⟩)⟩)⟩
          case measure => simp [intOf]
        · obtain ⟨v2, w2, r2, o3, k2, _⟩ := run_appB (P := Try.prog) (ty := 27) wr Try.underlying27 u8info o2 (hv.keepN hk) (by omega)
          have hs2 := k2.size
          go_wp2_with (refine app_op r2 rfl rfl ?_)
          go_roundw
          case rel => exact ⟨hk.fresh k2 (fun i hi => (o2.fit i hi).1), .inr (.inr ⟨rfl, o3.wide (fun k hk h => by rcases h with h | h <;> exact ⟨by have := h.1; omega, hk⟩)⟩)⟩
          case measure => simp [intOf]
        · go_wp2
          go_ret
          exact got_of o2 hk
end Go.Proofs.Yteokkpmndfekoaa
