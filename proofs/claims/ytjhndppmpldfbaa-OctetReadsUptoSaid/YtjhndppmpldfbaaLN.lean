/- OctetReads: what the calls do. -/
import Derived.Test.YtjhndppmpldfbaaOR3
import Derived.Test.YtjhndppmpldfbaaUS
import Derived.Test.YtjhndppmpldfbaaO1
import Derived.Deep.DeepCutAuto
import Derived.Deep.CutBlock
namespace Go.Proofs.Ytjhndppmpldfbaa
open Go Go.RowKit

theorem errno_c (x : Int) (w : World) : Calls Try.prog 18 #[.int .i64 x] w fun e w' => e = .returned (.int .i64 x) ∧ w = w' := by
  go_enter Try.func18, Try.ntmps18
  go_wp2
  go_ret
  exact ⟨rfl, rfl⟩
def ReadsP (F F' : Nat → Prop) (g g' : Nat) (v : Value) (xs : List UInt8) (w : World) (e : Ending) (w' : World) : Prop :=
  e = .returned (.bool true) ∧ ∃ (a : Nat) (f : Int), RdrC w' F g v xs a f ∧ RefC w' F' g' (xs.drop a) f ∧ Kp (fun i => F i ∨ F' i) w w'
set_option maxRecDepth 100000 in
set_option maxHeartbeats 3200000 in
theorem reads_c {w : World} {F F' : Nat → Prop} {g g' a nn : Nat} {f kd ii : Int} {v : Value} {xs : List UInt8} (h : RdrC w F g v xs a f) (q : RefC w F' g' (xs.drop a) f) (hF : ∀ i, F i → i < w.heap.size) (hF' : ∀ i, F' i → i < w.heap.size) (hd : ∀ i, F i → ¬ F' i)
    (b1 : nn < 18446744073709551616) (b2 : -9223372036854775808 ≤ ii ∧ ii < 9223372036854775808) :
    Calls Try.prog 16 #[.pointer (some ⟨g, 0, none⟩), .pointer (some ⟨g', 0, none⟩), .agg #[.int .i64 kd, .int .u64 (nn : Int), .int .i64 ii]] w (ReadsP F F' g g' v xs w) := by
  have k0 := (Kp.refl (fun _ => False) w).alloc (.cells #[.int .i64 kd, .int .u64 (nn : Int), .int .i64 ii] 37)
  obtain ⟨wa, hwa⟩ : ∃ wa, w.alloc (.cells #[.int .i64 kd, .int .u64 (nn : Int), .int .i64 ii] 37) = wa := ⟨_, rfl⟩
  have c0 : wa.cell? ⟨w.heap.size, 0, none⟩ = some (.int .i64 kd) := by rw [← hwa]; simp
  have c1 : wa.cell? ⟨w.heap.size, 1, none⟩ = some (.int .u64 (nn : Int)) := by rw [← hwa]; simp
  have c2 : wa.cell? ⟨w.heap.size, 2, none⟩ = some (.int .i64 ii) := by rw [← hwa]; simp
  have hgb : w.heap.size < wa.heap.size := by rw [← hwa]; simp
  rw [hwa] at k0
  have hnb : ¬ (F w.heap.size ∨ F' w.heap.size) := by
    rintro (x | x)
    · have := hF _ x; omega
    · have := hF' _ x; omega
  go_enter Try.func16, Try.ntmps16
  have hl1 : ∀ w1, KpN wa w1 → w1.cell? ⟨w.heap.size, 1, none⟩ = some (.int .u64 (nn : Int)) := fun w1 d => (d.cell (p := ⟨w.heap.size, 1, none⟩) hgb (fun x => x)).trans c1
  have hl2 : ∀ w1, KpN wa w1 → w1.cell? ⟨w.heap.size, 2, none⟩ = some (.int .i64 ii) := fun w1 d => (d.cell (p := ⟨w.heap.size, 2, none⟩) hgb (fun x => x)).trans c2
  have HL1 := Lib.hid hl1
  have HL2 := Lib.hid hl2
  have hlt : ∀ w1, KpN wa w1 → w.heap.size < w1.heap.size := fun w1 d => Nat.lt_of_lt_of_le hgb d.size
  have HLT := Lib.hid hlt
  clear hl1 hl2 hlt
  have hFd : ∀ i, F' i → ¬ F i := fun i x y => hd i y x
  by_cases e1 : kd = 1
  · subst e1
    obtain ⟨n1, a1, f1, hN⟩ : ∃ n1 a1 f1, rNum xs a f nn = (n1, a1, f1) := ⟨_, _, _, rfl⟩
    have HN := Lib.hid hN
    have hle := h.le
    clear hN
    go_wp2_with fail
    refine rg_begin 10 (fun i => F i ∨ F' i) (by kernel_rfl) (fun w1 d1 => ?_)
    have k01 := k0.thenN d1
    have hC := rdNumber_c (most := nn) (h.keepN k01) b1
    rw [HN.out] at hC
    refine rg_take 0 (d := (some 13)) (v := .pointer (some ⟨g, 0, none⟩)) (by decide) rfl rfl (by kernel_rfl) (by kernel_rfl) (by kernel_rfl) (fun _ _ _ h => h) rfl (fun W => rfl) ?_
    conv => arg 8; simp only [Act.put, List.setIfInBounds_toArray, List.set_cons_zero, List.set_cons_succ]
    refine rg_take 1 (d := (some 14)) (v := .pointer (some ⟨w.heap.size, 1, none⟩)) (by decide) rfl rfl (by kernel_rfl) (by kernel_rfl) (by kernel_rfl) (fun _ _ _ h => h) rfl (fun W => by go_simp) ?_
    conv => arg 8; simp only [Act.put, List.setIfInBounds_toArray, List.set_cons_zero, List.set_cons_succ]
    refine rg_read 2 (d := (some 15)) (v := .int .u64 nn) (by decide) (by kernel_rfl) (by kernel_rfl) rfl rfl (by kernel_rfl) (by kernel_rfl) (by kernel_rfl) (fun _ _ _ h => h) rfl (fun W hW => by have hc := (hW.cell (p := ⟨w.heap.size, 1, none⟩) (HLT.out w1 d1) hnb).trans (HL1.out w1 d1); go_simp) ?_
    conv => arg 8; simp only [Act.put, List.setIfInBounds_toArray, List.set_cons_zero, List.set_cons_succ]
    refine rg_take 4 (d := (some 17)) (v := .pointer (some ⟨g', 0, none⟩)) (by decide) rfl rfl (by kernel_rfl) (by kernel_rfl) (by kernel_rfl) (fun _ _ _ h => h) rfl (fun W => rfl) ?_
    conv => arg 8; simp only [Act.put, List.setIfInBounds_toArray, List.set_cons_zero, List.set_cons_succ]
    refine rg_take 5 (d := (some 18)) (v := .pointer (some ⟨w.heap.size, 1, none⟩)) (by decide) rfl rfl (by kernel_rfl) (by kernel_rfl) (by kernel_rfl) (fun _ _ _ h => h) rfl (fun W => by go_simp) ?_
    conv => arg 8; simp only [Act.put, List.setIfInBounds_toArray, List.set_cons_zero, List.set_cons_succ]
    refine rg_read 6 (d := (some 19)) (v := .int .u64 nn) (by decide) (by kernel_rfl) (by kernel_rfl) rfl rfl (by kernel_rfl) (by kernel_rfl) (by kernel_rfl) (fun _ _ _ h => h) rfl (fun W hW => by have hc := (hW.cell (p := ⟨w.heap.size, 1, none⟩) (HLT.out w1 d1) hnb).trans (HL1.out w1 d1); go_simp) ?_
    conv => arg 8; simp only [Act.put, List.setIfInBounds_toArray, List.set_cons_zero, List.set_cons_succ]
    refine rg_call 3 (d := (some 16)) (by kernel_rfl) (hC) rfl rfl (by kernel_rfl) rfl rfl ?_
    rintro e w2 ⟨rfl, r2, k2⟩
    refine ⟨_, rfl, k2.mono (fun _ _ x => .inl x), ?_⟩
    conv => arg 8; simp only [Act.put, List.setIfInBounds_toArray, List.set_cons_zero, List.set_cons_succ]
    have hD := rfNumber_c (most := nn) ((q.keepN k01).keep k2 hFd) hle b1
    rw [HN.out] at hD
    refine rg_call 7 (d := (some 20)) (by kernel_rfl) (hD) rfl rfl (by kernel_rfl) rfl rfl ?_
    rintro e w3 ⟨rfl, q3, k3⟩
    refine ⟨_, rfl, k3.mono (fun _ _ x => .inr x), ?_⟩
    conv => arg 8; simp only [Act.put, List.setIfInBounds_toArray, List.set_cons_zero, List.set_cons_succ]
    refine rg_take 8 (d := (some 21)) (v := .bool true) (by decide) rfl rfl (by kernel_rfl) (by kernel_rfl) (by kernel_rfl) (fun _ _ _ h => h) rfl (fun W => by go_simp) ?_
    conv => arg 8; simp only [Act.put, List.setIfInBounds_toArray, List.set_cons_zero, List.set_cons_succ]
    refine rg_take 9 (d := (some 6)) (v := .bool true) (by decide) rfl rfl (by kernel_rfl) (by kernel_rfl) (by kernel_rfl) (fun _ _ _ h => h) rfl (fun W => rfl) ?_
    conv => arg 8; simp only [Act.put, List.setIfInBounds_toArray, List.set_cons_zero, List.set_cons_succ]
    refine rg_done (by kernel_rfl) ?_
    have r3 := r2.keep k3 hd
    have k03 := Kp.after k01 ((k2.trans k3 (U := fun i => F i ∨ F' i) (fun _ _ x => .inl x) (fun _ _ x => .inr x)))
    go_wp2
    go_ret
    exact ⟨rfl, a1, f1, r3, q3, k03⟩
  · by_cases e2 : kd = 2
    · subst e2
      obtain ⟨ys, a1, f1, hN⟩ : ∃ ys a1 f1, rBytes xs a f ii = (ys, a1, f1) := ⟨_, _, _, rfl⟩
      have hyl := rBytes_len hN
      have HN := Lib.hid hN
      have hsm := h.small
      have hC := rdBytes_c (most := ii) (h.keepN k0) (by omega) (fun i hi => by have := hF i hi; omega)
      rw [HN.out] at hC
      clear hN
      go_wp2_with fail
      refine hC.mono ?_
      rintro e w2 ⟨x, rfl, o2, r2, k2⟩
      clear hC
      have hz2 := k2.size
      have q2 := (q.keepN k0).keep k2 hFd
      have hnx : ∀ k, x.ownBlock = some k → ¬ F' k := fun k hk hf => by have := (o2.fit k hk).1; have := hF' k hf; omega
      have c22 : w2.cell? ⟨w.heap.size, 2, none⟩ = some (.int .i64 ii) := (k2.cell (p := ⟨w.heap.size, 2, none⟩) hgb (fun x => hnb (.inl x))).trans c2
      have hz2' : w.heap.size < w2.heap.size := Nat.lt_of_lt_of_le hgb hz2
      have hfx : ∀ i, Iv wa.heap.size w2.heap.size i → ¬ (F i ∨ F' i) := fun i hi => by
        rintro (x | x)
        · have := hF _ x; have := hi.1; omega
        · have := hF' _ x; have := hi.1; omega
      go_wp2_with fail
      refine rg_begin 7 (F') (by kernel_rfl) (fun w3 d3 => ?_)
      have hD := rfBytes_c (most := ii) (q2.keepN d3) (by omega)
      rw [HN.out] at hD
      refine rg_take 0 (d := (some 28)) (v := x) (by decide) rfl rfl (by kernel_rfl) (by kernel_rfl) (by kernel_rfl) (fun _ _ _ h => h) rfl (fun W => rfl) ?_
      conv => arg 8; simp only [Act.put, List.setIfInBounds_toArray, List.set_cons_zero, List.set_cons_succ]
      refine rg_conv 1 (d := (some 29)) ((o2.keepN d3).readsB) hnx Try.underlying22 Try.underlying5 Try.underlying9 (by decide) (by kernel_rfl) (by kernel_rfl) rfl rfl (by kernel_rfl) (by kernel_rfl) (by kernel_rfl) (fun _ _ _ h => h) rfl rfl ?_
      conv => arg 8; simp only [Act.put, List.setIfInBounds_toArray, List.set_cons_zero, List.set_cons_succ]
      refine rg_take 2 (d := (some 30)) (v := .pointer (some ⟨g', 0, none⟩)) (by decide) rfl rfl (by kernel_rfl) (by kernel_rfl) (by kernel_rfl) (fun _ _ _ h => h) rfl (fun W => rfl) ?_
      conv => arg 8; simp only [Act.put, List.setIfInBounds_toArray, List.set_cons_zero, List.set_cons_succ]
      refine rg_take 3 (d := (some 31)) (v := .pointer (some ⟨w.heap.size, 2, none⟩)) (by decide) rfl rfl (by kernel_rfl) (by kernel_rfl) (by kernel_rfl) (fun _ _ _ h => h) rfl (fun W => by go_simp) ?_
      conv => arg 8; simp only [Act.put, List.setIfInBounds_toArray, List.set_cons_zero, List.set_cons_succ]
      refine rg_readD 4 [5, 6, 7, 8, 9, 10, 11, 12] (d := (some 32)) (v := .int .i64 ii) (by decide) (by kernel_rfl) (by kernel_rfl) (by kernel_rfl) rfl rfl (by kernel_rfl) (by kernel_rfl) (by kernel_rfl) (fun _ _ _ h => h) rfl (fun W hW => by have hc := (hW.cell (p := ⟨w.heap.size, 2, none⟩) (Nat.lt_of_lt_of_le hz2' d3.size) (fun x => hnb (.inr x))).trans ((d3.cell (p := ⟨w.heap.size, 2, none⟩) hz2' (fun x => x)).trans c22); go_simp) ?_
      conv => arg 8; simp only [Act.put, List.setIfInBounds_toArray, List.set_cons_zero, List.set_cons_succ]
      refine rg_call 5 (d := (some 33)) (by kernel_rfl) (hD) rfl rfl (by kernel_rfl) rfl rfl ?_
      rintro e w4 ⟨y4, rfl, p4, q4, k4⟩
      refine ⟨_, rfl, k4, ?_⟩
      conv => arg 8; simp only [Act.put, List.setIfInBounds_toArray, List.set_cons_zero, List.set_cons_succ]
      have o4 := (o2.keepN d3).keep k4 (fun i hi hf => hfx i hi (.inr hf))
      refine rg_conv1 6 (d := (some 34)) (p4.readsB) Try.underlying22 Try.underlying5 Try.underlying9 rfl rfl (by kernel_rfl) rfl rfl ?_
      conv => arg 8; simp only [Act.put, List.setIfInBounds_toArray, List.set_cons_zero, List.set_cons_succ]
      refine rg_only 7 (d := (some 35)) (v := .bool true) rfl rfl (by kernel_rfl) rfl (by go_simp) ?_
      conv => arg 8; simp only [Act.put, List.setIfInBounds_toArray, List.set_cons_zero, List.set_cons_succ]
      refine rg_stage 13 (Iv wa.heap.size w2.heap.size) (by kernel_rfl) ?_
      refine rg_take 8 (d := (some 36)) (v := .bool true) (by decide) rfl rfl (by kernel_rfl) (by kernel_rfl) (by kernel_rfl) (fun _ _ _ h => h) rfl (fun W => rfl) ?_
      conv => arg 8; simp only [Act.put, List.setIfInBounds_toArray, List.set_cons_zero, List.set_cons_succ]
      refine rg_take 9 (d := (some 37)) (v := x) (by decide) rfl rfl (by kernel_rfl) (by kernel_rfl) (by kernel_rfl) (fun _ _ _ h => h) rfl (fun W => rfl) ?_
      conv => arg 8; simp only [Act.put, List.setIfInBounds_toArray, List.set_cons_zero, List.set_cons_succ]
      refine rg_call 10 (d := (some 38)) (by kernel_rfl) (spoils_c o4 (by omega)) rfl rfl (by kernel_rfl) rfl rfl ?_
      rintro e w5 ⟨rfl, k5⟩
      refine ⟨_, rfl, k5, ?_⟩
      conv => arg 8; simp only [Act.put, List.setIfInBounds_toArray, List.set_cons_zero, List.set_cons_succ]
      refine rg_take 11 (d := (some 39)) (v := .bool true) (by decide) rfl rfl (by kernel_rfl) (by kernel_rfl) (by kernel_rfl) (fun _ _ _ h => h) rfl (fun W => rfl) ?_
      conv => arg 8; simp only [Act.put, List.setIfInBounds_toArray, List.set_cons_zero, List.set_cons_succ]
      refine rg_take 12 (d := (some 6)) (v := .bool true) (by decide) rfl rfl (by kernel_rfl) (by kernel_rfl) (by kernel_rfl) (fun _ _ _ h => h) rfl (fun W => rfl) ?_
      conv => arg 8; simp only [Act.put, List.setIfInBounds_toArray, List.set_cons_zero, List.set_cons_succ]
      refine rg_done (by kernel_rfl) ?_
      have r5 := ((r2.keepN d3).keep k4 hd).keep k5 (fun i hi hf => hfx i hf (.inl hi))
      have q5 := q4.keep k5 (fun i hi hf => hfx i hf (.inr hi))
      have k24 := (k2.thenN d3).trans k4 (U := fun i => F i ∨ F' i) (fun _ _ x => .inl x) (fun _ _ x => .inr x)
      have k05 := Kp.after k0 (k24.trans k5 (fun _ _ x => x) (fun i hi hf => by have := hf.1; omega))
      go_wp2
      go_ret
      exact ⟨rfl, a1, f1, r5, q5, k05⟩
    · by_cases e3 : kd = 3
      · subst e3
        obtain ⟨ys, a1, f1, hN⟩ : ∃ ys a1 f1, rTake xs a f ii = (ys, a1, f1) := ⟨_, _, _, rfl⟩
        have hyl := rTake_len hN
        have HN := Lib.hid hN
        have hsm := h.small
        have hC := rdTake_c (n := ii) (h.keepN k0) (by omega)
        rw [HN.out] at hC
        clear hN
        go_wp2_with fail
        refine hC.mono ?_
        rintro e w2 ⟨x, rfl, o2, r2, k2⟩
        clear hC
        have hz2 := k2.size
        have q2 := (q.keepN k0).keep k2 hFd
        have hnx : ∀ k, x.ownBlock = some k → ¬ F' k := fun k hk hf => by have := (o2.fit k hk).1; have := hF' k hf; omega
        have c22 : w2.cell? ⟨w.heap.size, 2, none⟩ = some (.int .i64 ii) := (k2.cell (p := ⟨w.heap.size, 2, none⟩) hgb (fun x => hnb (.inl x))).trans c2
        have hz2' : w.heap.size < w2.heap.size := Nat.lt_of_lt_of_le hgb hz2
        have hfx : ∀ i, Iv wa.heap.size w2.heap.size i → ¬ (F i ∨ F' i) := fun i hi => by
          rintro (x | x)
          · have := hF _ x; have := hi.1; omega
          · have := hF' _ x; have := hi.1; omega
        go_wp2_with fail
        refine rg_begin 7 (F') (by kernel_rfl) (fun w3 d3 => ?_)
        have hD := rfTake_c (n := ii) (q2.keepN d3) (by omega)
        rw [HN.out] at hD
        refine rg_take 0 (d := (some 46)) (v := x) (by decide) rfl rfl (by kernel_rfl) (by kernel_rfl) (by kernel_rfl) (fun _ _ _ h => h) rfl (fun W => rfl) ?_
        conv => arg 8; simp only [Act.put, List.setIfInBounds_toArray, List.set_cons_zero, List.set_cons_succ]
        refine rg_conv 1 (d := (some 47)) ((o2.keepN d3).readsB) hnx Try.underlying22 Try.underlying5 Try.underlying9 (by decide) (by kernel_rfl) (by kernel_rfl) rfl rfl (by kernel_rfl) (by kernel_rfl) (by kernel_rfl) (fun _ _ _ h => h) rfl rfl ?_
        conv => arg 8; simp only [Act.put, List.setIfInBounds_toArray, List.set_cons_zero, List.set_cons_succ]
        refine rg_take 2 (d := (some 48)) (v := .pointer (some ⟨g', 0, none⟩)) (by decide) rfl rfl (by kernel_rfl) (by kernel_rfl) (by kernel_rfl) (fun _ _ _ h => h) rfl (fun W => rfl) ?_
        conv => arg 8; simp only [Act.put, List.setIfInBounds_toArray, List.set_cons_zero, List.set_cons_succ]
        refine rg_take 3 (d := (some 49)) (v := .pointer (some ⟨w.heap.size, 2, none⟩)) (by decide) rfl rfl (by kernel_rfl) (by kernel_rfl) (by kernel_rfl) (fun _ _ _ h => h) rfl (fun W => by go_simp) ?_
        conv => arg 8; simp only [Act.put, List.setIfInBounds_toArray, List.set_cons_zero, List.set_cons_succ]
        refine rg_readD 4 [5, 6, 7, 8, 9, 10, 11, 12] (d := (some 50)) (v := .int .i64 ii) (by decide) (by kernel_rfl) (by kernel_rfl) (by kernel_rfl) rfl rfl (by kernel_rfl) (by kernel_rfl) (by kernel_rfl) (fun _ _ _ h => h) rfl (fun W hW => by have hc := (hW.cell (p := ⟨w.heap.size, 2, none⟩) (Nat.lt_of_lt_of_le hz2' d3.size) (fun x => hnb (.inr x))).trans ((d3.cell (p := ⟨w.heap.size, 2, none⟩) hz2' (fun x => x)).trans c22); go_simp) ?_
        conv => arg 8; simp only [Act.put, List.setIfInBounds_toArray, List.set_cons_zero, List.set_cons_succ]
        refine rg_call 5 (d := (some 51)) (by kernel_rfl) (hD) rfl rfl (by kernel_rfl) rfl rfl ?_
        rintro e w4 ⟨y4, rfl, p4, q4, k4⟩
        refine ⟨_, rfl, k4, ?_⟩
        conv => arg 8; simp only [Act.put, List.setIfInBounds_toArray, List.set_cons_zero, List.set_cons_succ]
        have o4 := (o2.keepN d3).keep k4 (fun i hi hf => hfx i hi (.inr hf))
        refine rg_conv1 6 (d := (some 52)) (p4.readsB) Try.underlying22 Try.underlying5 Try.underlying9 rfl rfl (by kernel_rfl) rfl rfl ?_
        conv => arg 8; simp only [Act.put, List.setIfInBounds_toArray, List.set_cons_zero, List.set_cons_succ]
        refine rg_only 7 (d := (some 53)) (v := .bool true) rfl rfl (by kernel_rfl) rfl (by go_simp) ?_
        conv => arg 8; simp only [Act.put, List.setIfInBounds_toArray, List.set_cons_zero, List.set_cons_succ]
        refine rg_stage 13 (Iv wa.heap.size w2.heap.size) (by kernel_rfl) ?_
        refine rg_take 8 (d := (some 54)) (v := .bool true) (by decide) rfl rfl (by kernel_rfl) (by kernel_rfl) (by kernel_rfl) (fun _ _ _ h => h) rfl (fun W => rfl) ?_
        conv => arg 8; simp only [Act.put, List.setIfInBounds_toArray, List.set_cons_zero, List.set_cons_succ]
        refine rg_take 9 (d := (some 55)) (v := x) (by decide) rfl rfl (by kernel_rfl) (by kernel_rfl) (by kernel_rfl) (fun _ _ _ h => h) rfl (fun W => rfl) ?_
        conv => arg 8; simp only [Act.put, List.setIfInBounds_toArray, List.set_cons_zero, List.set_cons_succ]
        refine rg_call 10 (d := (some 56)) (by kernel_rfl) (spoils_c o4 (by omega)) rfl rfl (by kernel_rfl) rfl rfl ?_
        rintro e w5 ⟨rfl, k5⟩
        refine ⟨_, rfl, k5, ?_⟩
        conv => arg 8; simp only [Act.put, List.setIfInBounds_toArray, List.set_cons_zero, List.set_cons_succ]
        refine rg_take 11 (d := (some 57)) (v := .bool true) (by decide) rfl rfl (by kernel_rfl) (by kernel_rfl) (by kernel_rfl) (fun _ _ _ h => h) rfl (fun W => rfl) ?_
        conv => arg 8; simp only [Act.put, List.setIfInBounds_toArray, List.set_cons_zero, List.set_cons_succ]
        refine rg_take 12 (d := (some 6)) (v := .bool true) (by decide) rfl rfl (by kernel_rfl) (by kernel_rfl) (by kernel_rfl) (fun _ _ _ h => h) rfl (fun W => rfl) ?_
        conv => arg 8; simp only [Act.put, List.setIfInBounds_toArray, List.set_cons_zero, List.set_cons_succ]
        refine rg_done (by kernel_rfl) ?_
        have r5 := ((r2.keepN d3).keep k4 hd).keep k5 (fun i hi hf => hfx i hf (.inl hi))
        have q5 := q4.keep k5 (fun i hi hf => hfx i hf (.inr hi))
        have k24 := (k2.thenN d3).trans k4 (U := fun i => F i ∨ F' i) (fun _ _ x => .inl x) (fun _ _ x => .inr x)
        have k05 := Kp.after k0 (k24.trans k5 (fun _ _ x => x) (fun i hi hf => by have := hf.1; omega))
        go_wp2
        go_ret
        exact ⟨rfl, a1, f1, r5, q5, k05⟩
      · by_cases e5 : kd = 5
        · subst e5
          go_wp2_with fail
          refine (fail_c (e := ii) (h.keepN k0)).mono ?_
          rintro e w2 ⟨⟨u, rfl⟩, r2, k2⟩
          have c22 : w2.cell? ⟨w.heap.size, 2, none⟩ = some (.int .i64 ii) := (k2.cell (p := ⟨w.heap.size, 2, none⟩) hgb (fun x => hnb (.inl x))).trans c2
          go_wp2_with fail
          refine (rfFail_c (e := ii) ((q.keepN k0).keep k2 hFd)).mono ?_
          rintro e w3 ⟨⟨u', rfl⟩, q3, k3⟩
          have r3 := r2.keep k3 hd
          have k03 := Kp.after k0 ((k2.trans k3 (U := fun i => F i ∨ F' i) (fun _ _ x => .inl x) (fun _ _ x => .inr x)))
          go_wp2
          go_ret
          exact ⟨rfl, a, _, r3, q3, k03⟩
        · by_cases e7 : kd = 7
          · subst e7
            obtain ⟨f1, hN⟩ : ∃ f1, rEnd xs a f = f1 := ⟨_, rfl⟩
            have HN := Lib.hid hN
            clear hN
            have hC := rdEnd_c (h.keepN k0)
            rw [HN.out] at hC
            go_wp2_with fail
            refine hC.mono ?_
            rintro e w2 ⟨rfl, r2, k2⟩
            clear hC
            go_wp2_with fail
            refine (errno_c f1 _).mono ?_
            rintro e w3 ⟨rfl, rfl⟩
            have hD := rfEnd_c ((q.keepN k0).keep k2 hFd)
            rw [HN.out] at hD
            go_wp2_with fail
            refine hD.mono ?_
            rintro e w3 ⟨rfl, q3, k3⟩
            clear hD
            have r3 := r2.keep k3 hd
            have k03 := Kp.after k0 ((k2.trans k3 (U := fun i => F i ∨ F' i) (fun _ _ x => .inl x) (fun _ _ x => .inr x)))
            go_wp2
            go_ret
            exact ⟨rfl, a, f1, r3, q3, k03⟩
          · go_wp2
            go_ret
            exact ⟨rfl, a, f, h.keepN k0, q.keepN k0, Kp.mono k0 (fun _ _ x => x.elim)⟩
/-- the loop after j rounds -/
def ReadsRel (n : Nat) (F F' : Nat → Prop) (g g' : Nat) (v : Value) (xs : List UInt8) (w1 : World) (i : Value) (wr : World) : Prop :=
  ∃ (j a : Nat) (f : Int), j ≤ n ∧ i = .int .i64 j ∧ RdrC wr F g v xs a f ∧ RefC wr F' g' (xs.drop a) f ∧ Kp (fun i => F i ∨ F' i) w1 wr
set_option maxRecDepth 100000 in
set_option maxHeartbeats 3200000 in
theorem octetReads_walk {v s : Value} {xs : List UInt8} {ops : List (Int × Nat × Int)} {w : World} (h : RdB w v xs) (ho : RdOps w s ops) (hb : xs.length ≤ 1000000000) (hbo : ops.length ≤ 1000000000) :
    Calls Try.prog 5 #[v, s] w fun e w' => e = .returned (.bool true) ∧ KpN w w' := by
  obtain ⟨A, c, rfl, hc⟩ := h.form
  obtain ⟨B, d, rfl, hd, hops⟩ := id ho
  clear hops
  go_enter Try.func5, Try.ntmps5
  go_wp2_with fail
  refine (lent_c h (by omega)).mono ?_
  rintro e w1 ⟨all, rfl, o1, k1⟩
  obtain ⟨g0, cap, rfl, hg0, hcap, rall⟩ := lent_form o1
  have hci : (xs.length : Int) ≤ (cap : Int) := by omega
  go_wp2_with fail
  refine (new_c rall (by omega)).mono ?_
  rintro e w2 ⟨g, u, rfl, r2, k2⟩
  go_wp2_with fail
  refine (rfNew_c (h.keepN (k1.thenN k2)) (by omega)).mono ?_
  rintro e w3 ⟨g', rfl, q3, k3⟩
  go_wp2_with fail
  have k03 := (k1.thenN k2).thenN k3
  refine (stays_c (o1.keepN (k2.thenN k3)).readsB (h.keepN k03) (by omega)).mono ?_
  rintro e w4 ⟨rfl, rfl⟩
  have hz1 := k1.size
  have hz2 := k2.size
  have hz3 := k3.size
  go_wp2_with fail
  refine (turned_c (o1.keepN (k2.thenN k3)) (by rfl) (by omega)).mono ?_
  rintro e w4 ⟨now, rfl, n4, o4, k4⟩
  have k04 : KpN w w4 := k03.fresh k4 (fun i h1 => by omega)
  have r4 := (r2.keepN k3).keep k4 (fun i h1 h2 => by have := h1.1; have := h2.2; omega)
  have q4 := q3.keep k4 (fun i h1 h2 => by have := h1.1; have := h2.2; omega)
  have hz4 := k4.size
  clear o1 rall k1 k2 k3 k03 o4 n4 r2 q3 k4
  go_wp2_with fail
  go_loopw [8] (fun i wr => ReadsRel ops.length (Iv w1.heap.size w2.heap.size) (Iv w2.heap.size w3.heap.size) g g' u xs w4 i wr) (fun i _ => ops.length - (intOf i).toNat)
  case atStart => exact ⟨0, 0, 0, by omega, rfl, r4, q4, Kp.refl _ _⟩
  case round =>
    obtain ⟨j, a, f, hj, rfl, rr, qq, kk⟩ := hrel
    have k0r : KpN w wr := k04.fresh kk (fun i hi => by rcases hi with hi | hi <;> have := hi.1 <;> omega)
    have hzr := kk.size
    have hle := rr.le
    have hsm := rr.small
    by_cases hlt : j < ops.length
    · obtain ⟨ad, kd, nn, ii, rfl, -, row, b0, b1, b2⟩ := ho.row j hlt
      have hnad : ¬ (Iv w1.heap.size w2.heap.size ad.block ∨ Iv w2.heap.size w3.heap.size ad.block) := by
        have := World.block_lt_of_cell? w _ (row 0 _ rfl)
        rw [add_block, add_block] at this
        rintro (x | x) <;> have := x.1 <;> omega
      go_wp2_with fail
      refine rg_begin 7 (fun i => Iv w1.heap.size w2.heap.size i ∨ Iv w2.heap.size w3.heap.size i) (by kernel_rfl) (fun w5 d5 => ?_)
      have row5 := row.keepN (k0r.thenN d5)
      have hz5 := d5.size
      have hC := reads_c (kd := kd) (rr.keepN d5) (qq.keepN d5) (fun i hi => by have := hi.2; omega) (fun i hi => by have := hi.2; omega) (fun i h1 h2 => by have := h1.2; have := h2.1; omega) b1 b2
      refine rg_take 0 (d := (some 34)) (v := .pointer (some ⟨g, 0, none⟩)) (by decide) rfl rfl (by kernel_rfl) (by kernel_rfl) (by kernel_rfl) (fun _ _ _ h => h) rfl (fun W => rfl) ?_
      conv => arg 8; simp only [Act.put, List.setIfInBounds_toArray, List.set_cons_zero, List.set_cons_succ]
      refine rg_take 1 (d := (some 35)) (v := .pointer (some ⟨g', 0, none⟩)) (by decide) rfl rfl (by kernel_rfl) (by kernel_rfl) (by kernel_rfl) (fun _ _ _ h => h) rfl (fun W => rfl) ?_
      conv => arg 8; simp only [Act.put, List.setIfInBounds_toArray, List.set_cons_zero, List.set_cons_succ]
      refine rg_take 2 (d := (some 36)) (v := .slice (some ad) ops.length d) (by decide) rfl rfl (by kernel_rfl) (by kernel_rfl) (by kernel_rfl) (fun _ _ _ h => h) rfl (fun W => rfl) ?_
      conv => arg 8; simp only [Act.put, List.setIfInBounds_toArray, List.set_cons_zero, List.set_cons_succ]
      refine rg_take 3 (d := (some 37)) (v := .int .i64 j) (by decide) rfl rfl (by kernel_rfl) (by kernel_rfl) (by kernel_rfl) (fun _ _ _ h => h) rfl (fun W => rfl) ?_
      conv => arg 8; simp only [Act.put, List.setIfInBounds_toArray, List.set_cons_zero, List.set_cons_succ]
      refine rg_take 4 (d := (some 38)) (v := .pointer (some (ad.add (j * 3)))) (by decide) rfl rfl (by kernel_rfl) (by kernel_rfl) (by kernel_rfl) (fun _ _ _ h => h) rfl (fun W => by go_simp) ?_
      conv => arg 8; simp only [Act.put, List.setIfInBounds_toArray, List.set_cons_zero, List.set_cons_succ]
      refine rg_readD 5 [6, 7, 8, 9, 10, 11, 12, 13, 14, 15, 16, 17, 18, 19, 20, 21, 22, 23, 24, 25, 26, 27] (d := (some 39)) (v := .agg #[.int .i64 kd, .int .u64 nn, .int .i64 ii]) (by decide) (by kernel_rfl) (by kernel_rfl) (by kernel_rfl) rfl rfl (by kernel_rfl) (by kernel_rfl) (by kernel_rfl) (fun _ _ _ h => h) rfl (fun W hW => by exact run_load_op (row5.keep hW (by rw [add_block]; exact hnad)) rfl Try.underlying37 rfl (by kernel_rfl)) ?_
      conv => arg 8; simp only [Act.put, List.setIfInBounds_toArray, List.set_cons_zero, List.set_cons_succ]
      refine rg_call 6 (d := (some 40)) (by kernel_rfl) (hC) rfl rfl (by kernel_rfl) rfl rfl ?_
      rintro e w6 ⟨rfl, a1, f1, r6, q6, k6⟩
      refine ⟨_, rfl, k6, ?_⟩
      conv => arg 8; simp only [Act.put, List.setIfInBounds_toArray, List.set_cons_zero, List.set_cons_succ]
      obtain ⟨v6, c06, rd6, -⟩ := q6.c0
      obtain ⟨A6, c6, rfl, hc6⟩ := rd6.form
      obtain ⟨l, hl6⟩ : ∃ l, xs.length - a1 = l := ⟨_, rfl⟩
      have hl6' : (xs.drop a1).length = l := by rw [List.length_drop]; exact hl6
      rw [hl6'] at c06
      have hL := left_c r6
      rw [hl6] at hL
      have HL6 := Lib.hid hl6
      have HL6' := Lib.hid hl6'
      clear hl6 hl6' rd6 hc6
      refine rg_only 7 (d := (some 41)) (v := .bool false) rfl rfl (by kernel_rfl) rfl (rfl) ?_
      conv => arg 8; simp only [Act.put, List.setIfInBounds_toArray, List.set_cons_zero, List.set_cons_succ]
      refine rg_stage 28 (fun _ => False) (by kernel_rfl) ?_
      refine rg_take 8 (d := (some 42)) (v := .bool false) (by decide) rfl rfl (by kernel_rfl) (by kernel_rfl) (by kernel_rfl) (fun _ _ _ h => h) rfl (fun W => rfl) ?_
      conv => arg 8; simp only [Act.put, List.setIfInBounds_toArray, List.set_cons_zero, List.set_cons_succ]
      refine rg_take 9 (d := (some 43)) (v := .pointer (some ⟨g, 0, none⟩)) (by decide) rfl rfl (by kernel_rfl) (by kernel_rfl) (by kernel_rfl) (fun _ _ _ h => h) rfl (fun W => rfl) ?_
      conv => arg 8; simp only [Act.put, List.setIfInBounds_toArray, List.set_cons_zero, List.set_cons_succ]
      refine rg_take 11 (d := (some 45)) (v := .pointer (some ⟨g', 0, none⟩)) (by decide) rfl rfl (by kernel_rfl) (by kernel_rfl) (by kernel_rfl) (fun _ _ _ h => h) rfl (fun W => rfl) ?_
      conv => arg 8; simp only [Act.put, List.setIfInBounds_toArray, List.set_cons_zero, List.set_cons_succ]
      refine rg_take 12 (d := (some 46)) (v := .pointer (some ⟨g', 0, none⟩)) (by decide) rfl rfl (by kernel_rfl) (by kernel_rfl) (by kernel_rfl) (fun _ _ _ h => h) rfl (fun W => by go_simp) ?_
      conv => arg 8; simp only [Act.put, List.setIfInBounds_toArray, List.set_cons_zero, List.set_cons_succ]
      refine rg_take 13 (d := (some 47)) (v := .pointer (some ⟨g', 0, none⟩)) (by decide) rfl rfl (by kernel_rfl) (by kernel_rfl) (by kernel_rfl) (fun _ _ _ h => h) rfl (fun W => by go_simp) ?_
      conv => arg 8; simp only [Act.put, List.setIfInBounds_toArray, List.set_cons_zero, List.set_cons_succ]
      refine rg_read 14 (d := (some 48)) (v := .slice A6 l c6) (by decide) (by kernel_rfl) (by kernel_rfl) rfl rfl (by kernel_rfl) (by kernel_rfl) (by kernel_rfl) (fun _ _ _ h => h) rfl (fun W hW => by have hc := (hW.cell (p := ⟨g', 0, none⟩) (q6.lt) (fun x => x)).trans (c06); go_simp) ?_
      conv => arg 8; simp only [Act.put, List.setIfInBounds_toArray, List.set_cons_zero, List.set_cons_succ]
      refine rg_take 15 (d := (some 49)) (v := .int .i64 l) (by decide) rfl rfl (by kernel_rfl) (by kernel_rfl) (by kernel_rfl) (fun _ _ _ h => h) rfl (fun W => by go_simp) ?_
      conv => arg 8; simp only [Act.put, List.setIfInBounds_toArray, List.set_cons_zero, List.set_cons_succ]
      refine rg_call 10 (d := (some 44)) (by kernel_rfl) (hL) rfl rfl (by kernel_rfl) rfl rfl ?_
      rintro e w7 ⟨rfl, k7⟩
      refine ⟨_, rfl, k7, ?_⟩
      conv => arg 8; simp only [Act.put, List.setIfInBounds_toArray, List.set_cons_zero, List.set_cons_succ]
      have q7 := q6.keepN k7
      have r7 := r6.keepN k7
      refine rg_take 16 (d := (some 50)) (v := .bool false) (by decide) rfl rfl (by kernel_rfl) (by kernel_rfl) (by kernel_rfl) (fun _ _ _ h => h) rfl (fun W => by go_simp) ?_
      conv => arg 8; simp only [Act.put, List.setIfInBounds_toArray, List.set_cons_zero, List.set_cons_succ]
      refine rg_take 17 (d := (some 51)) (v := .bool false) (by decide) rfl rfl (by kernel_rfl) (by kernel_rfl) (by kernel_rfl) (fun _ _ _ h => h) rfl (fun W => rfl) ?_
      conv => arg 8; simp only [Act.put, List.setIfInBounds_toArray, List.set_cons_zero, List.set_cons_succ]
      refine rg_take 18 (d := (some 52)) (v := .bool false) (by decide) rfl rfl (by kernel_rfl) (by kernel_rfl) (by kernel_rfl) (fun _ _ _ h => h) rfl (fun W => rfl) ?_
      conv => arg 8; simp only [Act.put, List.setIfInBounds_toArray, List.set_cons_zero, List.set_cons_succ]
      refine rg_take 19 (d := (some 53)) (v := .pointer (some ⟨g, 0, none⟩)) (by decide) rfl rfl (by kernel_rfl) (by kernel_rfl) (by kernel_rfl) (fun _ _ _ h => h) rfl (fun W => rfl) ?_
      conv => arg 8; simp only [Act.put, List.setIfInBounds_toArray, List.set_cons_zero, List.set_cons_succ]
      refine rg_take 22 (d := (some 56)) (v := .pointer (some ⟨g', 0, none⟩)) (by decide) rfl rfl (by kernel_rfl) (by kernel_rfl) (by kernel_rfl) (fun _ _ _ h => h) rfl (fun W => rfl) ?_
      conv => arg 8; simp only [Act.put, List.setIfInBounds_toArray, List.set_cons_zero, List.set_cons_succ]
      refine rg_take 23 (d := (some 57)) (v := .pointer (some ⟨g', 0, none⟩)) (by decide) rfl rfl (by kernel_rfl) (by kernel_rfl) (by kernel_rfl) (fun _ _ _ h => h) rfl (fun W => by go_simp) ?_
      conv => arg 8; simp only [Act.put, List.setIfInBounds_toArray, List.set_cons_zero, List.set_cons_succ]
      refine rg_take 24 (d := (some 58)) (v := .pointer (some ⟨g', 1, none⟩)) (by decide) rfl rfl (by kernel_rfl) (by kernel_rfl) (by kernel_rfl) (fun _ _ _ h => h) rfl (fun W => by go_simp) ?_
      conv => arg 8; simp only [Act.put, List.setIfInBounds_toArray, List.set_cons_zero, List.set_cons_succ]
      refine rg_read 25 (d := (some 59)) (v := .int .i64 f1) (by decide) (by kernel_rfl) (by kernel_rfl) rfl rfl (by kernel_rfl) (by kernel_rfl) (by kernel_rfl) (fun _ _ _ h => h) rfl (fun W hW => by have hc := (hW.cell (p := ⟨g', 1, none⟩) (q7.lt) (fun x => x)).trans (q7.c1); go_simp) ?_
      conv => arg 8; simp only [Act.put, List.setIfInBounds_toArray, List.set_cons_zero, List.set_cons_succ]
      refine rg_call 20 (d := (some 54)) (by kernel_rfl) (err_c r7) rfl rfl (by kernel_rfl) rfl rfl ?_
      rintro e w8 ⟨rfl, rfl⟩
      refine ⟨_, rfl, Kp.refl _ _, ?_⟩
      conv => arg 8; simp only [Act.put, List.setIfInBounds_toArray, List.set_cons_zero, List.set_cons_succ]
      refine rg_call 21 (d := (some 55)) (by kernel_rfl) (errno_c f1 _) rfl rfl (by kernel_rfl) rfl rfl ?_
      rintro e w8 ⟨rfl, rfl⟩
      refine ⟨_, rfl, Kp.refl _ _, ?_⟩
      conv => arg 8; simp only [Act.put, List.setIfInBounds_toArray, List.set_cons_zero, List.set_cons_succ]
      refine rg_take 26 (d := (some 60)) (v := .bool false) (by decide) rfl rfl (by kernel_rfl) (by kernel_rfl) (by kernel_rfl) (fun _ _ _ h => h) rfl (fun W => by go_simp) ?_
      conv => arg 8; simp only [Act.put, List.setIfInBounds_toArray, List.set_cons_zero, List.set_cons_succ]
      refine rg_take 27 (d := (some 61)) (v := .bool false) (by decide) rfl rfl (by kernel_rfl) (by kernel_rfl) (by kernel_rfl) (fun _ _ _ h => h) rfl (fun W => rfl) ?_
      conv => arg 8; simp only [Act.put, List.setIfInBounds_toArray, List.set_cons_zero, List.set_cons_succ]
      refine rg_done (by kernel_rfl) ?_
      have k7' := ((kk.thenN d5).trans k6 (fun _ _ x => x) (fun _ _ x => x)).thenN k7
      clear c06 hC hL
      go_wp2
      go_roundw
      case rel => exact ⟨j + 1, a1, f1, by omega, by go_num, r7, q7, k7'⟩
      case measure => exact meas_up hlt
    · obtain ⟨v6, c06, rd6, -⟩ := qq.c0
      obtain ⟨A6, c6, rfl, hc6⟩ := rd6.form
      obtain ⟨l, hl6⟩ : ∃ l, xs.length - a = l := ⟨_, rfl⟩
      have hl6' : (xs.drop a).length = l := by rw [List.length_drop]; exact hl6
      rw [hl6'] at c06
      have HL6 := Lib.hid hl6
      have HL6' := Lib.hid hl6'
      clear hl6 hl6' rd6 hc6
      go_wp2_with fail
      refine rg_begin 19 (fun _ => False) (by kernel_rfl) (fun w5 d5 => ?_)
      have r5 := rr.keepN d5
      have q5 := qq.keepN d5
      have c05 : w5.cell? ⟨g', 0, none⟩ = some (.slice A6 l c6) := by rw [d5.cell qq.lt (fun x => x)]; exact c06
      have hL := left_c r5
      rw [HL6.out] at hL
      refine rg_take 0 (d := (some 62)) (v := .pointer (some ⟨g, 0, none⟩)) (by decide) rfl rfl (by kernel_rfl) (by kernel_rfl) (by kernel_rfl) (fun _ _ _ h => h) rfl (fun W => rfl) ?_
      conv => arg 8; simp only [Act.put, List.setIfInBounds_toArray, List.set_cons_zero, List.set_cons_succ]
      refine rg_take 2 (d := (some 64)) (v := .pointer (some ⟨g', 0, none⟩)) (by decide) rfl rfl (by kernel_rfl) (by kernel_rfl) (by kernel_rfl) (fun _ _ _ h => h) rfl (fun W => rfl) ?_
      conv => arg 8; simp only [Act.put, List.setIfInBounds_toArray, List.set_cons_zero, List.set_cons_succ]
      refine rg_take 3 (d := (some 65)) (v := .pointer (some ⟨g', 0, none⟩)) (by decide) rfl rfl (by kernel_rfl) (by kernel_rfl) (by kernel_rfl) (fun _ _ _ h => h) rfl (fun W => by go_simp) ?_
      conv => arg 8; simp only [Act.put, List.setIfInBounds_toArray, List.set_cons_zero, List.set_cons_succ]
      refine rg_take 4 (d := (some 66)) (v := .pointer (some ⟨g', 0, none⟩)) (by decide) rfl rfl (by kernel_rfl) (by kernel_rfl) (by kernel_rfl) (fun _ _ _ h => h) rfl (fun W => by go_simp) ?_
      conv => arg 8; simp only [Act.put, List.setIfInBounds_toArray, List.set_cons_zero, List.set_cons_succ]
      refine rg_read 5 (d := (some 67)) (v := .slice A6 l c6) (by decide) (by kernel_rfl) (by kernel_rfl) rfl rfl (by kernel_rfl) (by kernel_rfl) (by kernel_rfl) (fun _ _ _ h => h) rfl (fun W hW => by have hc := (hW.cell (p := ⟨g', 0, none⟩) (q5.lt) (fun x => x)).trans (c05); go_simp) ?_
      conv => arg 8; simp only [Act.put, List.setIfInBounds_toArray, List.set_cons_zero, List.set_cons_succ]
      refine rg_take 6 (d := (some 68)) (v := .int .i64 l) (by decide) rfl rfl (by kernel_rfl) (by kernel_rfl) (by kernel_rfl) (fun _ _ _ h => h) rfl (fun W => by go_simp) ?_
      conv => arg 8; simp only [Act.put, List.setIfInBounds_toArray, List.set_cons_zero, List.set_cons_succ]
      refine rg_call 1 (d := (some 63)) (by kernel_rfl) (hL) rfl rfl (by kernel_rfl) rfl rfl ?_
      rintro e w7 ⟨rfl, k7⟩
      refine ⟨_, rfl, k7, ?_⟩
      conv => arg 8; simp only [Act.put, List.setIfInBounds_toArray, List.set_cons_zero, List.set_cons_succ]
      have q7 := q5.keepN k7
      have r7 := r5.keepN k7
      refine rg_take 7 (d := (some 69)) (v := .bool true) (by decide) rfl rfl (by kernel_rfl) (by kernel_rfl) (by kernel_rfl) (fun _ _ _ h => h) rfl (fun W => by go_simp) ?_
      conv => arg 8; simp only [Act.put, List.setIfInBounds_toArray, List.set_cons_zero, List.set_cons_succ]
      refine rg_take 8 (d := (some 70)) (v := .bool true) (by decide) rfl rfl (by kernel_rfl) (by kernel_rfl) (by kernel_rfl) (fun _ _ _ h => h) rfl (fun W => rfl) ?_
      conv => arg 8; simp only [Act.put, List.setIfInBounds_toArray, List.set_cons_zero, List.set_cons_succ]
      refine rg_take 9 (d := (some 71)) (v := .pointer (some ⟨g, 0, none⟩)) (by decide) rfl rfl (by kernel_rfl) (by kernel_rfl) (by kernel_rfl) (fun _ _ _ h => h) rfl (fun W => rfl) ?_
      conv => arg 8; simp only [Act.put, List.setIfInBounds_toArray, List.set_cons_zero, List.set_cons_succ]
      refine rg_take 12 (d := (some 74)) (v := .pointer (some ⟨g', 0, none⟩)) (by decide) rfl rfl (by kernel_rfl) (by kernel_rfl) (by kernel_rfl) (fun _ _ _ h => h) rfl (fun W => rfl) ?_
      conv => arg 8; simp only [Act.put, List.setIfInBounds_toArray, List.set_cons_zero, List.set_cons_succ]
      refine rg_take 13 (d := (some 75)) (v := .pointer (some ⟨g', 0, none⟩)) (by decide) rfl rfl (by kernel_rfl) (by kernel_rfl) (by kernel_rfl) (fun _ _ _ h => h) rfl (fun W => by go_simp) ?_
      conv => arg 8; simp only [Act.put, List.setIfInBounds_toArray, List.set_cons_zero, List.set_cons_succ]
      refine rg_take 14 (d := (some 76)) (v := .pointer (some ⟨g', 1, none⟩)) (by decide) rfl rfl (by kernel_rfl) (by kernel_rfl) (by kernel_rfl) (fun _ _ _ h => h) rfl (fun W => by go_simp) ?_
      conv => arg 8; simp only [Act.put, List.setIfInBounds_toArray, List.set_cons_zero, List.set_cons_succ]
      refine rg_read 15 (d := (some 77)) (v := .int .i64 f) (by decide) (by kernel_rfl) (by kernel_rfl) rfl rfl (by kernel_rfl) (by kernel_rfl) (by kernel_rfl) (fun _ _ _ h => h) rfl (fun W hW => by have hc := (hW.cell (p := ⟨g', 1, none⟩) (q7.lt) (fun x => x)).trans (q7.c1); go_simp) ?_
      conv => arg 8; simp only [Act.put, List.setIfInBounds_toArray, List.set_cons_zero, List.set_cons_succ]
      refine rg_call 10 (d := (some 72)) (by kernel_rfl) (err_c r7) rfl rfl (by kernel_rfl) rfl rfl ?_
      rintro e w8 ⟨rfl, rfl⟩
      refine ⟨_, rfl, Kp.refl _ _, ?_⟩
      conv => arg 8; simp only [Act.put, List.setIfInBounds_toArray, List.set_cons_zero, List.set_cons_succ]
      refine rg_call 11 (d := (some 73)) (by kernel_rfl) (errno_c f _) rfl rfl (by kernel_rfl) rfl rfl ?_
      rintro e w8 ⟨rfl, rfl⟩
      refine ⟨_, rfl, Kp.refl _ _, ?_⟩
      conv => arg 8; simp only [Act.put, List.setIfInBounds_toArray, List.set_cons_zero, List.set_cons_succ]
      refine rg_take 16 (d := (some 78)) (v := .bool true) (by decide) rfl rfl (by kernel_rfl) (by kernel_rfl) (by kernel_rfl) (fun _ _ _ h => h) rfl (fun W => by go_simp) ?_
      conv => arg 8; simp only [Act.put, List.setIfInBounds_toArray, List.set_cons_zero, List.set_cons_succ]
      refine rg_take 17 (d := (some 79)) (v := .bool true) (by decide) rfl rfl (by kernel_rfl) (by kernel_rfl) (by kernel_rfl) (fun _ _ _ h => h) rfl (fun W => rfl) ?_
      conv => arg 8; simp only [Act.put, List.setIfInBounds_toArray, List.set_cons_zero, List.set_cons_succ]
      refine rg_take 18 (d := (some 4)) (v := .bool true) (by decide) rfl rfl (by kernel_rfl) (by kernel_rfl) (by kernel_rfl) (fun _ _ _ h => h) rfl (fun W => rfl) ?_
      conv => arg 8; simp only [Act.put, List.setIfInBounds_toArray, List.set_cons_zero, List.set_cons_succ]
      refine rg_done (by kernel_rfl) ?_
      go_wp2
      go_ret
      exact ⟨rfl, (k0r.thenN d5).thenN k7⟩
end Go.Proofs.Ytjhndppmpldfbaa
