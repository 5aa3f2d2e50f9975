/- Of Go's library: TrailingZeros32, Len32; Delete of one datagram. -/
import Derived.Test.YteokkpmndfekoaaDoorWM
import Derived.Test.YteokkpmndfekoaaDoorEP
import Derived.Lib.SliceRun
import Derived.Lib.Strings
import Derived.Lib.Slices
import Derived.Lib.Small
namespace Go.Proofs.YteokkpmndfekoaaDoor
open Go Go.RowKit
set_option maxRecDepth 100000

/-- the table of 32 lies where the library keeps it -/
def BitsOk (w : World) : Prop := ∀ j, j < 32 → w.cell? ⟨0, j, none⟩ = some (.int .u8 ((Lib.deBruijn32tab.getD j 0 : Nat) : Int))
theorem BitsOk.keep {w w' : World} (h : BitsOk w) {F : Nat → Prop} (k : Kp F w w') (hF : ¬ F 0) : BitsOk w' := fun j hj => by
  have := h j hj
  rw [k.cell (World.block_lt_of_cell? w _ this) hF]
  exact this
theorem BitsOk.keepN {w w' : World} (h : BitsOk w) (k : KpN w w') : BitsOk w' := h.keep k (fun x => x)
theorem BitsOk.pos {w : World} (h : BitsOk w) : 0 < w.heap.size := World.block_lt_of_cell? w _ (h 0 (by omega))
theorem and_u32 (a b : Nat) (ha : a < 4294967296) (hb : b < 4294967296) : bits .and .u32 (a : Int) (b : Int) = ((a &&& b : Nat) : Int) := u32_and_nat a b ha hb
theorem tz_key (x a : Nat) (hx : x < 4294967296) (h0 : x ≠ 0) (hl : x &&& (4294967296 - x) = a) :
    bits BinOp.and IntKind.u32 (x : Int) (-(x : Int) % 4294967296) * 125613361 % 4294967296 / 134217728 = ((a * 125613361 % 4294967296 / 134217728 : Nat) : Int) := by
  rw [show -(x : Int) % 4294967296 = ((4294967296 - x : Nat) : Int) by omega, and_u32 x _ hx (by omega), hl]
  omega
set_option maxHeartbeats 1600000 in
theorem tz_core {x k idx : Nat} {w : World} (hx0 : ((x : Int) == 0) = false) (key : bits BinOp.and IntKind.u32 (x : Int) (-(x : Int) % 4294967296) * 125613361 % 4294967296 / 134217728 = (idx : Int)) (hi : idx < 32) (hk : k < 32) (hc : w.cell? ⟨0, idx, none⟩ = some (.int .u8 (k : Int))) :
    Calls Tryd.prog 28 #[.int .u32 (x : Int)] w fun e w' => e = .returned (.int .i64 (k : Int)) ∧ w = w' := by
  go_enter Tryd.func28, Tryd.ntmps28
  go_wp2_with (simp only [key])
  go_ret
  exact ⟨rfl, rfl⟩
theorem tz_zero {w : World} : Calls Tryd.prog 28 #[.int .u32 0] w fun e w' => e = .returned (.int .i64 32) ∧ w = w' := by
  go_enter Tryd.func28, Tryd.ntmps28
  go_wp2
  go_ret
  exact ⟨rfl, rfl⟩
theorem tz_c {x : Nat} {w : World} (hx : x < 4294967296) (ht : BitsOk w) : Calls Tryd.prog 28 #[.int .u32 (x : Int)] w fun e w' => e = .returned (.int .i64 ((Lib.ctz 32 x : Nat) : Int)) ∧ w = w' := by
  by_cases h0 : x = 0
  · subst h0
    exact tz_zero
  · obtain ⟨hl, hk⟩ := Lib.lowest_bit 32 x h0 hx
    obtain ⟨hi, htab⟩ := Lib.deBruijn32_at _ hk
    have hc := ht _ hi
    rw [htab] at hc
    exact tz_core (by simp; omega) (tz_key x _ hx h0 hl) hi hk hc
/-- Len32's table is the library's -/
theorem fold_len : (⟨(([0, 1, 2, 2, 3, 3, 3, 3, 4, 4, 4, 4, 4, 4, 4, 4, 5, 5, 5, 5, 5, 5, 5, 5, 5, 5, 5, 5, 5, 5, 5, 5, 6, 6, 6, 6, 6, 6, 6, 6, 6, 6, 6, 6, 6, 6, 6, 6, 6, 6, 6, 6, 6, 6, 6, 6, 6, 6, 6, 6, 6, 6, 6, 6].append [7, 7, 7, 7, 7, 7, 7, 7, 7, 7, 7, 7, 7, 7, 7, 7, 7, 7, 7, 7, 7, 7, 7, 7, 7, 7, 7, 7, 7, 7, 7, 7, 7, 7, 7, 7, 7, 7, 7, 7, 7, 7, 7, 7, 7, 7, 7, 7, 7, 7, 7, 7, 7, 7, 7, 7, 7, 7, 7, 7, 7, 7, 7, 7]).append ([8, 8, 8, 8, 8, 8, 8, 8, 8, 8, 8, 8, 8, 8, 8, 8, 8, 8, 8, 8, 8, 8, 8, 8, 8, 8, 8, 8, 8, 8, 8, 8, 8, 8, 8, 8, 8, 8, 8, 8, 8, 8, 8, 8, 8, 8, 8, 8, 8, 8, 8, 8, 8, 8, 8, 8, 8, 8, 8, 8, 8, 8, 8, 8].append [8, 8, 8, 8, 8, 8, 8, 8, 8, 8, 8, 8, 8, 8, 8, 8, 8, 8, 8, 8, 8, 8, 8, 8, 8, 8, 8, 8, 8, 8, 8, 8, 8, 8, 8, 8, 8, 8, 8, 8, 8, 8, 8, 8, 8, 8, 8, 8, 8, 8, 8, 8, 8, 8, 8, 8, 8, 8, 8, 8, 8, 8, 8, 8])).toArray⟩ : ByteArray) = Lib.len8tab := rfl
theorem len8_nat (i : Nat) (h : i < 256) : Lib.len8 (i : Int) = (Lib.bitLen i : Int) := Lib.len8_eq ⟨i, h⟩
theorem run_len_op {i : Nat} {a : Act} {dst : Option Tmp} {ty : TypeId} {x : Operand} {pos : String} {af : Array Edge} {gd : Option (Nat × Bool)} {w : World} (hx : a.eval x = .int .u8 (i : Int)) (h : i < 256) :
    (execOp a.eval { dst := dst, op := .index 9 (.const (.string Lib.len8tab)) x, type := ty, pos := pos, after := af, guard := gd }).run Tryd.prog w = .ok (.value (.int .u8 ((Lib.bitLen i : Nat) : Int))) w := by
  have hr := Lib.run_index_len8tab (P := Tryd.prog) w 9 .u8 (i : Int) Tryd.underlying9 (by omega) (by omega)
  rw [len8_nat i h] at hr
  have hc : a.eval (.const (.string Lib.len8tab)) = .string Lib.len8tab := rfl
  unfold execOp
  simp only [hx, hc, Sem.run_bind, hr, Result.andThen_ok, Sem.run_pure]
theorem bitLen_small (i : Nat) (h : i < 256) : Lib.bitLen i ≤ 8 := Lib.bitLen_le8 ⟨i, h⟩
theorem len32_24 {X : Int} {p q B : Nat} {w : World} (h1 : 65536 ≤ X) (e1 : X / 65536 = (p : Int)) (h2 : 256 ≤ p) (e2 : (p : Int) / 256 = (q : Int)) (h3 : q < 256) (hB : Lib.bitLen q = B) (h4 : B ≤ 8) :
    Calls Tryd.prog 29 #[.int .u32 X] w fun e w' => e = .returned (.int .i64 ((24 + B : Nat) : Int)) ∧ w = w' := by
  go_enter Tryd.func29, Tryd.ntmps29
  rw [fold_len]
  go_wp2_with ((with_reducible show wpList _ _ _ (Oper.mk _ (Op.index _ _ _) _ _ _ _ :: _) _ _); refine wpl_val rfl (run_len_op (i := q) rfl h3) ?_; rw [hB])
  go_ret
  exact ⟨by go_num, rfl⟩
theorem len32_16 {X : Int} {q B : Nat} {w : World} (h1 : 65536 ≤ X) (e1 : X / 65536 = (q : Int)) (h3 : q < 256) (hB : Lib.bitLen q = B) (h4 : B ≤ 8) :
    Calls Tryd.prog 29 #[.int .u32 X] w fun e w' => e = .returned (.int .i64 ((16 + B : Nat) : Int)) ∧ w = w' := by
  go_enter Tryd.func29, Tryd.ntmps29
  rw [fold_len]
  go_wp2_with ((with_reducible show wpList _ _ _ (Oper.mk _ (Op.index _ _ _) _ _ _ _ :: _) _ _); refine wpl_val rfl (run_len_op (i := q) rfl h3) ?_; rw [hB])
  go_ret
  exact ⟨by go_num, rfl⟩
theorem len32_8 {X : Int} {q B : Nat} {w : World} (h1 : X < 65536) (h2 : 256 ≤ X) (e1 : X / 256 = (q : Int)) (h3 : q < 256) (hB : Lib.bitLen q = B) (h4 : B ≤ 8) :
    Calls Tryd.prog 29 #[.int .u32 X] w fun e w' => e = .returned (.int .i64 ((8 + B : Nat) : Int)) ∧ w = w' := by
  go_enter Tryd.func29, Tryd.ntmps29
  rw [fold_len]
  go_wp2_with ((with_reducible show wpList _ _ _ (Oper.mk _ (Op.index _ _ _) _ _ _ _ :: _) _ _); refine wpl_val rfl (run_len_op (i := q) rfl h3) ?_; rw [hB])
  go_ret
  exact ⟨by go_num, rfl⟩
theorem run_len_op' {X : Int} {B : Nat} {a : Act} {dst : Option Tmp} {ty : TypeId} {x : Operand} {pos : String} {af : Array Edge} {gd : Option (Nat × Bool)} {w : World} (hx : a.eval x = .int .u8 X) (h0 : 0 ≤ X) (h1 : X < 256) (hB : Lib.bitLen X.toNat = B) :
    (execOp a.eval { dst := dst, op := .index 9 (.const (.string Lib.len8tab)) x, type := ty, pos := pos, after := af, guard := gd }).run Tryd.prog w = .ok (.value (.int .u8 (B : Int))) w := by
  obtain ⟨i, rfl⟩ := Int.eq_ofNat_of_zero_le h0
  rw [Int.toNat_natCast] at hB
  subst hB
  exact run_len_op hx (by omega)
theorem len32_0 {X : Int} {B : Nat} {w : World} (h0 : 0 ≤ X) (h3 : X < 256) (hB : Lib.bitLen X.toNat = B) (h4 : B ≤ 8) :
    Calls Tryd.prog 29 #[.int .u32 X] w fun e w' => e = .returned (.int .i64 (B : Int)) ∧ w = w' := by
  go_enter Tryd.func29, Tryd.ntmps29
  rw [fold_len]
  go_wp2_with ((with_reducible show wpList _ _ _ (Oper.mk _ (Op.index _ _ _) _ _ _ _ :: _) _ _); refine wpl_val rfl (run_len_op' rfl h0 h3 hB) ?_)
  go_ret
  exact ⟨by go_num, rfl⟩
theorem len32_c {x : Nat} {w : World} (hx : x < 4294967296) : Calls Tryd.prog 29 #[.int .u32 (x : Int)] w fun e w' => e = .returned (.int .i64 ((Lib.bitLen x : Nat) : Int)) ∧ w = w' := by
  by_cases h1 : 65536 ≤ x
  · by_cases h2 : 16777216 ≤ x
    · rw [Lib.bitLen_shift24 x h2 (by omega)]
      exact len32_24 (p := x / 65536) (q := x / 16777216) (by omega) (by omega) (by omega) (by omega) (by omega) rfl (bitLen_small _ (by omega))
    · rw [Lib.bitLen_shift16 x h1 (by omega)]
      exact len32_16 (q := x / 65536) (by omega) (by omega) (by omega) rfl (bitLen_small _ (by omega))
  · by_cases h2 : 256 ≤ x
    · rw [Lib.bitLen_shift8 x h2 (by omega)]
      exact len32_8 (q := x / 256) (by omega) (by omega) (by omega) (by omega) rfl (bitLen_small _ (by omega))
    · exact len32_0 (by omega) (by omega) (by rw [Int.toNat_natCast]) (bitLen_small _ (by omega))
end Go.Proofs.YteokkpmndfekoaaDoor
