/- Arrays of integers compared. No program stands in it. -/
import Derived.Test.YteokkpmndfekoaaR
import Derived.Laws.StructEq
import Derived.ChangeKeysEq
namespace Go.Proofs.Yteokkpmndfekoaa
open Go Go.RowKit
set_option maxRecDepth 100000

theorem run_equalIn_ints {P : Program} (w : World) (d : Nat) {t e : TypeId} {n : Nat} {k : IntKind} (xs ys : List Int) (ht : P.underlying t = some (.array n e)) (he : P.underlying e = some (.int k)) (hi : (P.info? e).map (·.size) = some 1) (hx : xs.length = n) (hy : ys.length = n) :
    (Op.equalIn (d + 2) t (.agg (xs.map (Value.int k)).toArray) (.agg (ys.map (Value.int k)).toArray)).run P w = .ok (decide (xs = ys)) w := by
  have hpk : P.plainKey e = true := by simp [Program.plainKey, he]
  have hs : (sizeOf e).run P w = .ok 1 w := by
    cases hq : P.info? e with
    | none => simp [hq] at hi
    | some i => simp [hq] at hi; simp [sizeOf, typeInfo, hq, hi]
  rw [show d + 2 = (d + 1) + 1 from rfl, Op.equalIn]
  simp only [Sem.run_bind, run_underlying ht, Result.andThen_ok, hs, Std.Legacy.Range.forIn_eq_forIn_range', Std.Legacy.Range.size, Nat.sub_zero, Nat.add_sub_cancel, Nat.div_one, Nat.mul_one]
  have key : ∀ (m i : Nat), i + m = n → 
      ((forIn (List.range' i m) (none, PUnit.unit) (fun i (_ : Option Bool × PUnit) => do
        let a ← part e (xs.map (Value.int k)).toArray i
        let b ← part e (ys.map (Value.int k)).toArray i
        let q ← Op.equalIn (d + 1) e a b
        if (!q) = true then pure (ForInStep.done (some false, PUnit.unit)) else
          pure (ForInStep.yield (none, PUnit.unit))) : Sem (Option Bool × PUnit)).run P w) = .ok (if xs.drop i = ys.drop i then none else some false, PUnit.unit) w := by
    intro m
    induction m with
    | zero =>
      intro i hin
      have h1 : xs.drop i = [] := List.drop_eq_nil_of_le (by omega)
      have h2 : ys.drop i = [] := List.drop_eq_nil_of_le (by omega)
      simp [h1, h2]
    | succ m ih =>
      intro i hin
      have hxi : i < xs.length := by omega
      have hyi : i < ys.length := by omega
      have p1 : (part e (xs.map (Value.int k)).toArray i).run P w = .ok (.int k xs[i]) w := run_part_plain w hpk (by simp [hxi])
      have p2 : (part e (ys.map (Value.int k)).toArray i).run P w = .ok (.int k ys[i]) w := run_part_plain w hpk (by simp [hyi])
      have p3 := run_equalIn_int (P := P) w d e k k xs[i] ys[i] he
      rw [List.range'_succ, List.forIn_cons]
      simp only [Sem.run_bind, p1, p2, p3, Result.andThen_ok, Sem.run_ite, Sem.run_pure]
      have e1 : (xs.drop i = ys.drop i) ↔ (xs[i] = ys[i] ∧ xs.drop (i + 1) = ys.drop (i + 1)) := by
        rw [List.drop_eq_getElem_cons hxi, List.drop_eq_getElem_cons hyi]
        exact List.cons_eq_cons
      by_cases hq : xs[i] = ys[i]
      · simp only [hq, beq_self_eq_true, Bool.not_true, Bool.false_eq_true, if_false, Result.andThen_ok]
        rw [ih (i + 1) (by omega)]
        simp only [e1, hq, true_and]
      · have : (xs[i] == ys[i]) = false := by simpa using hq
        simp [this, e1, hq]
  have h0 := key n 0 (by omega)
  simp only [List.drop_zero] at h0
  rw [h0]
  by_cases hq : xs = ys
  · simp [hq]
  · simp [hq]
theorem run_eql_ints {P : Program} (w : World) {t e : TypeId} {n : Nat} {k : IntKind} (xs ys : List Int) (ht : P.underlying t = some (.array n e)) (he : P.underlying e = some (.int k)) (hi : (P.info? e).map (·.size) = some 1) (hx : xs.length = n) (hy : ys.length = n) :
    (binOp .eql t (.agg (xs.map (Value.int k)).toArray) (.agg (ys.map (Value.int k)).toArray)).run P w = .ok (.bool (decide (xs = ys))) w := by
  rw [run_eql_struct, show (10000 : Nat) = 9998 + 2 from rfl, run_equalIn_ints w 9998 xs ys ht he hi hx hy]
  rfl
theorem run_neq_ints {P : Program} (w : World) {t e : TypeId} {n : Nat} {k : IntKind} (xs ys : List Int) (ht : P.underlying t = some (.array n e)) (he : P.underlying e = some (.int k)) (hi : (P.info? e).map (·.size) = some 1) (hx : xs.length = n) (hy : ys.length = n) :
    (binOp .neq t (.agg (xs.map (Value.int k)).toArray) (.agg (ys.map (Value.int k)).toArray)).run P w = .ok (.bool (!decide (xs = ys))) w := by
  rw [run_neq_struct, show (10000 : Nat) = 9998 + 2 from rfl, run_equalIn_ints w 9998 xs ys ht he hi hx hy]
  rfl
theorem bvs_ints (xs : List UInt8) : bvs xs = (xs.map fun b => (b.toNat : Int)).map (Value.int .u8) := by simp [bvs, bv]
theorem ints_inj {xs ys : List UInt8} : (xs.map fun b => (b.toNat : Int)) = (ys.map fun b => (b.toNat : Int)) ↔ xs = ys := by
  constructor
  · intro h
    refine List.map_inj_right (fun a b hab => ?_) |>.1 h
    exact UInt8.toNat_inj.1 (Int.ofNat_inj.1 hab)
  · rintro rfl; rfl
/-- arrays of bytes -/
theorem run_eql_bytes {P : Program} (w : World) {t e : TypeId} {n : Nat} (xs ys : List UInt8) (ht : P.underlying t = some (.array n e)) (he : P.underlying e = some (.int .u8)) (hi : (P.info? e).map (·.size) = some 1) (hx : xs.length = n) (hy : ys.length = n) :
    (binOp .eql t (.agg (bvs xs).toArray) (.agg (bvs ys).toArray)).run P w = .ok (.bool (decide (xs = ys))) w := by
  rw [bvs_ints, bvs_ints, run_eql_ints w _ _ ht he hi (by simpa using hx) (by simpa using hy)]
  congr 2
  simp only [ints_inj]
theorem run_bin_op {P : Program} {a : Act} {dst : Option Tmp} {op : BinOp} {t ty yt : TypeId} {x y : Operand} {pos : String} {af : Array Edge} {gd : Option (Nat × Bool)} {W : World} {xs ys : Array Value} {r : Value} (h : (binOp op t (.agg xs) (.agg ys)).run P W = .ok r W) (hm : P.eqGuardType P.depth t = false) (hx : a.eval x = .agg xs) (hy : a.eval y = .agg ys) :
    (execOp a.eval { dst := dst, op := .binOp op t x y yt, type := ty, pos := pos, after := af, guard := gd }).run P W = .ok (.value r) W := by
  unfold execOp
  simp only [Sem.run_bind, hx, hy, run_eqGuard_agg (P := P) W op t x y xs ys hm, h, Result.andThen_ok, Sem.run_pure]
end Go.Proofs.Yteokkpmndfekoaa
