/- Wrap: the operations that make a bundle; what it makes. -/
import Derived.Test.YteokkpmndfekoaaBL
import Derived.Test.YteokkpmndfekoaaBF
namespace Go.Proofs.Yteokkpmndfekoaa
open Go Go.RowKit
set_option maxRecDepth 100000

theorem run_build6 {x0 x1 x2 x3 x4 x5 : Operand} {e0 e1 e2 e3 e4 e5 : Int} {a : Act} {dst : Option Tmp} {ty : TypeId} {pos : String} {af : Array Edge} {gd : Option (Nat × Bool)} {w : World}
    (h0 : a.eval x0 = .int .u64 e0) (h1 : a.eval x1 = .int .u64 e1) (h2 : a.eval x2 = .int .u64 e2) (h3 : a.eval x3 = .int .u64 e3) (h4 : a.eval x4 = .int .u64 e4) (h5 : a.eval x5 = .int .u64 e5) :
    (execOp a.eval { dst := dst, op := .build 23 #[(0, x0), (1, x1), (2, x2), (3, x3), (4, x4), (5, x5)], type := ty, pos := pos, after := af, guard := gd }).run Try.prog w = .ok (.value (.agg #[.int .u64 e0, .int .u64 e1, .int .u64 e2, .int .u64 e3, .int .u64 e4, .int .u64 e5])) w := by
  unfold execOp
  simp only [List.map_toArray, List.map_cons, List.map_nil, h0, h1, h2, h3, h4, h5]
  kernel_rfl
theorem run_buildR {x0 x1 x2 x3 x5 : Operand} {f e0 e1 e2 e3 e4 e5 ti sq li : Int} {A : Option Addr} {n c : Nat} {a : Act} {dst : Option Tmp} {ty : TypeId} {pos : String} {af : Array Edge} {gd : Option (Nat × Bool)} {w : World}
    (h0 : a.eval x0 = .int .u64 f) (h1 : a.eval x1 = .agg #[.int .u64 e0, .int .u64 e1, .int .u64 e2, .int .u64 e3, .int .u64 e4, .int .u64 e5]) (h2 : a.eval x2 = .agg #[.int .u64 ti, .int .u64 sq]) (h3 : a.eval x3 = .int .u64 li) (h5 : a.eval x5 = .slice A n c) :
    (execOp a.eval { dst := dst, op := .build 29 #[(0, x0), (1, x1), (2, x2), (3, x3), (5, x5)], type := ty, pos := pos, after := af, guard := gd }).run Try.prog w = .ok (.value (.agg #[.int .u64 f, .int .u64 e0, .int .u64 e1, .int .u64 e2, .int .u64 e3, .int .u64 e4, .int .u64 e5, .int .u64 ti, .int .u64 sq, .int .u64 li, .slice none 0 0, .slice A n c])) w := by
  unfold execOp
  simp only [List.map_toArray, List.map_cons, List.map_nil, h0, h1, h2, h3, h5]
  kernel_rfl
theorem run_buildBd5 {x0 x1 x2 x3 x4 x5 : Operand} {f e0 e1 e2 e3 e4 e5 ti sq li : Int} {a : Act} {dst : Option Tmp} {ty : TypeId} {pos : String} {af : Array Edge} {gd : Option (Nat × Bool)} {w : World}
    (h0 : a.eval x0 = .int .u64 f) (h1 : a.eval x1 = .agg #[.int .u64 e0, .int .u64 e1]) (h2 : a.eval x2 = .agg #[.int .u64 e2, .int .u64 e3]) (h3 : a.eval x3 = .agg #[.int .u64 e4, .int .u64 e5]) (h4 : a.eval x4 = .agg #[.int .u64 ti, .int .u64 sq]) (h5 : a.eval x5 = .int .u64 li) :
    (execOp a.eval { dst := dst, op := .build 34 #[(0, x0), (1, x1), (2, x2), (3, x3), (4, x4), (5, x5)], type := ty, pos := pos, after := af, guard := gd }).run Try.prog w = .ok (.value (.agg #[.int .u64 f, .int .u64 e0, .int .u64 e1, .int .u64 e2, .int .u64 e3, .int .u64 e4, .int .u64 e5, .int .u64 ti, .int .u64 sq, .int .u64 li, .slice none 0 0, .slice none 0 0])) w := by
  unfold execOp
  simp only [List.map_toArray, List.map_cons, List.map_nil, h0, h1, h2, h3, h4, h5]
  kernel_rfl
theorem run_buildBB {x0 x1 x3 : Operand} {t n : Int} {A : Option Addr} {l c : Nat} {a : Act} {dst : Option Tmp} {ty : TypeId} {pos : String} {af : Array Edge} {gd : Option (Nat × Bool)} {w : World}
    (h0 : a.eval x0 = .int .u64 t) (h1 : a.eval x1 = .int .u64 n) (h3 : a.eval x3 = .slice A l c) :
    (execOp a.eval { dst := dst, op := .build 37 #[(0, x0), (1, x1), (3, x3)], type := ty, pos := pos, after := af, guard := gd }).run Try.prog w = .ok (.value (.agg #[.int .u64 t, .int .u64 n, .int .u64 0, .slice A l c])) w := by
  unfold execOp
  simp only [List.map_toArray, List.map_cons, List.map_nil, h0, h1, h3]
  kernel_rfl
theorem run_buildRB {x0 x1 x3 : Operand} {t n : Int} {A : Option Addr} {l c : Nat} {a : Act} {dst : Option Tmp} {ty : TypeId} {pos : String} {af : Array Edge} {gd : Option (Nat × Bool)} {w : World}
    (h0 : a.eval x0 = .int .u64 t) (h1 : a.eval x1 = .int .u64 n) (h3 : a.eval x3 = .slice A l c) :
    (execOp a.eval { dst := dst, op := .build 40 #[(0, x0), (1, x1), (3, x3)], type := ty, pos := pos, after := af, guard := gd }).run Try.prog w = .ok (.value (.agg #[.int .u64 t, .int .u64 n, .int .u64 0, .slice A l c])) w := by
  unfold execOp
  simp only [List.map_toArray, List.map_cons, List.map_nil, h0, h1, h3]
  kernel_rfl
theorem run_twoBlk {x y : Operand} {t n t' n' : Int} {A A' : Option Addr} {l c l' c' : Nat} {a : Act} {dst : Option Tmp} {ty : TypeId} {pos : String} {af : Array Edge} {gd : Option (Nat × Bool)} {w : World}
    (hx : a.eval x = .agg #[.int .u64 t, .int .u64 n, .int .u64 0, .slice A l c]) (hy : a.eval y = .agg #[.int .u64 t', .int .u64 n', .int .u64 0, .slice A' l' c']) :
    (execOp a.eval { dst := dst, op := .buildSlice 32 2 #[(0, x), (1, y)], type := ty, pos := pos, after := af, guard := gd }).run Try.prog w = .ok (.value (.slice (some ⟨w.heap.size, 0, none⟩) 2 2)) (w.alloc (.cells #[.int .u64 t, .int .u64 n, .int .u64 0, .slice A l c, .int .u64 t', .int .u64 n', .int .u64 0, .slice A' l' c'] 37)) := by
  unfold execOp
  simp only [List.map_toArray, List.map_cons, List.map_nil, hx, hy, Sem.run_bind]
  have : (Instr.buildSlice 32 2 #[(0, .agg #[.int .u64 t, .int .u64 n, .int .u64 0, .slice A l c]), (1, .agg #[.int .u64 t', .int .u64 n', .int .u64 0, .slice A' l' c'])]).run Try.prog w = .ok (.slice (some ⟨w.heap.size, 0, none⟩) 2 2) (w.alloc (.cells #[.int .u64 t, .int .u64 n, .int .u64 0, .slice A l c, .int .u64 t', .int .u64 n', .int .u64 0, .slice A' l' c'] 37)) := by
    kernel_rfl
  rw [this]
  simp only [Result.andThen_ok, Sem.run_pure]
theorem run_twoRBlk {x y : Operand} {t n t' n' : Int} {A A' : Option Addr} {l c l' c' : Nat} {a : Act} {dst : Option Tmp} {ty : TypeId} {pos : String} {af : Array Edge} {gd : Option (Nat × Bool)} {w : World}
    (hx : a.eval x = .agg #[.int .u64 t, .int .u64 n, .int .u64 0, .slice A l c]) (hy : a.eval y = .agg #[.int .u64 t', .int .u64 n', .int .u64 0, .slice A' l' c']) :
    (execOp a.eval { dst := dst, op := .buildSlice 26 2 #[(0, x), (1, y)], type := ty, pos := pos, after := af, guard := gd }).run Try.prog w = .ok (.value (.slice (some ⟨w.heap.size, 0, none⟩) 2 2)) (w.alloc (.cells #[.int .u64 t, .int .u64 n, .int .u64 0, .slice A l c, .int .u64 t', .int .u64 n', .int .u64 0, .slice A' l' c'] 40)) := by
  unfold execOp
  simp only [List.map_toArray, List.map_cons, List.map_nil, hx, hy, Sem.run_bind]
  have : (Instr.buildSlice 26 2 #[(0, .agg #[.int .u64 t, .int .u64 n, .int .u64 0, .slice A l c]), (1, .agg #[.int .u64 t', .int .u64 n', .int .u64 0, .slice A' l' c'])]).run Try.prog w = .ok (.slice (some ⟨w.heap.size, 0, none⟩) 2 2) (w.alloc (.cells #[.int .u64 t, .int .u64 n, .int .u64 0, .slice A l c, .int .u64 t', .int .u64 n', .int .u64 0, .slice A' l' c'] 40)) := by
    kernel_rfl
  rw [this]
  simp only [Result.andThen_ok, Sem.run_pure]
theorem run_two8 {x y : Operand} {p q : Int} {a : Act} {dst : Option Tmp} {ty : TypeId} {pos : String} {af : Array Edge} {gd : Option (Nat × Bool)} {w : World} (hx : a.eval x = .int .u8 p) (hy : a.eval y = .int .u8 q) :
    (execOp a.eval { dst := dst, op := .buildSlice 27 2 #[(0, x), (1, y)], type := ty, pos := pos, after := af, guard := gd }).run Try.prog w = .ok (.value (.slice (some ⟨w.heap.size, 0, none⟩) 2 2)) (w.alloc (.cells #[.int .u8 p, .int .u8 q] 5)) := by
  unfold execOp
  simp only [List.map_toArray, List.map_cons, List.map_nil, hx, hy, Sem.run_bind]
  have : (Instr.buildSlice 27 2 #[(0, .int .u8 p), (1, .int .u8 q)]).run Try.prog w = .ok (.slice (some ⟨w.heap.size, 0, none⟩) 2 2) (w.alloc (.cells #[.int .u8 p, .int .u8 q] 5)) := by
    kernel_rfl
  rw [this]
  simp only [Result.andThen_ok, Sem.run_pure]
theorem run_one8 {x : Operand} {p : Int} {a : Act} {dst : Option Tmp} {ty : TypeId} {pos : String} {af : Array Edge} {gd : Option (Nat × Bool)} {w : World} (hx : a.eval x = .int .u8 p) :
    (execOp a.eval { dst := dst, op := .buildSlice 27 1 #[(0, x)], type := ty, pos := pos, after := af, guard := gd }).run Try.prog w = .ok (.value (.slice (some ⟨w.heap.size, 0, none⟩) 1 1)) (w.alloc (.cells #[.int .u8 p] 5)) := by
  unfold execOp
  simp only [List.map_toArray, List.map_cons, List.map_nil, hx, Sem.run_bind]
  have : (Instr.buildSlice 27 1 #[(0, .int .u8 p)]).run Try.prog w = .ok (.slice (some ⟨w.heap.size, 0, none⟩) 1 1) (w.alloc (.cells #[.int .u8 p] 5)) := by
    kernel_rfl
  rw [this]
  simp only [Result.andThen_ok, Sem.run_pure]
/-! ### what Wrap makes -/
def wrapF (s : Int) (ti sq li fr to : Nat) (xs : List UInt8) : Int := if fitsW s ti sq li = true ∧ fr ≤ maxN ∧ to ≤ maxN then (if 512 < xs.length then 81 else 0) else 1
def noBdl : Bdl := ⟨0, 0, 0, 0, 0, 0, 0, 0, 0, 0, [], []⟩
def wrapD (s : Int) (ti sq li fr to : Nat) (xs : List UInt8) (nw : Bool) : Bdl := ⟨if nw then 7 else 5, to, s.toNat, fr, s.toNat, fr, 0, ti, sq, li, [⟨10, 2, 0, [8, 0]⟩, ⟨7, 3, 0, [0]⟩], xs⟩
def wrapB (s : Int) (ti sq li fr to : Nat) (xs : List UInt8) (nw : Bool) : Bdl := if wrapF s ti sq li fr to xs = 0 then wrapD s ti sq li fr to xs nw else noBdl
def WrapP (s : Int) (ti sq li fr to : Nat) (xs : List UInt8) (nw : Bool) (w : World) (e : Ending) (w' : World) : Prop :=
  ∃ bv pv, e = .returned (.tuple #[bdV (wrapB s ti sq li fr to xs nw) bv pv, .int .i64 (wrapF s ti sq li fr to xs)]) ∧ RdBd w' bv pv (wrapB s ti sq li fr to xs nw) ∧ KpN w w'
theorem RdBd.ofNone (w : World) : RdBd w (.slice none 0 0) (.slice none 0 0) noBdl :=
  ⟨by simp [BdOk, noBdl, U64], ⟨none, 0, rfl, Nat.le_refl _, fun j hj => absurd hj (by simp [noBdl])⟩, RdB.nil w⟩
theorem wrap_fails {s : Int} {ti sq li fr to : Nat} {xs : List UInt8} {nw : Bool} {w w' : World} {z : Int} (h : wrapF s ti sq li fr to xs = z) (hz : z ≠ 0) (k : KpN w w') :
    WrapP s ti sq li fr to xs nw w (.returned (.tuple #[.agg #[.int .u64 0, .int .u64 0, .int .u64 0, .int .u64 0, .int .u64 0, .int .u64 0, .int .u64 0, .int .u64 0, .int .u64 0, .int .u64 0, .slice none 0 0, .slice none 0 0], .int .i64 z])) w' := by
  have hb : wrapB s ti sq li fr to xs nw = noBdl := by unfold wrapB; rw [h, if_neg hz]
  unfold WrapP
  rw [hb, h]
  exact ⟨_, _, rfl, RdBd.ofNone w', k⟩
theorem CellsAt.set {w : World} {g : Nat} {cs : List Value} (h : CellsAt w g cs) (i : Nat) (u : Value) (hi : i < cs.length) : CellsAt (w.setCell ⟨g, i, none⟩ u) g (cs.set i u) := by
  have h1 := h.1.setOne i u hi
  rw [Nat.zero_add] at h1
  exact ⟨h1, fun j => by rw [World.frozen?_setCell]; exact h.2 j⟩
theorem two_bl {W : World} {g t n t' n' : Nat} {u u' : Value} {xs ys : List UInt8} (hc : CellsAt W g [n64 t, n64 n, n64 0, u, n64 t', n64 n', n64 0, u']) (hu : RdB W u xs) (hu' : RdB W u' ys) (h1 : U64 t) (h2 : U64 n) (h3 : U64 t') (h4 : U64 n') :
    SlAt W 4 BlkAt (.slice (some ⟨g, 0, none⟩) 2 2) [⟨t, n, 0, xs⟩, ⟨t', n', 0, ys⟩] := by
  refine ⟨some ⟨g, 0, none⟩, 2, rfl, by simp, fun j hj => ?_⟩
  have h0 : U64 0 := by unfold U64; omega
  have hat : ∀ i (v : Value), [n64 t, n64 n, n64 0, u, n64 t', n64 n', n64 0, u'][i]? = some v → W.cell? ⟨g, i, none⟩ = some v := fun i v hi => hc.at_ i hi
  rcases j with _ | _ | j
  · refine ⟨⟨g, 0, none⟩, [n64 t, n64 n, n64 0, u], rfl, rfl, fun i v hi => ?_, ⟨⟨u, rfl, hu⟩, h1, h2, h0⟩⟩
    rw [add_plain', Addr.add_mid]
    match i, hi with
    | 0, hi | 1, hi | 2, hi | 3, hi => exact hat _ v hi
  · refine ⟨⟨g, 0, none⟩, [n64 t', n64 n', n64 0, u'], rfl, rfl, fun i v hi => ?_, ⟨⟨u', rfl, hu'⟩, h3, h4, h0⟩⟩
    rw [add_plain', Addr.add_mid]
    match i, hi with
    | 0, hi | 1, hi | 2, hi | 3, hi => exact hat _ v hi
  · simp at hj
    omega
end Go.Proofs.Yteokkpmndfekoaa
