/- The helpers of the statements on bundles: given. -/
import Derived.Test.YteokkpmndfekoaaBB
import Derived.Test.YteokkpmndfekoaaRT
import Derived.Laws.Rows
import Derived.Laws.ResultCell
namespace Go.Proofs.Yteokkpmndfekoaa
open Go Go.RowKit
set_option maxRecDepth 100000

theorem run_buildE {x y : Operand} {p q : Int} {a : Act} {dst : Option Tmp} {ty : TypeId} {pos : String} {af : Array Edge} {gd : Option (Nat × Bool)} {w : World} (hx : a.eval x = .int .u64 p) (hy : a.eval y = .int .u64 q) :
    (execOp a.eval { dst := dst, op := .build 31 #[(0, x), (1, y)], type := ty, pos := pos, after := af, guard := gd }).run Try.prog w = .ok (.value (.agg #[.int .u64 p, .int .u64 q])) w := by
  unfold execOp
  simp only [List.map_toArray, List.map_cons, List.map_nil, hx, hy]
  kernel_rfl
theorem run_buildBd {x0 x1 x2 x3 x4 x5 x7 : Operand} {f e0 e1 e2 e3 e4 e5 ti sq li : Int} {A : Option Addr} {n c : Nat} {a : Act} {dst : Option Tmp} {ty : TypeId} {pos : String} {af : Array Edge} {gd : Option (Nat × Bool)} {w : World}
    (h0 : a.eval x0 = .int .u64 f) (h1 : a.eval x1 = .agg #[.int .u64 e0, .int .u64 e1]) (h2 : a.eval x2 = .agg #[.int .u64 e2, .int .u64 e3]) (h3 : a.eval x3 = .agg #[.int .u64 e4, .int .u64 e5]) (h4 : a.eval x4 = .agg #[.int .u64 ti, .int .u64 sq]) (h5 : a.eval x5 = .int .u64 li) (h7 : a.eval x7 = .slice A n c) :
    (execOp a.eval { dst := dst, op := .build 34 #[(0, x0), (1, x1), (2, x2), (3, x3), (4, x4), (5, x5), (7, x7)], type := ty, pos := pos, after := af, guard := gd }).run Try.prog w = .ok (.value (.agg #[.int .u64 f, .int .u64 e0, .int .u64 e1, .int .u64 e2, .int .u64 e3, .int .u64 e4, .int .u64 e5, .int .u64 ti, .int .u64 sq, .int .u64 li, .slice none 0 0, .slice A n c])) w := by
  unfold execOp
  simp only [List.map_toArray, List.map_cons, List.map_nil, h0, h1, h2, h3, h4, h5, h7]
  kernel_rfl
theorem run_alloc34 (w : World) {a : Act} {dst : Option Tmp} {ty : TypeId} {pos : String} {af : Array Edge} {gd : Option (Nat × Bool)} :
    (execOp a.eval { dst := dst, op := .alloc 34, type := ty, pos := pos, after := af, guard := gd }).run Try.prog w = .ok (.value (.pointer (some ⟨w.heap.size, 0, none⟩))) (w.alloc (.cells #[.int .u64 0, .int .u64 0, .int .u64 0, .int .u64 0, .int .u64 0, .int .u64 0, .int .u64 0, .int .u64 0, .int .u64 0, .int .u64 0, .slice none 0 0, .slice none 0 0] 34)) := by
  kernel_rfl
theorem results_cell_at {P : Program} {fn : Func} {p : Tmp} {ty : TypeId} (h : fn.results = #[.cell p ty]) (tmps : Array Value) (w : World) {ad : Addr} {cs : List Value} {d : TypeDesc}
    (hp : tmps.getD p undef = .pointer (some ad)) (hrow : RowAt w ad cs) (hu : P.underlying ty = some d) (hd : d.isRow = true) (hi : (P.info? ty).map (·.size) = some cs.length) :
    (results fn tmps).run P w = .ok (.agg cs.toArray) w := by
  have hp' : tmps[p]?.getD undef = .pointer (some ad) := by simpa using hp
  simp [results, h, hp', asAddr, run_loadVar_rowat hrow hu hd hi]
theorem blkInfo : (Try.prog.info? 37).map (fun i => (i.zero, i.size, i.bytes)) = some (some (.agg #[.int .u64 0, .int .u64 0, .int .u64 0, .slice none 0 0]), 4, 48) := by kernel_rfl
theorem run_buildBk {x0 x1 x2 x3 : Operand} {t n f : Int} {A : Option Addr} {l c : Nat} {a : Act} {dst : Option Tmp} {ty : TypeId} {pos : String} {af : Array Edge} {gd : Option (Nat × Bool)} {w : World}
    (h0 : a.eval x0 = .int .u64 t) (h1 : a.eval x1 = .int .u64 n) (h2 : a.eval x2 = .int .u64 f) (h3 : a.eval x3 = .slice A l c) :
    (execOp a.eval { dst := dst, op := .build 37 #[(0, x0), (1, x1), (2, x2), (3, x3)], type := ty, pos := pos, after := af, guard := gd }).run Try.prog w = .ok (.value (.agg #[.int .u64 t, .int .u64 n, .int .u64 f, .slice A l c])) w := by
  unfold execOp
  simp only [List.map_toArray, List.map_cons, List.map_nil, h0, h1, h2, h3]
  kernel_rfl
end Go.Proofs.Yteokkpmndfekoaa
