/- Boxes of bundles. -/
import Derived.Test.YteokkpmndfekoaaBZ
namespace Go.Proofs.Yteokkpmndfekoaa
open Go Go.RowKit Go.ChangeShapes Go.WideShapes Go.ChangeAt
set_option maxRecDepth 100000

theorem rbd_load (w : World) (g : Nat) {b : Bdl} {bv pv : Value} (h : CellsAt w g [n64 b.fl, n64 b.e0, n64 b.e1, n64 b.e2, n64 b.e3, n64 b.e4, n64 b.e5, n64 b.ti, n64 b.sq, n64 b.li, bv, pv]) :
    (Instr.loadAt 29 (.pointer (some ⟨g, 0, none⟩))).run Try.prog w = .ok (bdV b bv pv) w :=
  run_loadAt_rowat (P := Try.prog) h.1 Try.underlying29 rfl (by kernel_rfl)
theorem wpl_vg {P : Program} {o : Oper} {ops : Array Oper} {rest : List Oper} {a : Act} {w w' : World} {v : Value} {Q : Exit → Act → World → Prop} (hg : Region.wanted o (yielded ops a.tmps) = true) (h : (execOp a.eval o).run P w = .ok (.value v) w') (hk : wpList P ops Q rest (a.put o.dst v) w') : wpList P ops Q (o :: rest) a w :=
  wpList_step fun K hK => by rw [if_pos hg]; exact wp_val h (hK _ _ hk)
abbrev bdC (b : Bdl) (bv pv : Value) : List Value := [n64 b.fl, n64 b.e0, n64 b.e1, n64 b.e2, n64 b.e3, n64 b.e4, n64 b.e5, n64 b.ti, n64 b.sq, n64 b.li, bv, pv]
abbrev zeros12 : Array Value := #[.int .u64 0, .int .u64 0, .int .u64 0, .int .u64 0, .int .u64 0, .int .u64 0, .int .u64 0, .int .u64 0, .int .u64 0, .int .u64 0, .slice none 0 0, .slice none 0 0]
theorem rbundle_box (W : World) (b : Bdl) (bv pv : Value) : ∃ W1, W.alloc (.cells #[n64 b.fl, n64 b.e0, n64 b.e1, n64 b.e2, n64 b.e3, n64 b.e4, n64 b.e5, n64 b.ti, n64 b.sq, n64 b.li, bv, pv] 29) = W1 ∧ CellsAt W1 W.heap.size (bdC b bv pv) ∧ KpN W W1 ∧ W1.heap.size = W.heap.size + 1 :=
  ⟨_, rfl, CellsAt.new W (bdC b bv pv) 29, (Kp.refl _ W).alloc _, by simp⟩
theorem bundle_put (W : World) (b : Bdl) (A A' : Option Addr) (n c n' c' : Nat) : ∃ W', (Instr.storeAt 34 (.pointer (some ⟨W.heap.size, 0, none⟩)) (bdV b (.slice A n c) (.slice A' n' c'))).run Try.prog (W.alloc (.cells zeros12 34)) = .ok () W' ∧
    CellsAt W' W.heap.size (bdC b (.slice A n c) (.slice A' n' c')) ∧ KpN W W' ∧ W'.heap.size = W.heap.size + 1 := by
  obtain ⟨W', h1, h2, h3, h4⟩ := box_store (CellsAt.new W zeros12.toList 34) 34 #[n64 b.fl, n64 b.e0, n64 b.e1, n64 b.e2, n64 b.e3, n64 b.e4, n64 b.e5, n64 b.ti, n64 b.sq, n64 b.li, .slice A n c, .slice A' n' c'] rfl (by kernel_rfl) (by kernel_rfl)
  have hz : (W.alloc (.cells zeros12 34)).heap.size = W.heap.size + 1 := by simp
  exact ⟨W', h1, h2, ((Kp.refl (fun _ => False) W).alloc _).fresh h3 (fun i e => by omega), by rw [h4, hz]⟩
theorem rbd_loadN {W W' : World} {g : Nat} {b : Bdl} {bv pv : Value} (h : CellsAt W g (bdC b bv pv)) (hl : g < W.heap.size) (k : KpN W W') : (Instr.loadAt 29 (.pointer (some ⟨g, 0, none⟩))).run Try.prog W' = .ok (bdV b bv pv) W' := rbd_load W' g (h.keep hl k (fun x => x))
theorem bd_loadN {W W' : World} {g : Nat} {b : Bdl} {bv pv : Value} (h : CellsAt W g (bdC b bv pv)) (hl : g < W.heap.size) (k : KpN W W') : (Instr.loadAt 34 (.pointer (some ⟨g, 0, none⟩))).run Try.prog W' = .ok (bdV b bv pv) W' := bd_load W' g (h.keep hl k (fun x => x))
theorem rbundle_put (W : World) (b : Bdl) (A A' : Option Addr) (n c n' c' : Nat) : ∃ W', (Instr.storeAt 29 (.pointer (some ⟨W.heap.size, 0, none⟩)) (bdV b (.slice A n c) (.slice A' n' c'))).run Try.prog (W.alloc (.cells zeros12 29)) = .ok () W' ∧
    CellsAt W' W.heap.size (bdC b (.slice A n c) (.slice A' n' c')) ∧ KpN W W' ∧ W'.heap.size = W.heap.size + 1 := by
  obtain ⟨W', h1, h2, h3, h4⟩ := box_store (CellsAt.new W zeros12.toList 29) 29 #[n64 b.fl, n64 b.e0, n64 b.e1, n64 b.e2, n64 b.e3, n64 b.e4, n64 b.e5, n64 b.ti, n64 b.sq, n64 b.li, .slice A n c, .slice A' n' c'] rfl (by kernel_rfl) (by kernel_rfl)
  have hz : (W.alloc (.cells zeros12 29)).heap.size = W.heap.size + 1 := by simp
  exact ⟨W', h1, h2, ((Kp.refl (fun _ => False) W).alloc _).fresh h3 (fun i e => by omega), by rw [h4, hz]⟩
end Go.Proofs.Yteokkpmndfekoaa
