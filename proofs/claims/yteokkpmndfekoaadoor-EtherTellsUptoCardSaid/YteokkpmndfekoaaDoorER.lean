/- EtherOwn: words. -/
import Derived.Test.YteokkpmndfekoaaDoorEPL
import Derived.Test.YteokkpmndfekoaaDoorGRW
namespace Go.Proofs.YteokkpmndfekoaaDoor
open Go Go.RowKit
set_option maxRecDepth 100000

theorem rowinfo : (Tryd.prog.info? 26).map (fun i => (i.zero, i.size, i.bytes)) = some (some (.slice none 0 0), 1, 24) := by kernel_rfl
/-- one way, in new memory of its own -/
structure OneW (w0 w : World) (F : Nat → Prop) (g n : Nat) (st : List (List UInt8 × Bool)) : Prop where
  p : WayX true PT w F g n st
  kp : KpN w0 w
  fl : ∀ x, F x → w0.heap.size ≤ x ∧ x < w.heap.size
section
variable {w0 w w' : World} {F : Nat → Prop} {g n : Nat} {st : List (List UInt8 × Bool)}
theorem OneW.keep (h : OneW w0 w F g n st) {S : Nat → Prop} (kp : Kp S w w') (h1 : ∀ x, F x → ¬ S x) (h3 : ∀ x, S x → w0.heap.size ≤ x) : OneW w0 w' F g n st :=
  ⟨h.p.keep kp h1, h.kp.fresh kp h3, fun x hx => ⟨(h.fl x hx).1, Nat.lt_of_lt_of_le (h.fl x hx).2 kp.size⟩⟩
theorem OneW.keepN (h : OneW w0 w F g n st) (kp : KpN w w') : OneW w0 w' F g n st := h.keep kp (fun _ _ x => x) (fun _ x => x.elim)
theorem OneW.next (h : OneW w0 w F g n st) {F' : Nat → Prop} {st' : List (List UInt8 × Bool)} (hx : WayX true PT w' F' g n st') (hg : Gr w w' F F') (kp : Kp F w w') : OneW w0 w' F' g n st' := by
  have hz := kp.size
  have hz0 := h.kp.size
  refine ⟨hx, h.kp.fresh kp (fun x hx => (h.fl x hx).1), fun x hx => ?_⟩
  rcases hg x hx with hh | hh
  · have := h.fl x hh; exact ⟨this.1, by omega⟩
  · exact ⟨by have := hh.1; omega, hh.2⟩
end
/-- the four datagrams; what is asked of them, in its order -/
def st4 (xs ys : List UInt8) : List (List UInt8 × Bool) := [(xs, false), (ys, false), (xs, false), (xs, false)]
def wantL (xs ys : List UInt8) : List (List UInt8) := [xs, ys, xs, xs, xs, ys, xs, xs, xs]
theorem st4_at (xs ys : List UInt8) : ∀ q, q < 8 → (st4 xs ys).getD (q % 4) ([], false) = ((wantL xs ys).getD q [], false) := by
  intro q hq
  match q, hq with
  | 0, _ => rfl
  | 1, _ => rfl
  | 2, _ => rfl
  | 3, _ => rfl
  | 4, _ => rfl
  | 5, _ => rfl
  | 6, _ => rfl
  | 7, _ => rfl
theorem put0 (xs : List UInt8) (h : xs.length ≤ 2048) : putS 6 [] xs = (0, [(xs, false)]) := by
  unfold putS
  rw [if_neg (by omega), if_neg (by simp)]
  rfl
theorem put1 (xs ys : List UInt8) (h : ys.length ≤ 2048) : putS 6 [(xs, false)] ys = (0, [(xs, false), (ys, false)]) := by
  unfold putS
  rw [if_neg (by omega), if_neg (by simp)]
  rfl
theorem double0 (xs ys : List UInt8) : doubleS 6 [(xs, false), (ys, false)] 0 = (0, [(xs, false), (ys, false), (xs, false)]) := rfl
theorem double1 (xs ys : List UInt8) : doubleS 6 [(xs, false), (ys, false), (xs, false)] 0 = (0, st4 xs ys) := rfl
theorem own2_one {w : World} {F2 : Nat → Prop} {T U : Nat} {u : Value} {ys : List UInt8} (h : OwB w U F2 u ys) : Own2 (w.alloc (.cells #[u] T)) T U (fun k => F2 k ∨ Iv w.heap.size (w.heap.size + 1) k) (.slice (some ⟨w.heap.size, 0, none⟩) 1 1) [(u, ys)] :=
  ((OwL.nil w U).snoc h (fun _ x => x.elim)).lit (T := T) (by simp) #[u] rfl 1 rfl |>.wide (fun k _ hk => by
    rcases hk with (hk | hk) | hk
    · exact hk.elim
    · exact .inl hk
    · exact .inr hk)
theorem run_own1 (w : World) {A : Option Addr} {n c : Nat} {a : Act} {dst : Option Tmp} {ty : TypeId} {x : Operand} {pos : String} {af : Array Edge} {gd : Option (Nat × Bool)} (hx : a.eval x = .slice A n c) :
    (execOp a.eval { dst := dst, op := .buildSlice 39 1 #[(0, x)], type := ty, pos := pos, after := af, guard := gd }).run Tryd.prog w = .ok (.value (.slice (some ⟨w.heap.size, 0, none⟩) 1 1)) (w.alloc (.cells #[.slice A n c] 26)) := by
  unfold execOp
  simp only [List.map_toArray, List.map_cons, List.map_nil, hx, Sem.run_bind]
  have : (Instr.buildSlice 39 1 #[(0, .slice A n c)]).run Tryd.prog w = .ok (.slice (some ⟨w.heap.size, 0, none⟩) 1 1) (w.alloc (.cells #[.slice A n c] 26)) := by
    kernel_rfl
  rw [this]
  simp only [Result.andThen_ok, Sem.run_pure]
theorem bv_num (n : Nat) (h : n < 256) : bv (UInt8.ofNat n) = .int .u8 (n : Int) := by
  simp [bv, Nat.mod_eq_of_lt h]
theorem repl_set (Y : List UInt8) (c : UInt8) (j : Nat) (h : j < Y.length) : (List.replicate j c ++ Y.drop j).set j c = List.replicate (j + 1) c ++ Y.drop (j + 1) := by
  rw [List.set_append_right _ _ (by simp), List.length_replicate, Nat.sub_self, List.drop_eq_getElem_cons h, List.set_cons_zero, List.replicate_succ', List.append_assoc]
  rfl
theorem inside_one (n : Nat) (h : 0 < n) : insideB n 0 1 = true := by
  rw [inside_iff]
  intro j _ hb
  have := bit_high (x := 1) (b := 1) (by omega) hb
  omega
theorem turn_last (xs ys : List UInt8) (h : 0 < xs.length) : turnS [(xs, false), (ys, false), (xs, false)] 2 0 1 = (0, [(xs, false), (ys, false), (burst xs 0 1, true)]) := by
  have e : atS [(xs, false), (ys, false), (xs, false)] 2 = some (xs, false) := rfl
  unfold turnS
  rw [e]
  dsimp only
  rw [if_neg (by rw [inside_one _ h]; rintro (e | e); cases e; cases e)]
  rfl
end Go.Proofs.YteokkpmndfekoaaDoor
