/- Arguments that are lists of structs, to cells. -/
import Derived.Test.YtjhndppmpldfbaaU
import Derived.Deep.Slices
import Derived.Test.YtjhndppmpldfbaaR
namespace Go.Proofs.Ytjhndppmpldfbaa
open Go Go.RowKit Go.ChangeShapes Go.WideShapes Go.ChangeAt Go.Deep
section
variable {H : Type} {enc : TypeId × Value → H} {W : World}
theorem bulk_mem {d : DataW H} {l : List (DataW H)} {r : List (DataW H)} (h : d ∈ l) : Rows.uptoBulk d ≤ Rows.uptoBulk (.slice l r) := by
  have := Bulk.part_le h
  simp only [Rows.uptoBulk]
  omega
/-- a list opened: each element's cells, and how they read -/
theorem open_rows {t e : TypeId} {k : Nat} (ht : Try.prog.underlying t = some (.slice e)) (hk : Try.prog.cellsOf e = k) {base : Nat} {sp : Nat → Bool} {held : Bool} {a : Option Addr} {len cap : Nat} {d : DataW H} {p : List MemPlace} (h0 : DataW.Trod enc Try.prog W base sp held t (.slice a len cap) d p) :
    ∃ (n : Nat) (D : Nat → DataW H) (Pl : Nat → List MemPlace), len ≤ cap ∧ len ≤ Rows.uptoBulk d ∧ (∀ i, i < len → Rows.uptoBulk (D i) ≤ Rows.uptoBulk d) ∧
      ∀ i, i < len → ∃ ad cs', a = some ad ∧ cs'.length = k ∧ (∀ j, j < k → W.cell? (ad.add (i * k + j)) = cs'[j]?) ∧ DataW.trod enc Try.prog W base sp held n e cs' = some (D i, Pl i) := by
  obtain ⟨fuel, hf⟩ := h0
  rcases open_slice ht hf with ⟨hcs, hx⟩ | ⟨x, l, c, m, n, D, Pl, hcs, hb, hl, hm, hmm, hx, hi⟩
  · simp [Value.cells] at hcs
    obtain ⟨rfl, rfl, rfl⟩ := hcs
    exact ⟨0, fun _ => .nil, fun _ => [], by omega, by omega, fun i h => by omega, fun i h => by omega⟩
  · simp [Value.cells] at hcs
    obtain ⟨rfl, rfl, rfl⟩ := hcs
    have hlm : len ≤ m := by rw [hmm]; split <;> omega
    obtain ⟨rfl, -⟩ := Prod.mk.inj hx
    refine ⟨n, D, Pl, hl, ?_, fun i h => ?_, fun i h => ?_⟩
    · have := Bulk.slice_le ((List.range len).map D) ((List.range (m - len)).map fun j => D (len + j))
      simp at this
      omega
    · exact bulk_mem (List.mem_map.2 ⟨i, List.mem_range.2 h, rfl⟩)
    · obtain ⟨cs', hc, htr⟩ := hi i (by omega)
      rw [hk] at hc
      obtain ⟨_, hcl, hat⟩ := World.cells?_some hc
      refine ⟨x, cs', rfl, hcl, fun j hj => ?_, htr⟩
      rw [← hat j hj, add_add]
/-- the calls of a script: their cells -/
def RdOps (w : World) (v : Value) (ops : List (Int × Nat × Int)) : Prop := ∃ A c, v = .slice A ops.length c ∧ ops.length ≤ c ∧ ∀ j (h : j < ops.length), ∃ ad, A = some ad ∧
  w.cell? (ad.add (j * 3 + 0)) = some (.int .i64 ops[j].1) ∧ w.cell? (ad.add (j * 3 + 1)) = some (.int .u64 (ops[j].2.1 : Int)) ∧ w.cell? (ad.add (j * 3 + 2)) = some (.int .i64 ops[j].2.2) ∧
  (-9223372036854775808 ≤ ops[j].1 ∧ ops[j].1 < 9223372036854775808) ∧ ops[j].2.1 < 18446744073709551616 ∧ (-9223372036854775808 ≤ ops[j].2.2 ∧ ops[j].2.2 < 9223372036854775808)
theorem RdOps.keepN {w w' : World} {v : Value} {ops : List (Int × Nat × Int)} (h : RdOps w v ops) (k : KpN w w') : RdOps w' v ops := by
  obtain ⟨A, c, rfl, hc, hr⟩ := h
  refine ⟨A, c, rfl, hc, fun j hj => ?_⟩
  obtain ⟨ad, rfl, c0, c1, c2, hb⟩ := hr j hj
  have kc : ∀ i u, w.cell? (ad.add i) = some u → w'.cell? (ad.add i) = some u := fun i u hu => by
    rw [k.cell (World.block_lt_of_cell? w _ hu) (fun x => x)]; exact hu
  exact ⟨ad, rfl, kc _ _ c0, kc _ _ c1, kc _ _ c2, hb⟩
/-- one call of it: its row of cells -/
theorem RdOps.row {w : World} {A : Option Addr} {n c : Nat} {ops : List (Int × Nat × Int)} (h : RdOps w (.slice A n c) ops) (j : Nat) (hj : j < ops.length) : ∃ ad kd nn ii, A = some ad ∧ ops[j] = (kd, nn, ii) ∧
    RowAt w (ad.add (j * 3)) [.int .i64 kd, .int .u64 (nn : Int), .int .i64 ii] ∧ (-9223372036854775808 ≤ kd ∧ kd < 9223372036854775808) ∧ nn < 18446744073709551616 ∧ (-9223372036854775808 ≤ ii ∧ ii < 9223372036854775808) := by
  obtain ⟨A', c', hv, -, hr⟩ := h
  injection hv with h1 h2 h3
  subst h1
  obtain ⟨ad, rfl, c0, c1, c2, b0, b1, b2⟩ := hr j hj
  obtain ⟨⟨kd, nn, ii⟩, ho⟩ : ∃ o, ops[j] = o := ⟨_, rfl⟩
  rw [ho] at c0 c1 c2 b0 b1 b2
  refine ⟨ad, kd, nn, ii, rfl, ho, fun i v hi => ?_, b0, b1, b2⟩
  rw [Go.Proofs.Ytjhndppmpldfbaa.add_add]
  match i, hi with
  | 0, hi => simp at hi; subst hi; exact c0
  | 1, hi => simp at hi; subst hi; exact c1
  | 2, hi => simp at hi; subst hi; exact c2
theorem op_cells {base n : Nat} {sp : Nat → Bool} {held : Bool} {cs : List Value} {x : DataW H × List MemPlace} (h : DataW.trod enc Try.prog W base sp held n 37 cs = some x) (hl : cs.length = 3) :
    ∃ (k : Int) (m : Nat) (i : Int), cs = [.int .i64 k, .int .u64 (m : Int), .int .i64 i] ∧ (-9223372036854775808 ≤ k ∧ k < 9223372036854775808) ∧ m < 18446744073709551616 ∧ (-9223372036854775808 ≤ i ∧ i < 9223372036854775808) := by
  obtain ⟨ys, n', -, -, -, hyl, hf⟩ := DataW.trod_struct Try.underlying37 h
  have e1 : Try.prog.cellsOf 3 = 1 := by kernel_rfl
  have e2 : Try.prog.cellsOf 23 = 1 := by kernel_rfl
  match cs, hl, ys, hyl with
  | [c0, c1, c2], _, [y0, y1, y2], _ =>
    have h0 := hf 0 _ rfl
    have h1 := hf 1 _ rfl
    have h2 := hf 2 _ rfl
    simp [e1, e2] at h0 h1 h2
    obtain ⟨k, hk, -, wk⟩ := DataW.trod_int Try.underlying3 h0
    obtain ⟨m, hm, -, wm⟩ := DataW.trod_int Try.underlying23 h1
    obtain ⟨i, hi, -, wi⟩ := DataW.trod_int Try.underlying3 h2
    simp at hk hm hi
    subst hk hm hi
    obtain ⟨m', rfl⟩ := Int.eq_ofNat_of_zero_le (u64_wf wm).1
    exact ⟨k, m', i, rfl, i64_wf wk, by have := (u64_wf wm).2; omega, i64_wf wi⟩
/-- an argument that is a script -/
theorem open_ops {base : Nat} {sp : Nat → Bool} {held : Bool} {a : Option Addr} {len cap : Nat} {d : DataW H} {p : List MemPlace} (h0 : DataW.Trod enc Try.prog W base sp held 30 (.slice a len cap) d p) :
    ∃ ops : List (Int × Nat × Int), RdOps W (.slice a len cap) ops ∧ ops.length ≤ Rows.uptoBulk d := by
  obtain ⟨n, D, Pl, hl, hb, -, hi⟩ := open_rows (k := 3) Try.underlying30 (by kernel_rfl) h0
  have key : ∀ i, i < len → ∃ o : Int × Nat × Int, ∃ ad, a = some ad ∧
      W.cell? (ad.add (i * 3 + 0)) = some (.int .i64 o.1) ∧ W.cell? (ad.add (i * 3 + 1)) = some (.int .u64 (o.2.1 : Int)) ∧ W.cell? (ad.add (i * 3 + 2)) = some (.int .i64 o.2.2) ∧
      (-9223372036854775808 ≤ o.1 ∧ o.1 < 9223372036854775808) ∧ o.2.1 < 18446744073709551616 ∧ (-9223372036854775808 ≤ o.2.2 ∧ o.2.2 < 9223372036854775808) := fun i hil => by
    obtain ⟨ad, cs, ha, hcl, hat, htr⟩ := hi i hil
    obtain ⟨k, m, z, rfl, b1, b2, b3⟩ := op_cells htr hcl
    exact ⟨(k, m, z), ad, ha, hat 0 (by omega), hat 1 (by omega), hat 2 (by omega), b1, b2, b3⟩
  refine ⟨(List.range len).map fun i => if h : i < len then (key i h).choose else (0, 0, 0), ⟨a, cap, by simp, by simp; exact hl, fun j hj => ?_⟩, by simp; exact hb⟩
  have hjl : j < len := by simpa using hj
  have := (key j hjl).choose_spec
  simpa [hjl] using this
end
end Go.Proofs.Ytjhndppmpldfbaa
