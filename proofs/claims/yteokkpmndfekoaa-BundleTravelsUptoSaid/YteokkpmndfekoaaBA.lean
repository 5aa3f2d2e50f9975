/- Bundles as data; how they lie in memory. -/
import Derived.Test.YteokkpmndfekoaaRD
import Derived.Test.YteokkpmndfekoaaOW
import Derived.OpenShut
namespace Go.Proofs.Yteokkpmndfekoaa
open Go Go.RowKit Go.ChangeShapes Go.WideShapes Go.ChangeAt
set_option maxRecDepth 100000

theorem SlAt.map {α β : Type} {W : World} {n : Nat} {rd : World → List Value → α → Prop} {rd' : World → List Value → β → Prop} {v : Value} {ys : List α} (f : α → β) (h : SlAt W n rd v ys) (hf : ∀ cs y, rd W cs y → rd' W cs (f y)) : SlAt W n rd' v (ys.map f) := by
  obtain ⟨A, c, h1, h2, h3⟩ := h
  refine ⟨A, c, by simpa using h1, by simpa using h2, fun j hj => ?_⟩
  obtain ⟨ad, cs, ha, hn, hr, hd⟩ := h3 j (by simpa using hj)
  exact ⟨ad, cs, ha, hn, hr, by simpa using hf _ _ hd⟩
/-- an extension block -/
structure Blk where
  ty : Nat
  nu : Nat
  fl : Nat
  da : List UInt8
deriving DecidableEq
/-- a bundle -/
structure Bdl where
  fl : Nat
  e0 : Nat
  e1 : Nat
  e2 : Nat
  e3 : Nat
  e4 : Nat
  e5 : Nat
  ti : Nat
  sq : Nat
  li : Nat
  bl : List Blk
  pl : List UInt8
def U64 (n : Nat) : Prop := n < 18446744073709551616
abbrev n64 (n : Nat) : Value := .int .u64 (n : Int)
def BlkAt (W : World) (cs : List Value) (x : Blk) : Prop := (∃ dv, cs = [n64 x.ty, n64 x.nu, n64 x.fl, dv] ∧ RdB W dv x.da) ∧ U64 x.ty ∧ U64 x.nu ∧ U64 x.fl
theorem BlkAt.keep {w w' : World} {cs : List Value} {x : Blk} (h : BlkAt w cs x) (k : KpN w w') : BlkAt w' cs x := by
  obtain ⟨⟨dv, rfl, h1⟩, h2⟩ := h
  exact ⟨⟨dv, rfl, h1.keepN k⟩, h2⟩
/-- the numbers fit -/
def BdOk (b : Bdl) : Prop := U64 b.fl ∧ U64 b.e0 ∧ U64 b.e1 ∧ U64 b.e2 ∧ U64 b.e3 ∧ U64 b.e4 ∧ U64 b.e5 ∧ U64 b.ti ∧ U64 b.sq ∧ U64 b.li
/-- a bundle's value -/
abbrev bdV (b : Bdl) (bv pv : Value) : Value := .agg #[n64 b.fl, n64 b.e0, n64 b.e1, n64 b.e2, n64 b.e3, n64 b.e4, n64 b.e5, n64 b.ti, n64 b.sq, n64 b.li, bv, pv]
structure RdBd (W : World) (bv pv : Value) (b : Bdl) : Prop where
  ok : BdOk b
  bl : SlAt W 4 BlkAt bv b.bl
  pl : RdB W pv b.pl
theorem RdBd.keepN {w w' : World} {bv pv : Value} {b : Bdl} (h : RdBd w bv pv b) (k : KpN w w') : RdBd w' bv pv b := ⟨h.ok, SlAt.keep h.bl k (fun x y => x.keep y), h.pl.keepN k⟩
/-! ### what the arguments read as -/
def u64Rd : Rd 22 Int := intRd .u64 22 Try.underlying22 (by kernel_rfl)
def dataRd : Rd 27 (List UInt8) := bytesRd 27 Try.underlying27 (by kernel_rfl)
def stampRd : Rd 25 (Int × Int × Unit) := structRd _ Try.underlying25 (consFds u64Rd rfl (consFds u64Rd rfl (nilFds _))) (by kernel_rfl)
def rblkRd : Rd 40 (Int × Int × Int × List UInt8 × Unit) := structRd _ Try.underlying40 (consFds u64Rd rfl (consFds u64Rd rfl (consFds u64Rd rfl (consFds dataRd rfl (nilFds _))))) (by kernel_rfl)
def rblksRd : Rd 26 (List (Int × Int × Int × List UInt8 × Unit)) := sliceRd rblkRd _ Try.underlying26 (by kernel_rfl)
/-- six numbers -/
def sixRd : Rd 23 (List Int) where
  n := 6
  rd _ cs a := ∃ z0 z1 z2 z3 z4 z5 : Int, a = [z0, z1, z2, z3, z4, z5] ∧ cs = a.map (Value.int .u64) ∧ ∀ z ∈ a, (Lit.int .u64 z).wf = true
  size _ := 1
  cells := by kernel_rfl
  op {H enc W base sp held fuel cs x} h := by
    obtain ⟨xs, m, -, rfl, hl, hxn, hf⟩ := DataW.trod_array Try.underlying23 h
    have hc : Try.prog.cellsOf 22 = 1 := by kernel_rfl
    have hl6 : cs.length = 6 := by rw [hl]; kernel_rfl
    match cs, hl6 with
    | [c0, c1, c2, c3, c4, c5], _ =>
      rw [hc] at hf
      have key : ∀ i (hi : i < 6) (c : Value), [c0, c1, c2, c3, c4, c5][i]? = some c → ∃ z, c = .int .u64 z ∧ (Lit.int .u64 z).wf = true := fun i hi c hc' => by
        have hh := hf i hi
        have he : ([c0, c1, c2, c3, c4, c5].drop (i * 1)).take 1 = [c] := by
          rw [Nat.mul_one, List.drop_eq_getElem_cons (by simpa using hi)]
          rw [List.getElem?_eq_getElem (by simpa using hi)] at hc'
          rw [Option.some.inj hc']
          rfl
        rw [he] at hh
        rcases hx : xs[i]? with _ | y
        · have := List.getElem?_eq_none_iff.1 hx
          omega
        · rw [hx] at hh
          obtain ⟨z, hz, -, hw⟩ := DataW.trod_int Try.underlying22 hh
          injection hz with hz
          exact ⟨z, hz, hw⟩
      obtain ⟨z0, rfl, w0⟩ := key 0 (by omega) c0 rfl
      obtain ⟨z1, rfl, w1⟩ := key 1 (by omega) c1 rfl
      obtain ⟨z2, rfl, w2⟩ := key 2 (by omega) c2 rfl
      obtain ⟨z3, rfl, w3⟩ := key 3 (by omega) c3 rfl
      obtain ⟨z4, rfl, w4⟩ := key 4 (by omega) c4 rfl
      obtain ⟨z5, rfl, w5⟩ := key 5 (by omega) c5 rfl
      refine ⟨[z0, z1, z2, z3, z4, z5], ⟨z0, z1, z2, z3, z4, z5, rfl, rfl, ?_⟩, Bulk.one_le _⟩
      intro z hz
      simp at hz
      rcases hz with rfl | rfl | rfl | rfl | rfl | rfl <;> assumption
  len h := by obtain ⟨z0, z1, z2, z3, z4, z5, rfl, rfl, _⟩ := h; rfl
  keep h _ := h
def rbdRd : Rd 29 (Int × List Int × (Int × Int × Unit) × Int × List (Int × Int × Int × List UInt8 × Unit) × List UInt8 × Unit) :=
  structRd _ Try.underlying29 (consFds u64Rd rfl (consFds sixRd rfl (consFds stampRd rfl (consFds u64Rd rfl (consFds rblksRd rfl (consFds dataRd rfl (nilFds _))))))) (by kernel_rfl)
def blkSize (x : Blk) : Nat := x.da.length + 4
def bdSize (b : Bdl) : Nat := (b.bl.map blkSize).sum + b.pl.length
theorem u64_nat {z : Int} (h : (Lit.int .u64 z).wf = true) : z = ((z.toNat : Nat) : Int) ∧ U64 z.toNat := by
  have := u64_wf h
  unfold U64
  omega
def mkBlk (x : Int × Int × Int × List UInt8 × Unit) : Blk := ⟨x.1.toNat, x.2.1.toNat, x.2.2.1.toNat, x.2.2.2.1⟩
theorem open_rbd {H : Type} {enc : TypeId × Value → H} {W : World} {base : Nat} {sp : Nat → Bool} {held : Bool} {d : DataW H} {p : List MemPlace} {cs : Array Value} (h0 : DataW.Trod enc Try.prog W base sp held 29 (.agg cs) d p) :
    ∃ (b : Bdl) (bv pv : Value), Value.agg cs = bdV b bv pv ∧ RdBd W bv pv b ∧ bdSize b ≤ Rows.uptoBulk d := by
  obtain ⟨x, hx, hb⟩ := rbdRd.open_ h0
  obtain ⟨c1, c2, hv, ⟨rfl, w0⟩, c3, c4, rfl, ⟨z0, z1, z2, z3, z4, z5, hz, rfl, wz⟩, c5, c6, rfl, ⟨s1, s2, rfl, ⟨rfl, wt⟩, s3, s4, rfl, ⟨rfl, ws⟩, s5⟩, c7, c8, rfl, ⟨rfl, wl⟩, c9, c10, rfl, ⟨bv, rfl, hbv⟩, c11, c12, rfl, ⟨pv, rfl, hpv⟩, h6⟩ := hx
  obtain rfl : c12 = [] := h6
  obtain rfl : s4 = [] := s5
  obtain ⟨f, ends, ⟨ti, sq, _⟩, li, bl, pl, _⟩ := x
  dsimp only at hz w0 wt ws wl hbv hpv hv
  subst hz
  have q0 := u64_nat (wz z0 (by simp))
  have q1 := u64_nat (wz z1 (by simp))
  have q2 := u64_nat (wz z2 (by simp))
  have q3 := u64_nat (wz z3 (by simp))
  have q4 := u64_nat (wz z4 (by simp))
  have q5 := u64_nat (wz z5 (by simp))
  have qf := u64_nat w0
  have qt := u64_nat wt
  have qs := u64_nat ws
  have ql := u64_nat wl
  refine ⟨⟨f.toNat, z0.toNat, z1.toNat, z2.toNat, z3.toNat, z4.toNat, z5.toNat, ti.toNat, sq.toNat, li.toNat, bl.map mkBlk, pl⟩, bv, pv, ?_, ⟨⟨qf.2, q0.2, q1.2, q2.2, q3.2, q4.2, q5.2, qt.2, qs.2, ql.2⟩, hbv.map mkBlk (fun cs y hy => ?_), hpv⟩, ?_⟩
  · have hc : cs.toList = #[Value.int .u64 f, .int .u64 z0, .int .u64 z1, .int .u64 z2, .int .u64 z3, .int .u64 z4, .int .u64 z5, .int .u64 ti, .int .u64 sq, .int .u64 li, bv, pv].toList := by simpa [Value.cells] using hv
    rw [Array.toList_inj.1 hc]
    simp only [bdV, n64]
    rw [← qf.1, ← q0.1, ← q1.1, ← q2.1, ← q3.1, ← q4.1, ← q5.1, ← qt.1, ← qs.1, ← ql.1]
  · obtain ⟨c1, c2, rfl, ⟨rfl, w1⟩, c3, c4, rfl, ⟨rfl, w2⟩, c5, c6, rfl, ⟨rfl, w3⟩, c7, c8, rfl, ⟨dv, rfl, hdv⟩, h8⟩ := hy
    obtain rfl : c8 = [] := h8
    have p1 := u64_nat w1
    have p2 := u64_nat w2
    have p3 := u64_nat w3
    refine ⟨⟨dv, ?_, hdv⟩, p1.2, p2.2, p3.2⟩
    show _ = [n64 y.1.toNat, n64 y.2.1.toNat, n64 y.2.2.1.toNat, dv]
    rw [n64, n64, n64, ← p1.1, ← p2.1, ← p3.1]
    rfl
  · have hsz : ∀ y, rblkRd.size y = blkSize (mkBlk y) := fun y => by
      show 1 + (1 + (1 + ((y.2.2.2.1.length + 1) + 0))) = _
      simp only [blkSize, mkBlk]
      omega
    have hbk : rbdRd.size (f, [z0, z1, z2, z3, z4, z5], (ti, sq, ()), li, bl, pl, ()) = 1 + (1 + ((1 + (1 + 0)) + (1 + (((bl.map rblkRd.size).sum + 1) + ((pl.length + 1) + 0))))) := rfl
    rw [hbk] at hb
    have : (bl.map mkBlk).map blkSize = bl.map rblkRd.size := by
      rw [List.map_map]
      apply List.map_congr_left
      intro y _
      exact (hsz y).symm
    simp only [bdSize, this]
    omega
theorem bdSize_len (b : Bdl) : b.bl.length * 4 ≤ bdSize b ∧ b.pl.length ≤ bdSize b ∧ ∀ x ∈ b.bl, x.da.length ≤ bdSize b := by
  have key : ∀ l : List Blk, l.length * 4 ≤ (l.map blkSize).sum ∧ ∀ x ∈ l, x.da.length ≤ (l.map blkSize).sum := fun l => by
    induction l with
    | nil => simp
    | cons a r ih =>
      simp only [List.map_cons, List.sum_cons, List.length_cons, blkSize]
      refine ⟨by have := ih.1; omega, fun x hx => ?_⟩
      rcases List.mem_cons.1 hx with rfl | hx
      · omega
      · have := ih.2 x hx
        omega
  have := key b.bl
  unfold bdSize
  refine ⟨by omega, by omega, fun x hx => ?_⟩
  have := this.2 x hx
  omega
end Go.Proofs.Yteokkpmndfekoaa
