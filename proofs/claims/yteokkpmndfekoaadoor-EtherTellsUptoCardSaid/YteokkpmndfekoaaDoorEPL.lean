/- EtherCalls: a step, of whatever kind; what the call reads. -/
import Derived.Test.YteokkpmndfekoaaDoorEO
import Derived.Test.YteokkpmndfekoaaDoorRD
namespace Go.Proofs.YteokkpmndfekoaaDoor
open Go Go.RowKit Go.ChangeShapes Go.WideShapes Go.ChangeAt
set_option maxRecDepth 100000

abbrev I64 (i : Int) : Prop := -9223372036854775808 ≤ i ∧ i ≤ 9223372036854775807
/-- one call -/
structure EOp where
  k : Int
  b : List UInt8
  i : Int
  at_ : Int
  m : Nat
def EOpAt (w : World) (cs : List Value) (o : EOp) : Prop := (∃ v, cs = [.int .i64 o.k, v, .int .i64 o.i, .int .i64 o.at_, .int .u32 (o.m : Int)] ∧ RdB w v o.b) ∧ I64 o.i ∧ I64 o.at_ ∧ o.m < 4294967296
theorem EOpAt.keep {w w' : World} {cs : List Value} {o : EOp} (h : EOpAt w cs o) (k : KpN w w') : EOpAt w' cs o := by
  obtain ⟨⟨v, h1, h2⟩, h3⟩ := h
  exact ⟨⟨v, h1, h2.keepN k⟩, h3⟩
theorem step_c {w0 w : World} {F G : Nat → Prop} {g r n : Nat} {st : List (List UInt8 × Bool)} (h : TwoW w0 w F G g r n st st) (hbo : BitsOk w0) {A : Option Addr} {L c : Nat} {k i at_ : Int} {m : Nat} {bs : List UInt8} (hr : RdB w0 (.slice A L c) bs) (hL : L ≤ 10000000) (ha : I64 at_) (hm : m < 4294967296) :
    Calls Tryd.prog 18 #[.pointer (some ⟨g, 0, none⟩), .pointer (some ⟨r, 0, none⟩), .agg #[.int .i64 k, .slice A L c, .int .i64 i, .int .i64 at_, .int .u32 (m : Int)]] w (StepP w0 w g r n) := by
  by_cases h1 : k = 1
  · subst h1; exact step_put h hr hL
  by_cases h2 : k = 2
  · subst h2; exact step_look h
  by_cases h3 : k = 3
  · subst h3; exact step_take h
  by_cases h4 : k = 4
  · subst h4; exact step_drop h
  by_cases h5 : k = 5
  · subst h5; exact step_double h
  by_cases h6 : k = 6
  · subst h6; exact step_turn h (hbo.keepN h.kp) ha hm
  exact step_len h (by simpa using h1) (by simpa using h2) (by simpa using h3) (by simpa using h4) (by simpa using h5) (by simpa using h6)
def i64Rd : Rd 3 Int := intRd .i64 3 Tryd.underlying3 (by kernel_rfl)
def u32Rd : Rd 34 Int := intRd .u32 34 Tryd.underlying34 (by kernel_rfl)
def rawRd : Rd 26 (List UInt8) := bytesRd 26 Tryd.underlying26 (by kernel_rfl)
def eopRd : Rd 49 (Int × List UInt8 × Int × Int × Int × Unit) :=
  structRd _ Tryd.underlying49 (consFds i64Rd rfl (consFds rawRd rfl (consFds i64Rd rfl (consFds i64Rd rfl (consFds u32Rd rfl (nilFds _)))))) (by kernel_rfl)
def eopsRd : Rd 43 (List (Int × List UInt8 × Int × Int × Int × Unit)) := sliceRd eopRd _ Tryd.underlying43 (by kernel_rfl)
def mkEOp (x : Int × List UInt8 × Int × Int × Int × Unit) : EOp := ⟨x.1, x.2.1, x.2.2.1, x.2.2.2.1, x.2.2.2.2.1.toNat⟩
def RdEOps (w : World) (v : Value) (l : List EOp) : Prop := SlAt w 5 EOpAt v l
theorem RdEOps.keepN {w w' : World} {v : Value} {l : List EOp} (h : RdEOps w v l) (k : KpN w w') : RdEOps w' v l := SlAt.keep h k (fun h k => h.keep k)
theorem i64_I {x : Int} (h : (Lit.int .i64 x).wf = true) : I64 x := by
  obtain ⟨h1, h2⟩ := i64_wf h
  exact ⟨h1, by omega⟩
theorem SlAt.map {α β : Type} {W : World} {n : Nat} {rd : World → List Value → α → Prop} {rd' : World → List Value → β → Prop} {v : Value} {ys : List α} (h : SlAt W n rd v ys) (f : α → β) (hf : ∀ cs y, rd W cs y → rd' W cs (f y)) : SlAt W n rd' v (ys.map f) := by
  obtain ⟨A, c, rfl, hc, hr⟩ := h
  refine ⟨A, c, by rw [List.length_map], by rw [List.length_map]; exact hc, fun j hj => ?_⟩
  rw [List.length_map] at hj
  obtain ⟨ad, cs, h1, h2, h3, h4⟩ := hr j hj
  exact ⟨ad, cs, h1, h2, h3, by rw [List.getElem_map]; exact hf _ _ h4⟩
section
variable {H : Type} {enc : TypeId × Value → H} {W : World} {base : Nat} {sp : Nat → Bool} {held : Bool} {a : Option Addr} {len cap : Nat} {d : DataW H} {p : List MemPlace}
theorem open_eops (h0 : DataW.Trod enc Tryd.prog W base sp held 43 (.slice a len cap) d p) : ∃ l : List EOp, RdEOps W (.slice a len cap) l ∧ (l.map fun o => o.b.length + 5).sum ≤ Rows.uptoBulk d := by
  obtain ⟨rl, ⟨v, hv, hs⟩, hb⟩ := eopsRd.open_ h0
  obtain rfl : Value.slice a len cap = v := by simpa [Value.cells] using hv
  refine ⟨rl.map mkEOp, hs.map _ (fun cs y hy => ?_), ?_⟩
  · obtain ⟨c1, c2, rfl, ⟨rfl, w1⟩, c3, c4, rfl, ⟨bv, rfl, hbv⟩, c5, c6, rfl, ⟨rfl, w3⟩, c7, c8, rfl, ⟨rfl, w4⟩, c9, c10, rfl, ⟨rfl, w5⟩, h6⟩ := hy
    obtain rfl : c10 = [] := h6
    have hu := u32_wf w5
    refine ⟨⟨bv, ?_, hbv⟩, i64_I w3, i64_I w4, by show y.2.2.2.2.1.toNat < 4294967296; omega⟩
    show _ = [Value.int .i64 y.1, bv, .int .i64 y.2.2.1, .int .i64 y.2.2.2.1, .int .u32 ((y.2.2.2.2.1.toNat : Nat) : Int)]
    rw [show ((y.2.2.2.2.1.toNat : Nat) : Int) = y.2.2.2.2.1 by omega]
    rfl
  · have hsz : ∀ x, eopRd.size x = (mkEOp x).b.length + 5 := fun x => by
      show 1 + ((x.2.1.length + 1) + (1 + (1 + (1 + 0)))) = _
      simp only [mkEOp]
      omega
    have hbk : eopsRd.size rl = (rl.map eopRd.size).sum + 1 := rfl
    rw [hbk] at hb
    have : ((rl.map mkEOp).map fun o => o.b.length + 5).sum = (rl.map eopRd.size).sum := by
      rw [List.map_map]
      congr 1
      apply List.map_congr_left
      intro x _
      rw [hsz]
      rfl
    omega
end
end Go.Proofs.YteokkpmndfekoaaDoor
