/- A frame as an argument. -/
import Derived.Test.YteokkpmndfekoaaBL
import Derived.Test.YteokkpmndfekoaaBA
namespace Go.Proofs.Yteokkpmndfekoaa
open Go Go.RowKit Go.ChangeShapes Go.WideShapes Go.ChangeAt
set_option maxRecDepth 100000

def intKRd : Rd 3 Int := intRd .i64 3 Try.underlying3 (by kernel_rfl)
def frRd : Rd 47 (Int × (Int × Int × Unit) × Int × List UInt8 × Unit) := structRd _ Try.underlying47 (consFds intKRd rfl (consFds stampRd rfl (consFds u64Rd rfl (consFds dataRd rfl (nilFds _))))) (by kernel_rfl)
theorem open_frame {H : Type} {enc : TypeId × Value → H} {W : World} {base : Nat} {sp : Nat → Bool} {held : Bool} {d : DataW H} {p : List MemPlace} {cs : Array Value} (h0 : DataW.Trod enc Try.prog W base sp held 47 (.agg cs) d p) :
    ∃ (s : Int) (ti sq li : Nat) (v : Value) (xs : List UInt8), Value.agg cs = frV s ti sq li v ∧ RdB W v xs ∧ xs.length ≤ Rows.uptoBulk d ∧ U64 ti ∧ U64 sq ∧ U64 li := by
  obtain ⟨x, hx, hb⟩ := frRd.open_ h0
  obtain ⟨c1, c2, hv, ⟨rfl, w0⟩, c5, c6, rfl, ⟨s1, s2, rfl, ⟨rfl, wt⟩, s3, s4, rfl, ⟨rfl, ws⟩, s5⟩, c7, c8, rfl, ⟨rfl, wl⟩, c11, c12, rfl, ⟨pv, rfl, hpv⟩, h6⟩ := hx
  obtain rfl : c12 = [] := h6
  obtain rfl : s4 = [] := s5
  obtain ⟨f, ⟨ti, sq, _⟩, li, pl, _⟩ := x
  dsimp only at w0 wt ws wl hpv hv
  have qt := u64_nat wt
  have qs := u64_nat ws
  have ql := u64_nat wl
  refine ⟨f, ti.toNat, sq.toNat, li.toNat, pv, pl, ?_, hpv, ?_, qt.2, qs.2, ql.2⟩
  · have hc : cs.toList = #[Value.int .i64 f, .int .u64 ti, .int .u64 sq, .int .u64 li, pv].toList := by simpa [Value.cells] using hv
    rw [Array.toList_inj.1 hc]
    simp only [frV, n64]
    rw [← qt.1, ← qs.1, ← ql.1]
  · refine Nat.le_trans ?_ hb
    show pl.length ≤ _
    simp only [frRd, structRd, consFds, nilFds, intKRd, stampRd, u64Rd, dataRd, intRd, bytesRd]
    omega
end Go.Proofs.Yteokkpmndfekoaa
