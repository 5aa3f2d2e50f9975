/- EtherTells: the reader of the texts. -/
import Derived.Test.YteokkpmndfekoaaDoorET3
namespace Go.Proofs.YteokkpmndfekoaaDoor
open Go Go.RowKit Go.ChangeShapes Go.WideShapes Go.ChangeAt
set_option maxRecDepth 100000
def dataRdT : Rd 26 (List UInt8) := bytesRd 26 Tryd.underlying26 (by kernel_rfl)
def textsRd : Rd 39 (List (List UInt8)) := sliceRd dataRdT _ Tryd.underlying39 (by kernel_rfl)
theorem text_le (l : List (List UInt8)) : l.length ≤ (l.map dataRdT.size).sum ∧ ∀ x ∈ l, x.length ≤ (l.map dataRdT.size).sum := by
  have hs : ∀ x : List UInt8, dataRdT.size x = x.length + 1 := fun _ => rfl
  induction l with
  | nil => simp
  | cons a r ih =>
    simp only [List.map_cons, List.sum_cons, List.length_cons, hs]
    refine ⟨by omega, fun x hx => ?_⟩
    rcases List.mem_cons.1 hx with rfl | hx
    · omega
    · have := ih.2 x hx
      omega
theorem open_texts {H : Type} {enc : TypeId × Value → H} {W : World} {base : Nat} {sp : Nat → Bool} {held : Bool} {d : DataW H} {p : List MemPlace} {a : Option Addr} {len cap : Nat} (h0 : DataW.Trod enc Tryd.prog W base sp held 39 (.slice a len cap) d p) :
    ∃ tx : List (List UInt8), RdTs W (.slice a len cap) tx ∧ (∀ x ∈ tx, x.length ≤ Rows.uptoBulk d) ∧ len ≤ Rows.uptoBulk d := by
  obtain ⟨tx, ⟨v, hv, hs⟩, hb⟩ := textsRd.open_ h0
  obtain rfl : Value.slice a len cap = v := by simpa [Value.cells] using hv
  have hs2 : RdTs W (.slice a len cap) tx := hs
  have hsz : textsRd.size tx = (tx.map dataRdT.size).sum + 1 := rfl
  rw [hsz] at hb
  have ht := text_le tx
  obtain ⟨A', c', hv', -⟩ := hs2.form
  injection hv' with _ hl
  exact ⟨tx, hs2, fun x hx => by have := ht.2 x hx; omega, by omega⟩
end Go.Proofs.YteokkpmndfekoaaDoor
