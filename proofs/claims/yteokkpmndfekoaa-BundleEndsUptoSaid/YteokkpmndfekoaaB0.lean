/- Words for what the functions of this program do to memory. -/
import Derived.Test.YteokkpmndfekoaaProg
import Derived.Test.YteokkpmndfekoaaV
import Derived.Outline
namespace Go.Proofs.Yteokkpmndfekoaa
open Go Go.RowKit
set_option maxRecDepth 100000

/-- a new list of bytes is handed back, and nothing that was there has changed -/
def GotB (U : Nat) (w : World) (ys : List UInt8) (e : Ending) (w' : World) : Prop := ∃ u, e = .returned u ∧ OwB w' U (Iv w.heap.size w'.heap.size) u ys ∧ KpN w w'
theorem got_of {U : Nat} {w w' : World} {u : Value} {ys : List UInt8} (o : OwB w' U (Iv w.heap.size w'.heap.size) u ys) (k : KpN w w') : GotB U w ys (.returned u) w' := ⟨u, rfl, o, k⟩
theorem u8info : (Try.prog.info? 5).map (fun i => (i.zero, i.size, i.bytes)) = some (some (.int .u8 0), 1, 1) := by kernel_rfl
end Go.Proofs.Yteokkpmndfekoaa
