/- What the listed tables give (Ether's seat), and a world for the witness. -/
import Derived.Test.YteokkpmndfekoaaDoorCards
import Derived.Deep.DeepHandedRow
import Derived.Lib.LaidTab
import Derived.ProofKit
namespace Go.Proofs.YteokkpmndfekoaaDoor
open Go Go.RowKit
set_option maxRecDepth 100000

theorem gBits : Tryd.prog.globalNamed "math/bits.deBruijn32tab" = some 0 := by kernel_rfl
theorem gTab : Tryd.prog.globalNamed "halyard/octet.table" = some 1 := by kernel_rfl
def bitsZ : List Int := [0, 1, 28, 2, 29, 14, 24, 3, 30, 22, 20, 15, 25, 17, 4, 8, 31, 27, 13, 23, 21, 19, 16, 7, 26, 12, 18, 6, 11, 5, 10, 9]
def tabZ : List Int := [0, 498536548, 997073096, 651767980, 1994146192, 1802195444, 1303535960, 1342533948, 3988292384, 4027552580, 3604390888, 3412177804, 2607071920, 2262029012, 2685067896, 3183342108]
def layIn (k : IntKind) (zs : List Int) : Obj → Obj
  | .cells _ t frozen => .cells (zs.map (Value.int k)).toArray t frozen
  | o => o
/-- the settled world, the tables as their text lays them -/
noncomputable def laidWorld (os : Os) : World :=
  { World.holding Tryd.prog os ⟨#[], #[], []⟩ with heap := ((World.holding Tryd.prog os ⟨#[], #[], []⟩).heap.modify 0 (layIn .u8 bitsZ)).modify 1 (layIn .u32 tabZ) }
end Go.Proofs.YteokkpmndfekoaaDoor
