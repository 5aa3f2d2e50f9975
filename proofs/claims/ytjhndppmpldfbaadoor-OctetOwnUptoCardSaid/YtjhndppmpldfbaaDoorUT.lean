/- What the listed table gives, and a world for the witness. -/
import Derived.Test.YtjhndppmpldfbaaDoorCards
import Derived.Test.YtjhndppmpldfbaaDoorOC
import Derived.Deep.DeepHandedRow
import Derived.Lib.LaidTab
import Derived.ProofKit
namespace Go.Proofs.YtjhndppmpldfbaaDoor
open Go Go.RowKit

theorem gTab : Tryd.prog.globalNamed "halyard/octet.table" = some 0 := by kernel_rfl
theorem gTabType : (Tryd.prog.globals[0]?).map (·.type) = some 65 := by kernel_rfl
theorem cellsArr : Tryd.prog.cellsOf 65 = 16 := by kernel_rfl
theorem cellsU32 : Tryd.prog.cellsOf 24 = 1 := by kernel_rfl
def tabZ : List Int := [0, 498536548, 997073096, 651767980, 1994146192, 1802195444, 1303535960, 1342533948, 3988292384, 4027552580, 3604390888, 3412177804, 2607071920, 2262029012, 2685067896, 3183342108]
theorem tab_of {W : World} (h : laidMetH Tryd.prog [("halyard/octet.table", Rows.laid_halyard_octet_table)] W) : TabOk W := by
  have t : Lib.TabIs Tryd.prog W "halyard/octet.table" .u32 tabZ := Lib.tabIs_of_head (rest := []) gTab gTabType Tryd.underlying65 Tryd.underlying24 cellsU32 cellsArr h
  intro j hj
  rw [t.cell gTab j (by exact hj)]
  have : ∀ j, j < 16 → tabZ.getD j 0 = ((tb j : Nat) : Int) := by decide
  rw [this j hj]
/-- the settled world, the table as its text lays it -/
noncomputable def laidWorld (os : Os) : World :=
  { World.holding Tryd.prog os ⟨#[], #[], []⟩ with heap := (World.holding Tryd.prog os ⟨#[], #[], []⟩).heap.modify 0 fun
      | .cells _ t frozen => .cells (tabZ.map (Value.int .u32)).toArray t frozen
      | o => o }
end Go.Proofs.YtjhndppmpldfbaaDoor
