/- Ether's tables: what the listed ones give. -/
import Derived.Test.YteokkpmndfekoaaDoorUTE
import Derived.Test.YteokkpmndfekoaaDoorEA
import Derived.Test.YteokkpmndfekoaaDoorOC
import Derived.LaidSub
namespace Go.Proofs.YteokkpmndfekoaaDoor
open Go Go.RowKit
set_option maxRecDepth 100000

theorem gBitsType : (Tryd.prog.globals[0]?).map (·.type) = some 79 := by kernel_rfl
theorem gTabType : (Tryd.prog.globals[1]?).map (·.type) = some 83 := by kernel_rfl
theorem cellsA8 : Tryd.prog.cellsOf 79 = 32 := by kernel_rfl
theorem cellsArr : Tryd.prog.cellsOf 83 = 16 := by kernel_rfl
theorem cellsU32 : Tryd.prog.cellsOf 34 = 1 := by kernel_rfl
theorem cellsU8 : Tryd.prog.cellsOf 5 = 1 := by kernel_rfl
theorem bits_of {W : World} (h : laidMetH Tryd.prog [("math/bits.deBruijn32tab", Rows.laid_math_bits_deBruijn32tab)] W) : BitsOk W := by
  have t : Lib.TabIs Tryd.prog W "math/bits.deBruijn32tab" .u8 bitsZ := Lib.tabIs_of_head (rest := []) gBits gBitsType Tryd.underlying79 Tryd.underlying5 cellsU8 cellsA8 h
  intro j hj
  rw [t.cell gBits j (by exact hj)]
  have : ∀ j, j < 32 → bitsZ.getD j 0 = ((Lib.deBruijn32tab.getD j 0 : Nat) : Int) := by decide
  rw [this j hj]
theorem tab_of {W : World} (h : laidMetH Tryd.prog [("halyard/octet.table", Rows.laid_halyard_octet_table)] W) : TabOk W := by
  have t : Lib.TabIs Tryd.prog W "halyard/octet.table" .u32 tabZ := Lib.tabIs_of_head (rest := []) gTab gTabType Tryd.underlying83 Tryd.underlying34 cellsU32 cellsArr h
  intro j hj
  rw [t.cell gTab j (by exact hj)]
  have : ∀ j, j < 16 → tabZ.getD j 0 = ((tb j : Nat) : Int) := by decide
  rw [this j hj]
theorem both_of {W : World} (h : laidMetH Tryd.prog [("math/bits.deBruijn32tab", Rows.laid_math_bits_deBruijn32tab), ("halyard/octet.table", Rows.laid_halyard_octet_table)] W) : BitsOk W ∧ TabOk W :=
  ⟨bits_of (h.filter (fun x => x.1 == "math/bits.deBruijn32tab")), tab_of (h.filter (fun x => x.1 == "halyard/octet.table"))⟩
end Go.Proofs.YteokkpmndfekoaaDoor
