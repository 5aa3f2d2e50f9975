/-
  NARROWER THAN 'FOR EVERY INPUT', by the rows' own cells (each row's printed sentence says how): EtherNone: laid · EtherOwn: laid · EtherCalls: laid · EtherTells: laid.
  DERIVED. THE GIVEN ROWS OF THIS SEAT. 4 by the template 'for every input the law returns true; each argument reads behind the call as it read before'; 0 by the template 'total and deterministic' (their statements: YteokkpmndfekoaaDoorTotals.lean).
  GIVEN WITH THE SEED: the statements are not yours to turn. If you find one false, say at which input.
  Laid BY PROGRAM, IN A SANDBOX (cutbox-rows.mjs): the forced cells as the released guide's own fill.sh prints them over the translation 798fbf830f49d1d3… (all of the seat's roots in one cut). By AI agents, Wed Nov 11 2026. No macro, syntax, notation, axiom, sorry.
-/
import Derived.Test.YteokkpmndfekoaaDoorChecked
import GoSem.Claim
import GoSem.ClaimJoined
import GoSem.ClaimMapViews
import Derived.JoinedTies
import Derived.KernelRfl
namespace Go.Proofs.YteokkpmndfekoaaDoor
/- THE CELL 'sum', in the pinned program and in every row, IS THE sha256 OF THE DUMP (.gsa) THAT YteokkpmndfekoaaDoorProg.lean LOADS. Nothing in Lean hashes anything: it is a label: what it is worth is what the hold of that sum in a sandbox is worth. -/
noncomputable def Tryd.pinned : Pinned := { name := "yteokkpmndfekoaadoor", sum := "798fbf830f49d1d3fe99772f437117205152795eb5ef251df23de1eef8ce7f69", checked := Tryd.checked }
namespace Rows
def none {H : Type} : Left H := { results := [], args := [] }

/- WHAT THE LISTED PACKAGE-LEVEL VARIABLES READ AS WHEN THE CALL BEGINS. Each datum BY PROGRAM (the guide's laid-datum.mjs) off the statement by which the dump's own 'gosem.cut.vars' lays the variable. In a bare row this is a premise. The card (YteokkpmndfekoaaDoorCards.lean) ties it to the program's text. -/
def laid_math_bits_deBruijn32tab {H : Type} : DataW H := .agg [.lit (.int .u8 0), .lit (.int .u8 1), .lit (.int .u8 28), .lit (.int .u8 2), .lit (.int .u8 29), .lit (.int .u8 14), .lit (.int .u8 24), .lit (.int .u8 3), .lit (.int .u8 30), .lit (.int .u8 22), .lit (.int .u8 20), .lit (.int .u8 15), .lit (.int .u8 25), .lit (.int .u8 17), .lit (.int .u8 4), .lit (.int .u8 8), .lit (.int .u8 31), .lit (.int .u8 27), .lit (.int .u8 13), .lit (.int .u8 23), .lit (.int .u8 21), .lit (.int .u8 19), .lit (.int .u8 16), .lit (.int .u8 7), .lit (.int .u8 26), .lit (.int .u8 12), .lit (.int .u8 18), .lit (.int .u8 6), .lit (.int .u8 11), .lit (.int .u8 5), .lit (.int .u8 10), .lit (.int .u8 9)]
def laid_halyard_octet_table {H : Type} : DataW H := .agg [.lit (.int .u32 0), .lit (.int .u32 498536548), .lit (.int .u32 997073096), .lit (.int .u32 651767980), .lit (.int .u32 1994146192), .lit (.int .u32 1802195444), .lit (.int .u32 1303535960), .lit (.int .u32 1342533948), .lit (.int .u32 3988292384), .lit (.int .u32 4027552580), .lit (.int .u32 3604390888), .lit (.int .u32 3412177804), .lit (.int .u32 2607071920), .lit (.int .u32 2262029012), .lit (.int .u32 2685067896), .lit (.int .u32 3183342108)]

/-- 'halyardlaw11.EtherNone': WHATEVER THE INPUT: true; the input reads as it did. -/
def etherNoneSpec : ChangeSpec := { name := "etherNone", fn := fun _ => fun
  | [] => { results := [.lit (.bool true)], args := [] }
  | _ => none }
def etherNoneRow : OpenClaim := { program := "yteokkpmndfekoaadoor", sum := "798fbf830f49d1d3fe99772f437117205152795eb5ef251df23de1eef8ce7f69", func := "halyard/halyardlaw11.EtherNone", spec := "etherNone", named := ["math/bits.deBruijn32tab"], apart := false, laid := [("math/bits.deBruijn32tab", laid_math_bits_deBruijn32tab)] }
def EtherNoneSaid : Prop := etherNoneRow.holds Tryd.pinned (OpenSpec.ofChange etherNoneSpec)

/-- ITS FALSE NEIGHBOUR: 'it returns false'. Refute it at one input. -/
def etherNoneWrong : ChangeSpec := { name := "etherNone", fn := fun _ => fun
  | [] => { results := [.lit (.bool false)], args := [] }
  | _ => none }
def EtherNoneWrongFalsely : Prop := etherNoneRow.holds Tryd.pinned (OpenSpec.ofChange etherNoneWrong)

/-- 'halyardlaw11.EtherOwn': WHATEVER THE INPUT: true; the input reads as it did. -/
def etherOwnSpec : ChangeSpec := { name := "etherOwn", fn := fun _ => fun
  | [d1, d2] => { results := [.lit (.bool true)], args := [d1, d2] }
  | _ => none }
def etherOwnRow : OpenClaim := { program := "yteokkpmndfekoaadoor", sum := "798fbf830f49d1d3fe99772f437117205152795eb5ef251df23de1eef8ce7f69", func := "halyard/halyardlaw11.EtherOwn", spec := "etherOwn", named := ["math/bits.deBruijn32tab"], apart := false, laid := [("math/bits.deBruijn32tab", laid_math_bits_deBruijn32tab)] }
def EtherOwnSaid : Prop := etherOwnRow.holds Tryd.pinned (OpenSpec.ofChange etherOwnSpec)

/-- ITS FALSE NEIGHBOUR: 'it returns false'. Refute it at one input. -/
def etherOwnWrong : ChangeSpec := { name := "etherOwn", fn := fun _ => fun
  | [d1, d2] => { results := [.lit (.bool false)], args := [d1, d2] }
  | _ => none }
def EtherOwnWrongFalsely : Prop := etherOwnRow.holds Tryd.pinned (OpenSpec.ofChange etherOwnWrong)

/-- 'halyardlaw11.EtherCalls': WHATEVER THE INPUT: true; the input reads as it did. -/
def etherCallsSpec : ChangeSpec := { name := "etherCalls", fn := fun _ => fun
  | [d1, d2] => { results := [.lit (.bool true)], args := [d1, d2] }
  | _ => none }
def etherCallsRow : OpenClaim := { program := "yteokkpmndfekoaadoor", sum := "798fbf830f49d1d3fe99772f437117205152795eb5ef251df23de1eef8ce7f69", func := "halyard/halyardlaw11.EtherCalls", spec := "etherCalls", named := ["math/bits.deBruijn32tab"], apart := false, laid := [("math/bits.deBruijn32tab", laid_math_bits_deBruijn32tab)] }
def EtherCallsSaid : Prop := etherCallsRow.holds Tryd.pinned (OpenSpec.ofChange etherCallsSpec)

/-- ITS FALSE NEIGHBOUR: 'it returns false'. Refute it at one input. -/
def etherCallsWrong : ChangeSpec := { name := "etherCalls", fn := fun _ => fun
  | [d1, d2] => { results := [.lit (.bool false)], args := [d1, d2] }
  | _ => none }
def EtherCallsWrongFalsely : Prop := etherCallsRow.holds Tryd.pinned (OpenSpec.ofChange etherCallsWrong)

/-- 'halyardlaw11.EtherTells': WHATEVER THE INPUT: true; the input reads as it did. -/
def etherTellsSpec : ChangeSpec := { name := "etherTells", fn := fun _ => fun
  | [d1, d2, d3] => { results := [.lit (.bool true)], args := [d1, d2, d3] }
  | _ => none }
def etherTellsRow : OpenClaim := { program := "yteokkpmndfekoaadoor", sum := "798fbf830f49d1d3fe99772f437117205152795eb5ef251df23de1eef8ce7f69", func := "halyard/halyardlaw11.EtherTells", spec := "etherTells", named := ["halyard/octet.table", "math/bits.deBruijn32tab"], apart := false, laid := [("math/bits.deBruijn32tab", laid_math_bits_deBruijn32tab), ("halyard/octet.table", laid_halyard_octet_table)] }
def EtherTellsSaid : Prop := etherTellsRow.holds Tryd.pinned (OpenSpec.ofChange etherTellsSpec)

/-- ITS FALSE NEIGHBOUR: 'it returns false'. Refute it at one input. -/
def etherTellsWrong : ChangeSpec := { name := "etherTells", fn := fun _ => fun
  | [d1, d2, d3] => { results := [.lit (.bool false)], args := [d1, d2, d3] }
  | _ => none }
def EtherTellsWrongFalsely : Prop := etherTellsRow.holds Tryd.pinned (OpenSpec.ofChange etherTellsWrong)

/- THE SECOND FORM. 'bulk': how many values and letters a reading holds, each counted each time it is reached (what is shared counts as often as it is met; a slice's spare places count too). A statement '..UptoSaid' is the law's where the arguments, and the package variables that the reading takes, are together of bulk at most 1048576: NARROWER than '..Said'. Prove '..Said' where nothing that the law and all that it calls make is longer than what came in: it says more and counts as full. Else prove '..UptoSaid'. A law counts once. -/
mutual
def uptoBulk {H : Type} : DataW H → Nat
  | .lit (.string bytes) => bytes.length + 1
  | .lit _ => 1
  | .nil => 1
  | .ptr d => uptoBulk d + 1
  | .slice elems spare => uptoBulkAll elems + uptoBulkAll spare + 1
  | .agg parts => uptoBulkAll parts + 1
  | .iface _ d => uptoBulk d + 1
  | .map entries => uptoBulkEntries entries + 1
  | .held _ => 1
def uptoBulkAll {H : Type} : List (DataW H) → Nat
  | [] => 0
  | d :: r => uptoBulk d + uptoBulkAll r
def uptoBulkEntries {H : Type} : List (Lit × DataW H) → Nat
  | [] => 0
  | x :: r => uptoBulkEntry x + uptoBulkEntries r
def uptoBulkEntry {H : Type} : Lit × DataW H → Nat
  | (.string bytes, d) => bytes.length + uptoBulk d + 1
  | (_, d) => uptoBulk d + 1
 end
def uptoSmall : (H : Type) → List (DataW H) → Bool := fun _ ds => decide (uptoBulkAll ds ≤ 1048576)
def OpenSpec.upto (s : _root_.Go.ChangeSpec) : _root_.Go.OpenSpec := { _root_.Go.OpenSpec.ofChange s with cond := some uptoSmall }

/-- 'halyardlaw11.EtherNone', WHERE WHAT IT READS IS OF BULK AT MOST 1048576: true; the input reads as it did. -/
def etherNoneUptoRow : OpenClaim := { program := "yteokkpmndfekoaadoor", sum := "798fbf830f49d1d3fe99772f437117205152795eb5ef251df23de1eef8ce7f69", func := "halyard/halyardlaw11.EtherNone", spec := "etherNone", named := ["math/bits.deBruijn32tab"], apart := false, laid := [("math/bits.deBruijn32tab", laid_math_bits_deBruijn32tab)], narrowed := true }
def EtherNoneUptoSaid : Prop := etherNoneUptoRow.holds Tryd.pinned (OpenSpec.upto etherNoneSpec)

/-- 'halyardlaw11.EtherOwn', WHERE WHAT IT READS IS OF BULK AT MOST 1048576: true; the input reads as it did. -/
def etherOwnUptoRow : OpenClaim := { program := "yteokkpmndfekoaadoor", sum := "798fbf830f49d1d3fe99772f437117205152795eb5ef251df23de1eef8ce7f69", func := "halyard/halyardlaw11.EtherOwn", spec := "etherOwn", named := ["math/bits.deBruijn32tab"], apart := false, laid := [("math/bits.deBruijn32tab", laid_math_bits_deBruijn32tab)], narrowed := true }
def EtherOwnUptoSaid : Prop := etherOwnUptoRow.holds Tryd.pinned (OpenSpec.upto etherOwnSpec)

/-- 'halyardlaw11.EtherCalls', WHERE WHAT IT READS IS OF BULK AT MOST 1048576: true; the input reads as it did. -/
def etherCallsUptoRow : OpenClaim := { program := "yteokkpmndfekoaadoor", sum := "798fbf830f49d1d3fe99772f437117205152795eb5ef251df23de1eef8ce7f69", func := "halyard/halyardlaw11.EtherCalls", spec := "etherCalls", named := ["math/bits.deBruijn32tab"], apart := false, laid := [("math/bits.deBruijn32tab", laid_math_bits_deBruijn32tab)], narrowed := true }
def EtherCallsUptoSaid : Prop := etherCallsUptoRow.holds Tryd.pinned (OpenSpec.upto etherCallsSpec)

/-- 'halyardlaw11.EtherTells', WHERE WHAT IT READS IS OF BULK AT MOST 1048576: true; the input reads as it did. -/
def etherTellsUptoRow : OpenClaim := { program := "yteokkpmndfekoaadoor", sum := "798fbf830f49d1d3fe99772f437117205152795eb5ef251df23de1eef8ce7f69", func := "halyard/halyardlaw11.EtherTells", spec := "etherTells", named := ["halyard/octet.table", "math/bits.deBruijn32tab"], apart := false, laid := [("math/bits.deBruijn32tab", laid_math_bits_deBruijn32tab), ("halyard/octet.table", laid_halyard_octet_table)], narrowed := true }
def EtherTellsUptoSaid : Prop := etherTellsUptoRow.holds Tryd.pinned (OpenSpec.upto etherTellsSpec)

end Rows
end Go.Proofs.YteokkpmndfekoaaDoor
