/-
  NARROWER THAN 'FOR EVERY INPUT', by the rows' own cells (each row's printed sentence says how): OctetSums: laid · OctetNames: laid · OctetNumbers: laid · OctetOneWay: laid · OctetBursts: laid · OctetTwice: laid · OctetUnseals: laid · OctetSeal: laid · OctetBurst: laid · OctetOver: laid · OctetBack: laid · OctetNil: laid · OctetOwn: laid.
  DERIVED. THE GIVEN ROWS OF THIS SEAT. 13 by the template 'for every input the law returns true; each argument reads behind the call as it read before'; 0 by the template 'total and deterministic' (their statements: YtjhndppmpldfbaaDoorTotals.lean).
  GIVEN WITH THE SEED: the statements are not yours to turn. If you find one false, say at which input.
  Laid BY PROGRAM, IN A SANDBOX (cutbox-rows.mjs): the forced cells as the released guide's own fill.sh prints them over the translation 6527c7cd45f745d2… (all of the seat's roots in one cut). By AI agents, Wed Nov 11 2026. No macro, syntax, notation, axiom, sorry.
-/
import Derived.Test.YtjhndppmpldfbaaDoorChecked
import GoSem.Claim
import GoSem.ClaimJoined
import GoSem.ClaimMapViews
import Derived.JoinedTies
import Derived.KernelRfl
namespace Go.Proofs.YtjhndppmpldfbaaDoor
/- THE CELL 'sum', in the pinned program and in every row, IS THE sha256 OF THE DUMP (.gsa) THAT YtjhndppmpldfbaaDoorProg.lean LOADS. Nothing in Lean hashes anything: it is a label: what it is worth is what the hold of that sum in a sandbox is worth. -/
noncomputable def Tryd.pinned : Pinned := { name := "ytjhndppmpldfbaadoor", sum := "6527c7cd45f745d2473bd76aacccd2dcf95524aede73f33d7b5a766cfd00524a", checked := Tryd.checked }
namespace Rows
def none {H : Type} : Left H := { results := [], args := [] }

/- WHAT THE LISTED PACKAGE-LEVEL VARIABLES READ AS WHEN THE CALL BEGINS. Each datum BY PROGRAM (the guide's laid-datum.mjs) off the statement by which the dump's own 'gosem.cut.vars' lays the variable. In a bare row this is a premise. The card (YtjhndppmpldfbaaDoorCards.lean) ties it to the program's text. -/
def laid_halyard_octet_table {H : Type} : DataW H := .agg [.lit (.int .u32 0), .lit (.int .u32 498536548), .lit (.int .u32 997073096), .lit (.int .u32 651767980), .lit (.int .u32 1994146192), .lit (.int .u32 1802195444), .lit (.int .u32 1303535960), .lit (.int .u32 1342533948), .lit (.int .u32 3988292384), .lit (.int .u32 4027552580), .lit (.int .u32 3604390888), .lit (.int .u32 3412177804), .lit (.int .u32 2607071920), .lit (.int .u32 2262029012), .lit (.int .u32 2685067896), .lit (.int .u32 3183342108)]

/-- 'halyardlaw01.OctetSums': WHATEVER THE INPUT: true; the input reads as it did. -/
def octetSumsSpec : ChangeSpec := { name := "octetSums", fn := fun _ => fun
  | [d] => { results := [.lit (.bool true)], args := [d] }
  | _ => none }
def octetSumsRow : OpenClaim := { program := "ytjhndppmpldfbaadoor", sum := "6527c7cd45f745d2473bd76aacccd2dcf95524aede73f33d7b5a766cfd00524a", func := "halyard/halyardlaw01.OctetSums", spec := "octetSums", named := ["halyard/octet.table"], apart := false, laid := [("halyard/octet.table", laid_halyard_octet_table)] }
def OctetSumsSaid : Prop := octetSumsRow.holds Tryd.pinned (OpenSpec.ofChange octetSumsSpec)

/-- ITS FALSE NEIGHBOUR: 'it returns false'. Refute it at one input. -/
def octetSumsWrong : ChangeSpec := { name := "octetSums", fn := fun _ => fun
  | [d] => { results := [.lit (.bool false)], args := [d] }
  | _ => none }
def OctetSumsWrongFalsely : Prop := octetSumsRow.holds Tryd.pinned (OpenSpec.ofChange octetSumsWrong)

/-- 'halyardlaw01.OctetNames': WHATEVER THE INPUT: true; the input reads as it did. -/
def octetNamesSpec : ChangeSpec := { name := "octetNames", fn := fun _ => fun
  | [] => { results := [.lit (.bool true)], args := [] }
  | _ => none }
def octetNamesRow : OpenClaim := { program := "ytjhndppmpldfbaadoor", sum := "6527c7cd45f745d2473bd76aacccd2dcf95524aede73f33d7b5a766cfd00524a", func := "halyard/halyardlaw01.OctetNames", spec := "octetNames", unfollowed := true, recurses := true, named := ["halyard/octet.table"], apart := false, laid := [("halyard/octet.table", laid_halyard_octet_table)] }
def OctetNamesSaid : Prop := octetNamesRow.holds Tryd.pinned (OpenSpec.ofChange octetNamesSpec)

/-- ITS FALSE NEIGHBOUR: 'it returns false'. Refute it at one input. -/
def octetNamesWrong : ChangeSpec := { name := "octetNames", fn := fun _ => fun
  | [] => { results := [.lit (.bool false)], args := [] }
  | _ => none }
def OctetNamesWrongFalsely : Prop := octetNamesRow.holds Tryd.pinned (OpenSpec.ofChange octetNamesWrong)

/-- 'halyardlaw01.OctetNumbers': WHATEVER THE INPUT: true; the input reads as it did. -/
def octetNumbersSpec : ChangeSpec := { name := "octetNumbers", fn := fun _ => fun
  | [d] => { results := [.lit (.bool true)], args := [d] }
  | _ => none }
def octetNumbersRow : OpenClaim := { program := "ytjhndppmpldfbaadoor", sum := "6527c7cd45f745d2473bd76aacccd2dcf95524aede73f33d7b5a766cfd00524a", func := "halyard/halyardlaw01.OctetNumbers", spec := "octetNumbers", unfollowed := true, recurses := true, named := ["halyard/octet.table"], apart := false, laid := [("halyard/octet.table", laid_halyard_octet_table)] }
def OctetNumbersSaid : Prop := octetNumbersRow.holds Tryd.pinned (OpenSpec.ofChange octetNumbersSpec)

/-- ITS FALSE NEIGHBOUR: 'it returns false'. Refute it at one input. -/
def octetNumbersWrong : ChangeSpec := { name := "octetNumbers", fn := fun _ => fun
  | [d] => { results := [.lit (.bool false)], args := [d] }
  | _ => none }
def OctetNumbersWrongFalsely : Prop := octetNumbersRow.holds Tryd.pinned (OpenSpec.ofChange octetNumbersWrong)

/-- 'halyardlaw01.OctetOneWay': WHATEVER THE INPUT: true; the input reads as it did. -/
def octetOneWaySpec : ChangeSpec := { name := "octetOneWay", fn := fun _ => fun
  | [d1, d2, d3] => { results := [.lit (.bool true)], args := [d1, d2, d3] }
  | _ => none }
def octetOneWayRow : OpenClaim := { program := "ytjhndppmpldfbaadoor", sum := "6527c7cd45f745d2473bd76aacccd2dcf95524aede73f33d7b5a766cfd00524a", func := "halyard/halyardlaw01.OctetOneWay", spec := "octetOneWay", unfollowed := true, recurses := true, named := ["halyard/octet.table"], apart := false, laid := [("halyard/octet.table", laid_halyard_octet_table)] }
def OctetOneWaySaid : Prop := octetOneWayRow.holds Tryd.pinned (OpenSpec.ofChange octetOneWaySpec)

/-- ITS FALSE NEIGHBOUR: 'it returns false'. Refute it at one input. -/
def octetOneWayWrong : ChangeSpec := { name := "octetOneWay", fn := fun _ => fun
  | [d1, d2, d3] => { results := [.lit (.bool false)], args := [d1, d2, d3] }
  | _ => none }
def OctetOneWayWrongFalsely : Prop := octetOneWayRow.holds Tryd.pinned (OpenSpec.ofChange octetOneWayWrong)

/-- 'halyardlaw01.OctetBursts': WHATEVER THE INPUT: true; the input reads as it did. -/
def octetBurstsSpec : ChangeSpec := { name := "octetBursts", fn := fun _ => fun
  | [d1, d2, d3] => { results := [.lit (.bool true)], args := [d1, d2, d3] }
  | _ => none }
def octetBurstsRow : OpenClaim := { program := "ytjhndppmpldfbaadoor", sum := "6527c7cd45f745d2473bd76aacccd2dcf95524aede73f33d7b5a766cfd00524a", func := "halyard/halyardlaw01.OctetBursts", spec := "octetBursts", unfollowed := true, recurses := true, named := ["halyard/octet.table"], apart := false, laid := [("halyard/octet.table", laid_halyard_octet_table)] }
def OctetBurstsSaid : Prop := octetBurstsRow.holds Tryd.pinned (OpenSpec.ofChange octetBurstsSpec)

/-- ITS FALSE NEIGHBOUR: 'it returns false'. Refute it at one input. -/
def octetBurstsWrong : ChangeSpec := { name := "octetBursts", fn := fun _ => fun
  | [d1, d2, d3] => { results := [.lit (.bool false)], args := [d1, d2, d3] }
  | _ => none }
def OctetBurstsWrongFalsely : Prop := octetBurstsRow.holds Tryd.pinned (OpenSpec.ofChange octetBurstsWrong)

/-- 'halyardlaw01.OctetTwice': WHATEVER THE INPUT: true; the input reads as it did. -/
def octetTwiceSpec : ChangeSpec := { name := "octetTwice", fn := fun _ => fun
  | [d1, d2, d3] => { results := [.lit (.bool true)], args := [d1, d2, d3] }
  | _ => none }
def octetTwiceRow : OpenClaim := { program := "ytjhndppmpldfbaadoor", sum := "6527c7cd45f745d2473bd76aacccd2dcf95524aede73f33d7b5a766cfd00524a", func := "halyard/halyardlaw01.OctetTwice", spec := "octetTwice", unfollowed := true, recurses := true, named := ["halyard/octet.table"], apart := false, laid := [("halyard/octet.table", laid_halyard_octet_table)] }
def OctetTwiceSaid : Prop := octetTwiceRow.holds Tryd.pinned (OpenSpec.ofChange octetTwiceSpec)

/-- ITS FALSE NEIGHBOUR: 'it returns false'. Refute it at one input. -/
def octetTwiceWrong : ChangeSpec := { name := "octetTwice", fn := fun _ => fun
  | [d1, d2, d3] => { results := [.lit (.bool false)], args := [d1, d2, d3] }
  | _ => none }
def OctetTwiceWrongFalsely : Prop := octetTwiceRow.holds Tryd.pinned (OpenSpec.ofChange octetTwiceWrong)

/-- 'halyardlaw01.OctetUnseals': WHATEVER THE INPUT: true; the input reads as it did. -/
def octetUnsealsSpec : ChangeSpec := { name := "octetUnseals", fn := fun _ => fun
  | [d] => { results := [.lit (.bool true)], args := [d] }
  | _ => none }
def octetUnsealsRow : OpenClaim := { program := "ytjhndppmpldfbaadoor", sum := "6527c7cd45f745d2473bd76aacccd2dcf95524aede73f33d7b5a766cfd00524a", func := "halyard/halyardlaw01.OctetUnseals", spec := "octetUnseals", unfollowed := true, recurses := true, named := ["halyard/octet.table"], apart := false, laid := [("halyard/octet.table", laid_halyard_octet_table)] }
def OctetUnsealsSaid : Prop := octetUnsealsRow.holds Tryd.pinned (OpenSpec.ofChange octetUnsealsSpec)

/-- ITS FALSE NEIGHBOUR: 'it returns false'. Refute it at one input. -/
def octetUnsealsWrong : ChangeSpec := { name := "octetUnseals", fn := fun _ => fun
  | [d] => { results := [.lit (.bool false)], args := [d] }
  | _ => none }
def OctetUnsealsWrongFalsely : Prop := octetUnsealsRow.holds Tryd.pinned (OpenSpec.ofChange octetUnsealsWrong)

/-- 'halyardlaw01.OctetSeal': WHATEVER THE INPUT: true; the input reads as it did. -/
def octetSealSpec : ChangeSpec := { name := "octetSeal", fn := fun _ => fun
  | [d] => { results := [.lit (.bool true)], args := [d] }
  | _ => none }
def octetSealRow : OpenClaim := { program := "ytjhndppmpldfbaadoor", sum := "6527c7cd45f745d2473bd76aacccd2dcf95524aede73f33d7b5a766cfd00524a", func := "halyard/halyardlaw01.OctetSeal", spec := "octetSeal", unfollowed := true, recurses := true, named := ["halyard/octet.table"], apart := false, laid := [("halyard/octet.table", laid_halyard_octet_table)] }
def OctetSealSaid : Prop := octetSealRow.holds Tryd.pinned (OpenSpec.ofChange octetSealSpec)

/-- ITS FALSE NEIGHBOUR: 'it returns false'. Refute it at one input. -/
def octetSealWrong : ChangeSpec := { name := "octetSeal", fn := fun _ => fun
  | [d] => { results := [.lit (.bool false)], args := [d] }
  | _ => none }
def OctetSealWrongFalsely : Prop := octetSealRow.holds Tryd.pinned (OpenSpec.ofChange octetSealWrong)

/-- 'halyardlaw01.OctetBurst': WHATEVER THE INPUT: true; the input reads as it did. -/
def octetBurstSpec : ChangeSpec := { name := "octetBurst", fn := fun _ => fun
  | [d1, d2, d3] => { results := [.lit (.bool true)], args := [d1, d2, d3] }
  | _ => none }
def octetBurstRow : OpenClaim := { program := "ytjhndppmpldfbaadoor", sum := "6527c7cd45f745d2473bd76aacccd2dcf95524aede73f33d7b5a766cfd00524a", func := "halyard/halyardlaw01.OctetBurst", spec := "octetBurst", unfollowed := true, recurses := true, named := ["halyard/octet.table"], apart := false, laid := [("halyard/octet.table", laid_halyard_octet_table)] }
def OctetBurstSaid : Prop := octetBurstRow.holds Tryd.pinned (OpenSpec.ofChange octetBurstSpec)

/-- ITS FALSE NEIGHBOUR: 'it returns false'. Refute it at one input. -/
def octetBurstWrong : ChangeSpec := { name := "octetBurst", fn := fun _ => fun
  | [d1, d2, d3] => { results := [.lit (.bool false)], args := [d1, d2, d3] }
  | _ => none }
def OctetBurstWrongFalsely : Prop := octetBurstRow.holds Tryd.pinned (OpenSpec.ofChange octetBurstWrong)

/-- 'halyardlaw01.OctetOver': WHATEVER THE INPUT: true; the input reads as it did. -/
def octetOverSpec : ChangeSpec := { name := "octetOver", fn := fun _ => fun
  | [d1, d2] => { results := [.lit (.bool true)], args := [d1, d2] }
  | _ => none }
def octetOverRow : OpenClaim := { program := "ytjhndppmpldfbaadoor", sum := "6527c7cd45f745d2473bd76aacccd2dcf95524aede73f33d7b5a766cfd00524a", func := "halyard/halyardlaw01.OctetOver", spec := "octetOver", unfollowed := true, recurses := true, named := ["halyard/octet.table"], apart := false, laid := [("halyard/octet.table", laid_halyard_octet_table)] }
def OctetOverSaid : Prop := octetOverRow.holds Tryd.pinned (OpenSpec.ofChange octetOverSpec)

/-- ITS FALSE NEIGHBOUR: 'it returns false'. Refute it at one input. -/
def octetOverWrong : ChangeSpec := { name := "octetOver", fn := fun _ => fun
  | [d1, d2] => { results := [.lit (.bool false)], args := [d1, d2] }
  | _ => none }
def OctetOverWrongFalsely : Prop := octetOverRow.holds Tryd.pinned (OpenSpec.ofChange octetOverWrong)

/-- 'halyardlaw01.OctetBack': WHATEVER THE INPUT: true; the input reads as it did. -/
def octetBackSpec : ChangeSpec := { name := "octetBack", fn := fun _ => fun
  | [d] => { results := [.lit (.bool true)], args := [d] }
  | _ => none }
def octetBackRow : OpenClaim := { program := "ytjhndppmpldfbaadoor", sum := "6527c7cd45f745d2473bd76aacccd2dcf95524aede73f33d7b5a766cfd00524a", func := "halyard/halyardlaw01.OctetBack", spec := "octetBack", unfollowed := true, recurses := true, named := ["halyard/octet.table"], apart := false, laid := [("halyard/octet.table", laid_halyard_octet_table)] }
def OctetBackSaid : Prop := octetBackRow.holds Tryd.pinned (OpenSpec.ofChange octetBackSpec)

/-- ITS FALSE NEIGHBOUR: 'it returns false'. Refute it at one input. -/
def octetBackWrong : ChangeSpec := { name := "octetBack", fn := fun _ => fun
  | [d] => { results := [.lit (.bool false)], args := [d] }
  | _ => none }
def OctetBackWrongFalsely : Prop := octetBackRow.holds Tryd.pinned (OpenSpec.ofChange octetBackWrong)

/-- 'halyardlaw01.OctetNil': WHATEVER THE INPUT: true; the input reads as it did. -/
def octetNilSpec : ChangeSpec := { name := "octetNil", fn := fun _ => fun
  | [d1, d2] => { results := [.lit (.bool true)], args := [d1, d2] }
  | _ => none }
def octetNilRow : OpenClaim := { program := "ytjhndppmpldfbaadoor", sum := "6527c7cd45f745d2473bd76aacccd2dcf95524aede73f33d7b5a766cfd00524a", func := "halyard/halyardlaw01.OctetNil", spec := "octetNil", unfollowed := true, recurses := true, named := ["halyard/octet.table"], apart := false, laid := [("halyard/octet.table", laid_halyard_octet_table)] }
def OctetNilSaid : Prop := octetNilRow.holds Tryd.pinned (OpenSpec.ofChange octetNilSpec)

/-- ITS FALSE NEIGHBOUR: 'it returns false'. Refute it at one input. -/
def octetNilWrong : ChangeSpec := { name := "octetNil", fn := fun _ => fun
  | [d1, d2] => { results := [.lit (.bool false)], args := [d1, d2] }
  | _ => none }
def OctetNilWrongFalsely : Prop := octetNilRow.holds Tryd.pinned (OpenSpec.ofChange octetNilWrong)

/-- 'halyardlaw01.OctetOwn': WHATEVER THE INPUT: true; the input reads as it did. -/
def octetOwnSpec : ChangeSpec := { name := "octetOwn", fn := fun _ => fun
  | [d1, d2, d3, d4, d5] => { results := [.lit (.bool true)], args := [d1, d2, d3, d4, d5] }
  | _ => none }
def octetOwnRow : OpenClaim := { program := "ytjhndppmpldfbaadoor", sum := "6527c7cd45f745d2473bd76aacccd2dcf95524aede73f33d7b5a766cfd00524a", func := "halyard/halyardlaw01.OctetOwn", spec := "octetOwn", unfollowed := true, recurses := true, named := ["halyard/octet.table"], apart := false, laid := [("halyard/octet.table", laid_halyard_octet_table)] }
def OctetOwnSaid : Prop := octetOwnRow.holds Tryd.pinned (OpenSpec.ofChange octetOwnSpec)

/-- ITS FALSE NEIGHBOUR: 'it returns false'. Refute it at one input. -/
def octetOwnWrong : ChangeSpec := { name := "octetOwn", fn := fun _ => fun
  | [d1, d2, d3, d4, d5] => { results := [.lit (.bool false)], args := [d1, d2, d3, d4, d5] }
  | _ => none }
def OctetOwnWrongFalsely : Prop := octetOwnRow.holds Tryd.pinned (OpenSpec.ofChange octetOwnWrong)

/- THE SECOND FORM. 'bulk': how many values and letters a reading holds, each counted each time it is reached (what is shared counts as often as it is met; a slice's spare places count too). A statement '..UptoSaid' is the law's where the arguments, and the package variables that the reading takes, are together of bulk at most 1048576: NARROWER than '..Said'. Prove '..Said' where nothing that the law and all that it calls make is longer than what came in: it says more and counts as full. Else prove '..UptoSaid'. A law counts once. -/
mutual
def uptoBulk {H : Type} : DataW H → Nat
  | .lit (.string bytes) => bytes.length + 1
  | .lit _ => 1
  | .nil => 1
  | .ptr d => uptoBulk d + 1
  | .slice elems spare => uptoBulkAll elems + uptoBulkAll spare + 1
  | .agg parts => uptoBulkAll parts + 1
  | .iface _ d => uptoBulk d + 1
  | .map entries => uptoBulkEntries entries + 1
  | .held _ => 1
def uptoBulkAll {H : Type} : List (DataW H) → Nat
  | [] => 0
  | d :: r => uptoBulk d + uptoBulkAll r
def uptoBulkEntries {H : Type} : List (Lit × DataW H) → Nat
  | [] => 0
  | x :: r => uptoBulkEntry x + uptoBulkEntries r
def uptoBulkEntry {H : Type} : Lit × DataW H → Nat
  | (.string bytes, d) => bytes.length + uptoBulk d + 1
  | (_, d) => uptoBulk d + 1
 end
def uptoSmall : (H : Type) → List (DataW H) → Bool := fun _ ds => decide (uptoBulkAll ds ≤ 1048576)
def OpenSpec.upto (s : _root_.Go.ChangeSpec) : _root_.Go.OpenSpec := { _root_.Go.OpenSpec.ofChange s with cond := some uptoSmall }

/-- 'halyardlaw01.OctetSums', WHERE WHAT IT READS IS OF BULK AT MOST 1048576: true; the input reads as it did. -/
def octetSumsUptoRow : OpenClaim := { program := "ytjhndppmpldfbaadoor", sum := "6527c7cd45f745d2473bd76aacccd2dcf95524aede73f33d7b5a766cfd00524a", func := "halyard/halyardlaw01.OctetSums", spec := "octetSums", named := ["halyard/octet.table"], apart := false, laid := [("halyard/octet.table", laid_halyard_octet_table)], narrowed := true }
def OctetSumsUptoSaid : Prop := octetSumsUptoRow.holds Tryd.pinned (OpenSpec.upto octetSumsSpec)

/-- 'halyardlaw01.OctetNames', WHERE WHAT IT READS IS OF BULK AT MOST 1048576: true; the input reads as it did. -/
def octetNamesUptoRow : OpenClaim := { program := "ytjhndppmpldfbaadoor", sum := "6527c7cd45f745d2473bd76aacccd2dcf95524aede73f33d7b5a766cfd00524a", func := "halyard/halyardlaw01.OctetNames", spec := "octetNames", unfollowed := true, recurses := true, named := ["halyard/octet.table"], apart := false, laid := [("halyard/octet.table", laid_halyard_octet_table)], narrowed := true }
def OctetNamesUptoSaid : Prop := octetNamesUptoRow.holds Tryd.pinned (OpenSpec.upto octetNamesSpec)

/-- 'halyardlaw01.OctetNumbers', WHERE WHAT IT READS IS OF BULK AT MOST 1048576: true; the input reads as it did. -/
def octetNumbersUptoRow : OpenClaim := { program := "ytjhndppmpldfbaadoor", sum := "6527c7cd45f745d2473bd76aacccd2dcf95524aede73f33d7b5a766cfd00524a", func := "halyard/halyardlaw01.OctetNumbers", spec := "octetNumbers", unfollowed := true, recurses := true, named := ["halyard/octet.table"], apart := false, laid := [("halyard/octet.table", laid_halyard_octet_table)], narrowed := true }
def OctetNumbersUptoSaid : Prop := octetNumbersUptoRow.holds Tryd.pinned (OpenSpec.upto octetNumbersSpec)

/-- 'halyardlaw01.OctetOneWay', WHERE WHAT IT READS IS OF BULK AT MOST 1048576: true; the input reads as it did. -/
def octetOneWayUptoRow : OpenClaim := { program := "ytjhndppmpldfbaadoor", sum := "6527c7cd45f745d2473bd76aacccd2dcf95524aede73f33d7b5a766cfd00524a", func := "halyard/halyardlaw01.OctetOneWay", spec := "octetOneWay", unfollowed := true, recurses := true, named := ["halyard/octet.table"], apart := false, laid := [("halyard/octet.table", laid_halyard_octet_table)], narrowed := true }
def OctetOneWayUptoSaid : Prop := octetOneWayUptoRow.holds Tryd.pinned (OpenSpec.upto octetOneWaySpec)

/-- 'halyardlaw01.OctetBursts', WHERE WHAT IT READS IS OF BULK AT MOST 1048576: true; the input reads as it did. -/
def octetBurstsUptoRow : OpenClaim := { program := "ytjhndppmpldfbaadoor", sum := "6527c7cd45f745d2473bd76aacccd2dcf95524aede73f33d7b5a766cfd00524a", func := "halyard/halyardlaw01.OctetBursts", spec := "octetBursts", unfollowed := true, recurses := true, named := ["halyard/octet.table"], apart := false, laid := [("halyard/octet.table", laid_halyard_octet_table)], narrowed := true }
def OctetBurstsUptoSaid : Prop := octetBurstsUptoRow.holds Tryd.pinned (OpenSpec.upto octetBurstsSpec)

/-- 'halyardlaw01.OctetTwice', WHERE WHAT IT READS IS OF BULK AT MOST 1048576: true; the input reads as it did. -/
def octetTwiceUptoRow : OpenClaim := { program := "ytjhndppmpldfbaadoor", sum := "6527c7cd45f745d2473bd76aacccd2dcf95524aede73f33d7b5a766cfd00524a", func := "halyard/halyardlaw01.OctetTwice", spec := "octetTwice", unfollowed := true, recurses := true, named := ["halyard/octet.table"], apart := false, laid := [("halyard/octet.table", laid_halyard_octet_table)], narrowed := true }
def OctetTwiceUptoSaid : Prop := octetTwiceUptoRow.holds Tryd.pinned (OpenSpec.upto octetTwiceSpec)

/-- 'halyardlaw01.OctetUnseals', WHERE WHAT IT READS IS OF BULK AT MOST 1048576: true; the input reads as it did. -/
def octetUnsealsUptoRow : OpenClaim := { program := "ytjhndppmpldfbaadoor", sum := "6527c7cd45f745d2473bd76aacccd2dcf95524aede73f33d7b5a766cfd00524a", func := "halyard/halyardlaw01.OctetUnseals", spec := "octetUnseals", unfollowed := true, recurses := true, named := ["halyard/octet.table"], apart := false, laid := [("halyard/octet.table", laid_halyard_octet_table)], narrowed := true }
def OctetUnsealsUptoSaid : Prop := octetUnsealsUptoRow.holds Tryd.pinned (OpenSpec.upto octetUnsealsSpec)

/-- 'halyardlaw01.OctetSeal', WHERE WHAT IT READS IS OF BULK AT MOST 1048576: true; the input reads as it did. -/
def octetSealUptoRow : OpenClaim := { program := "ytjhndppmpldfbaadoor", sum := "6527c7cd45f745d2473bd76aacccd2dcf95524aede73f33d7b5a766cfd00524a", func := "halyard/halyardlaw01.OctetSeal", spec := "octetSeal", unfollowed := true, recurses := true, named := ["halyard/octet.table"], apart := false, laid := [("halyard/octet.table", laid_halyard_octet_table)], narrowed := true }
def OctetSealUptoSaid : Prop := octetSealUptoRow.holds Tryd.pinned (OpenSpec.upto octetSealSpec)

/-- 'halyardlaw01.OctetBurst', WHERE WHAT IT READS IS OF BULK AT MOST 1048576: true; the input reads as it did. -/
def octetBurstUptoRow : OpenClaim := { program := "ytjhndppmpldfbaadoor", sum := "6527c7cd45f745d2473bd76aacccd2dcf95524aede73f33d7b5a766cfd00524a", func := "halyard/halyardlaw01.OctetBurst", spec := "octetBurst", unfollowed := true, recurses := true, named := ["halyard/octet.table"], apart := false, laid := [("halyard/octet.table", laid_halyard_octet_table)], narrowed := true }
def OctetBurstUptoSaid : Prop := octetBurstUptoRow.holds Tryd.pinned (OpenSpec.upto octetBurstSpec)

/-- 'halyardlaw01.OctetOver', WHERE WHAT IT READS IS OF BULK AT MOST 1048576: true; the input reads as it did. -/
def octetOverUptoRow : OpenClaim := { program := "ytjhndppmpldfbaadoor", sum := "6527c7cd45f745d2473bd76aacccd2dcf95524aede73f33d7b5a766cfd00524a", func := "halyard/halyardlaw01.OctetOver", spec := "octetOver", unfollowed := true, recurses := true, named := ["halyard/octet.table"], apart := false, laid := [("halyard/octet.table", laid_halyard_octet_table)], narrowed := true }
def OctetOverUptoSaid : Prop := octetOverUptoRow.holds Tryd.pinned (OpenSpec.upto octetOverSpec)

/-- 'halyardlaw01.OctetBack', WHERE WHAT IT READS IS OF BULK AT MOST 1048576: true; the input reads as it did. -/
def octetBackUptoRow : OpenClaim := { program := "ytjhndppmpldfbaadoor", sum := "6527c7cd45f745d2473bd76aacccd2dcf95524aede73f33d7b5a766cfd00524a", func := "halyard/halyardlaw01.OctetBack", spec := "octetBack", unfollowed := true, recurses := true, named := ["halyard/octet.table"], apart := false, laid := [("halyard/octet.table", laid_halyard_octet_table)], narrowed := true }
def OctetBackUptoSaid : Prop := octetBackUptoRow.holds Tryd.pinned (OpenSpec.upto octetBackSpec)

/-- 'halyardlaw01.OctetNil', WHERE WHAT IT READS IS OF BULK AT MOST 1048576: true; the input reads as it did. -/
def octetNilUptoRow : OpenClaim := { program := "ytjhndppmpldfbaadoor", sum := "6527c7cd45f745d2473bd76aacccd2dcf95524aede73f33d7b5a766cfd00524a", func := "halyard/halyardlaw01.OctetNil", spec := "octetNil", unfollowed := true, recurses := true, named := ["halyard/octet.table"], apart := false, laid := [("halyard/octet.table", laid_halyard_octet_table)], narrowed := true }
def OctetNilUptoSaid : Prop := octetNilUptoRow.holds Tryd.pinned (OpenSpec.upto octetNilSpec)

/-- 'halyardlaw01.OctetOwn', WHERE WHAT IT READS IS OF BULK AT MOST 1048576: true; the input reads as it did. -/
def octetOwnUptoRow : OpenClaim := { program := "ytjhndppmpldfbaadoor", sum := "6527c7cd45f745d2473bd76aacccd2dcf95524aede73f33d7b5a766cfd00524a", func := "halyard/halyardlaw01.OctetOwn", spec := "octetOwn", unfollowed := true, recurses := true, named := ["halyard/octet.table"], apart := false, laid := [("halyard/octet.table", laid_halyard_octet_table)], narrowed := true }
def OctetOwnUptoSaid : Prop := octetOwnUptoRow.holds Tryd.pinned (OpenSpec.upto octetOwnSpec)

end Rows
end Go.Proofs.YtjhndppmpldfbaaDoor
