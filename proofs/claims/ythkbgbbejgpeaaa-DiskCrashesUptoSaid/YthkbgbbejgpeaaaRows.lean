/-
  No cell of these rows narrows 'for every input' (looked for: loops, veiled, ifaces, maps, wideKeys, modest, calm, conditions, laid).
  DERIVED. THE GIVEN ROWS OF THIS SEAT. 17 by the template 'for every input the law returns true; each argument reads behind the call as it read before'; 0 by the template 'total and deterministic' (their statements: YthkbgbbejgpeaaaTotals.lean).
  GIVEN WITH THE SEED: the statements are not yours to turn. If you find one false, say at which input.
  Laid BY PROGRAM, IN A SANDBOX (cutbox-rows.mjs): the forced cells as the released guide's own fill.sh prints them over the translation 255826f7a3c20f24… (all of the seat's roots in one cut). By AI agents, Wed Nov 11 2026. No macro, syntax, notation, axiom, sorry.
-/
import Derived.Test.YthkbgbbejgpeaaaChecked
import GoSem.Claim
import GoSem.ClaimJoined
import GoSem.ClaimMapViews
import Derived.JoinedTies
import Derived.KernelRfl
namespace Go.Proofs.Ythkbgbbejgpeaaa
/- THE CELL 'sum', in the pinned program and in every row, IS THE sha256 OF THE DUMP (.gsa) THAT YthkbgbbejgpeaaaProg.lean LOADS. Nothing in Lean hashes anything: it is a label: what it is worth is what the hold of that sum in a sandbox is worth. -/
noncomputable def Try.pinned : Pinned := { name := "ythkbgbbejgpeaaa", sum := "255826f7a3c20f244476b04593bd06a7b59737f5279da1925c6ef11909d80e81", checked := Try.checked }
namespace Rows
def none {H : Type} : Left H := { results := [], args := [] }

/-- 'halyardlaw04.DiskNames': WHATEVER THE INPUT: true; the input reads as it did. -/
def diskNamesSpec : ChangeSpec := { name := "diskNames", fn := fun _ => fun
  | [] => { results := [.lit (.bool true)], args := [] }
  | _ => none }
def diskNamesRow : OpenClaim := { program := "ythkbgbbejgpeaaa", sum := "255826f7a3c20f244476b04593bd06a7b59737f5279da1925c6ef11909d80e81", func := "halyard/halyardlaw04.DiskNames", spec := "diskNames", apart := false }
def DiskNamesSaid : Prop := diskNamesRow.holds Try.pinned (OpenSpec.ofChange diskNamesSpec)

/-- ITS FALSE NEIGHBOUR: 'it returns false'. Refute it at one input. -/
def diskNamesWrong : ChangeSpec := { name := "diskNames", fn := fun _ => fun
  | [] => { results := [.lit (.bool false)], args := [] }
  | _ => none }
def DiskNamesWrongFalsely : Prop := diskNamesRow.holds Try.pinned (OpenSpec.ofChange diskNamesWrong)

/-- 'halyardlaw04.DiskImages': WHATEVER THE INPUT: true; the input reads as it did. -/
def diskImagesSpec : ChangeSpec := { name := "diskImages", fn := fun _ => fun
  | [d1, d2, d3] => { results := [.lit (.bool true)], args := [d1, d2, d3] }
  | _ => none }
def diskImagesRow : OpenClaim := { program := "ythkbgbbejgpeaaa", sum := "255826f7a3c20f244476b04593bd06a7b59737f5279da1925c6ef11909d80e81", func := "halyard/halyardlaw04.DiskImages", spec := "diskImages", apart := false }
def DiskImagesSaid : Prop := diskImagesRow.holds Try.pinned (OpenSpec.ofChange diskImagesSpec)

/-- ITS FALSE NEIGHBOUR: 'it returns false'. Refute it at one input. -/
def diskImagesWrong : ChangeSpec := { name := "diskImages", fn := fun _ => fun
  | [d1, d2, d3] => { results := [.lit (.bool false)], args := [d1, d2, d3] }
  | _ => none }
def DiskImagesWrongFalsely : Prop := diskImagesRow.holds Try.pinned (OpenSpec.ofChange diskImagesWrong)

/-- 'halyardlaw04.DiskSizes': WHATEVER THE INPUT: true; the input reads as it did. -/
def diskSizesSpec : ChangeSpec := { name := "diskSizes", fn := fun _ => fun
  | [] => { results := [.lit (.bool true)], args := [] }
  | _ => none }
def diskSizesRow : OpenClaim := { program := "ythkbgbbejgpeaaa", sum := "255826f7a3c20f244476b04593bd06a7b59737f5279da1925c6ef11909d80e81", func := "halyard/halyardlaw04.DiskSizes", spec := "diskSizes", apart := false }
def DiskSizesSaid : Prop := diskSizesRow.holds Try.pinned (OpenSpec.ofChange diskSizesSpec)

/-- ITS FALSE NEIGHBOUR: 'it returns false'. Refute it at one input. -/
def diskSizesWrong : ChangeSpec := { name := "diskSizes", fn := fun _ => fun
  | [] => { results := [.lit (.bool false)], args := [] }
  | _ => none }
def DiskSizesWrongFalsely : Prop := diskSizesRow.holds Try.pinned (OpenSpec.ofChange diskSizesWrong)

/-- 'halyardlaw04.DiskNews': WHATEVER THE INPUT: true; the input reads as it did. -/
def diskNewsSpec : ChangeSpec := { name := "diskNews", fn := fun _ => fun
  | [d1, d2] => { results := [.lit (.bool true)], args := [d1, d2] }
  | _ => none }
def diskNewsRow : OpenClaim := { program := "ythkbgbbejgpeaaa", sum := "255826f7a3c20f244476b04593bd06a7b59737f5279da1925c6ef11909d80e81", func := "halyard/halyardlaw04.DiskNews", spec := "diskNews", recurses := true, apart := false }
def DiskNewsSaid : Prop := diskNewsRow.holds Try.pinned (OpenSpec.ofChange diskNewsSpec)

/-- ITS FALSE NEIGHBOUR: 'it returns false'. Refute it at one input. -/
def diskNewsWrong : ChangeSpec := { name := "diskNews", fn := fun _ => fun
  | [d1, d2] => { results := [.lit (.bool false)], args := [d1, d2] }
  | _ => none }
def DiskNewsWrongFalsely : Prop := diskNewsRow.holds Try.pinned (OpenSpec.ofChange diskNewsWrong)

/-- 'halyardlaw04.DiskApart': WHATEVER THE INPUT: true; the input reads as it did. -/
def diskApartSpec : ChangeSpec := { name := "diskApart", fn := fun _ => fun
  | [d1, d2, d3] => { results := [.lit (.bool true)], args := [d1, d2, d3] }
  | _ => none }
def diskApartRow : OpenClaim := { program := "ythkbgbbejgpeaaa", sum := "255826f7a3c20f244476b04593bd06a7b59737f5279da1925c6ef11909d80e81", func := "halyard/halyardlaw04.DiskApart", spec := "diskApart", recurses := true, apart := false }
def DiskApartSaid : Prop := diskApartRow.holds Try.pinned (OpenSpec.ofChange diskApartSpec)

/-- ITS FALSE NEIGHBOUR: 'it returns false'. Refute it at one input. -/
def diskApartWrong : ChangeSpec := { name := "diskApart", fn := fun _ => fun
  | [d1, d2, d3] => { results := [.lit (.bool false)], args := [d1, d2, d3] }
  | _ => none }
def DiskApartWrongFalsely : Prop := diskApartRow.holds Try.pinned (OpenSpec.ofChange diskApartWrong)

/-- 'halyardlaw04.DiskPicks': WHATEVER THE INPUT: true; the input reads as it did. -/
def diskPicksSpec : ChangeSpec := { name := "diskPicks", fn := fun _ => fun
  | [d1, d2] => { results := [.lit (.bool true)], args := [d1, d2] }
  | _ => none }
def diskPicksRow : OpenClaim := { program := "ythkbgbbejgpeaaa", sum := "255826f7a3c20f244476b04593bd06a7b59737f5279da1925c6ef11909d80e81", func := "halyard/halyardlaw04.DiskPicks", spec := "diskPicks", recurses := true, apart := false }
def DiskPicksSaid : Prop := diskPicksRow.holds Try.pinned (OpenSpec.ofChange diskPicksSpec)

/-- ITS FALSE NEIGHBOUR: 'it returns false'. Refute it at one input. -/
def diskPicksWrong : ChangeSpec := { name := "diskPicks", fn := fun _ => fun
  | [d1, d2] => { results := [.lit (.bool false)], args := [d1, d2] }
  | _ => none }
def DiskPicksWrongFalsely : Prop := diskPicksRow.holds Try.pinned (OpenSpec.ofChange diskPicksWrong)

/-- 'halyardlaw04.DiskDirties': WHATEVER THE INPUT: true; the input reads as it did. -/
def diskDirtiesSpec : ChangeSpec := { name := "diskDirties", fn := fun _ => fun
  | [d1, d2] => { results := [.lit (.bool true)], args := [d1, d2] }
  | _ => none }
def diskDirtiesRow : OpenClaim := { program := "ythkbgbbejgpeaaa", sum := "255826f7a3c20f244476b04593bd06a7b59737f5279da1925c6ef11909d80e81", func := "halyard/halyardlaw04.DiskDirties", spec := "diskDirties", recurses := true, apart := false }
def DiskDirtiesSaid : Prop := diskDirtiesRow.holds Try.pinned (OpenSpec.ofChange diskDirtiesSpec)

/-- ITS FALSE NEIGHBOUR: 'it returns false'. Refute it at one input. -/
def diskDirtiesWrong : ChangeSpec := { name := "diskDirties", fn := fun _ => fun
  | [d1, d2] => { results := [.lit (.bool false)], args := [d1, d2] }
  | _ => none }
def DiskDirtiesWrongFalsely : Prop := diskDirtiesRow.holds Try.pinned (OpenSpec.ofChange diskDirtiesWrong)

/-- 'halyardlaw04.DiskFresh': WHATEVER THE INPUT: true; the input reads as it did. -/
def diskFreshSpec : ChangeSpec := { name := "diskFresh", fn := fun _ => fun
  | [d1, d2, d3, d4, d5] => { results := [.lit (.bool true)], args := [d1, d2, d3, d4, d5] }
  | _ => none }
def diskFreshRow : OpenClaim := { program := "ythkbgbbejgpeaaa", sum := "255826f7a3c20f244476b04593bd06a7b59737f5279da1925c6ef11909d80e81", func := "halyard/halyardlaw04.DiskFresh", spec := "diskFresh", recurses := true, apart := false }
def DiskFreshSaid : Prop := diskFreshRow.holds Try.pinned (OpenSpec.ofChange diskFreshSpec)

/-- ITS FALSE NEIGHBOUR: 'it returns false'. Refute it at one input. -/
def diskFreshWrong : ChangeSpec := { name := "diskFresh", fn := fun _ => fun
  | [d1, d2, d3, d4, d5] => { results := [.lit (.bool false)], args := [d1, d2, d3, d4, d5] }
  | _ => none }
def DiskFreshWrongFalsely : Prop := diskFreshRow.holds Try.pinned (OpenSpec.ofChange diskFreshWrong)

/-- 'halyardlaw04.DiskLasts': WHATEVER THE INPUT: true; the input reads as it did. -/
def diskLastsSpec : ChangeSpec := { name := "diskLasts", fn := fun _ => fun
  | [d1, d2, d3] => { results := [.lit (.bool true)], args := [d1, d2, d3] }
  | _ => none }
def diskLastsRow : OpenClaim := { program := "ythkbgbbejgpeaaa", sum := "255826f7a3c20f244476b04593bd06a7b59737f5279da1925c6ef11909d80e81", func := "halyard/halyardlaw04.DiskLasts", spec := "diskLasts", recurses := true, apart := false }
def DiskLastsSaid : Prop := diskLastsRow.holds Try.pinned (OpenSpec.ofChange diskLastsSpec)

/-- ITS FALSE NEIGHBOUR: 'it returns false'. Refute it at one input. -/
def diskLastsWrong : ChangeSpec := { name := "diskLasts", fn := fun _ => fun
  | [d1, d2, d3] => { results := [.lit (.bool false)], args := [d1, d2, d3] }
  | _ => none }
def DiskLastsWrongFalsely : Prop := diskLastsRow.holds Try.pinned (OpenSpec.ofChange diskLastsWrong)

/-- 'halyardlaw04.DiskOwn': WHATEVER THE INPUT: true; the input reads as it did. -/
def diskOwnSpec : ChangeSpec := { name := "diskOwn", fn := fun _ => fun
  | [d1, d2, d3, d4] => { results := [.lit (.bool true)], args := [d1, d2, d3, d4] }
  | _ => none }
def diskOwnRow : OpenClaim := { program := "ythkbgbbejgpeaaa", sum := "255826f7a3c20f244476b04593bd06a7b59737f5279da1925c6ef11909d80e81", func := "halyard/halyardlaw04.DiskOwn", spec := "diskOwn", recurses := true, apart := false }
def DiskOwnSaid : Prop := diskOwnRow.holds Try.pinned (OpenSpec.ofChange diskOwnSpec)

/-- ITS FALSE NEIGHBOUR: 'it returns false'. Refute it at one input. -/
def diskOwnWrong : ChangeSpec := { name := "diskOwn", fn := fun _ => fun
  | [d1, d2, d3, d4] => { results := [.lit (.bool false)], args := [d1, d2, d3, d4] }
  | _ => none }
def DiskOwnWrongFalsely : Prop := diskOwnRow.holds Try.pinned (OpenSpec.ofChange diskOwnWrong)

/-- 'halyardlaw04.DiskCuts': WHATEVER THE INPUT: true; the input reads as it did. -/
def diskCutsSpec : ChangeSpec := { name := "diskCuts", fn := fun _ => fun
  | [d1, d2, d3, d4] => { results := [.lit (.bool true)], args := [d1, d2, d3, d4] }
  | _ => none }
def diskCutsRow : OpenClaim := { program := "ythkbgbbejgpeaaa", sum := "255826f7a3c20f244476b04593bd06a7b59737f5279da1925c6ef11909d80e81", func := "halyard/halyardlaw04.DiskCuts", spec := "diskCuts", recurses := true, apart := false }
def DiskCutsSaid : Prop := diskCutsRow.holds Try.pinned (OpenSpec.ofChange diskCutsSpec)

/-- ITS FALSE NEIGHBOUR: 'it returns false'. Refute it at one input. -/
def diskCutsWrong : ChangeSpec := { name := "diskCuts", fn := fun _ => fun
  | [d1, d2, d3, d4] => { results := [.lit (.bool false)], args := [d1, d2, d3, d4] }
  | _ => none }
def DiskCutsWrongFalsely : Prop := diskCutsRow.holds Try.pinned (OpenSpec.ofChange diskCutsWrong)

/-- 'halyardlaw04.DiskNil': WHATEVER THE INPUT: true; the input reads as it did. -/
def diskNilSpec : ChangeSpec := { name := "diskNil", fn := fun _ => fun
  | [] => { results := [.lit (.bool true)], args := [] }
  | _ => none }
def diskNilRow : OpenClaim := { program := "ythkbgbbejgpeaaa", sum := "255826f7a3c20f244476b04593bd06a7b59737f5279da1925c6ef11909d80e81", func := "halyard/halyardlaw04.DiskNil", spec := "diskNil", recurses := true, apart := false }
def DiskNilSaid : Prop := diskNilRow.holds Try.pinned (OpenSpec.ofChange diskNilSpec)

/-- ITS FALSE NEIGHBOUR: 'it returns false'. Refute it at one input. -/
def diskNilWrong : ChangeSpec := { name := "diskNil", fn := fun _ => fun
  | [] => { results := [.lit (.bool false)], args := [] }
  | _ => none }
def DiskNilWrongFalsely : Prop := diskNilRow.holds Try.pinned (OpenSpec.ofChange diskNilWrong)

/-- 'halyardlaw04.DiskSame': WHATEVER THE INPUT: true; the input reads as it did. -/
def diskSameSpec : ChangeSpec := { name := "diskSame", fn := fun _ => fun
  | [d1, d2, d3] => { results := [.lit (.bool true)], args := [d1, d2, d3] }
  | _ => none }
def diskSameRow : OpenClaim := { program := "ythkbgbbejgpeaaa", sum := "255826f7a3c20f244476b04593bd06a7b59737f5279da1925c6ef11909d80e81", func := "halyard/halyardlaw04.DiskSame", spec := "diskSame", recurses := true, apart := false }
def DiskSameSaid : Prop := diskSameRow.holds Try.pinned (OpenSpec.ofChange diskSameSpec)

/-- ITS FALSE NEIGHBOUR: 'it returns false'. Refute it at one input. -/
def diskSameWrong : ChangeSpec := { name := "diskSame", fn := fun _ => fun
  | [d1, d2, d3] => { results := [.lit (.bool false)], args := [d1, d2, d3] }
  | _ => none }
def DiskSameWrongFalsely : Prop := diskSameRow.holds Try.pinned (OpenSpec.ofChange diskSameWrong)

/-- 'halyardlaw04.DiskReads': WHATEVER THE INPUT: true; the input reads as it did. -/
def diskReadsSpec : ChangeSpec := { name := "diskReads", fn := fun _ => fun
  | [d1, d2] => { results := [.lit (.bool true)], args := [d1, d2] }
  | _ => none }
def diskReadsRow : OpenClaim := { program := "ythkbgbbejgpeaaa", sum := "255826f7a3c20f244476b04593bd06a7b59737f5279da1925c6ef11909d80e81", func := "halyard/halyardlaw04.DiskReads", spec := "diskReads", recurses := true, apart := false }
def DiskReadsSaid : Prop := diskReadsRow.holds Try.pinned (OpenSpec.ofChange diskReadsSpec)

/-- ITS FALSE NEIGHBOUR: 'it returns false'. Refute it at one input. -/
def diskReadsWrong : ChangeSpec := { name := "diskReads", fn := fun _ => fun
  | [d1, d2] => { results := [.lit (.bool false)], args := [d1, d2] }
  | _ => none }
def DiskReadsWrongFalsely : Prop := diskReadsRow.holds Try.pinned (OpenSpec.ofChange diskReadsWrong)

/-- 'halyardlaw04.DiskWrites': WHATEVER THE INPUT: true; the input reads as it did. -/
def diskWritesSpec : ChangeSpec := { name := "diskWrites", fn := fun _ => fun
  | [d1, d2] => { results := [.lit (.bool true)], args := [d1, d2] }
  | _ => none }
def diskWritesRow : OpenClaim := { program := "ythkbgbbejgpeaaa", sum := "255826f7a3c20f244476b04593bd06a7b59737f5279da1925c6ef11909d80e81", func := "halyard/halyardlaw04.DiskWrites", spec := "diskWrites", recurses := true, apart := false }
def DiskWritesSaid : Prop := diskWritesRow.holds Try.pinned (OpenSpec.ofChange diskWritesSpec)

/-- ITS FALSE NEIGHBOUR: 'it returns false'. Refute it at one input. -/
def diskWritesWrong : ChangeSpec := { name := "diskWrites", fn := fun _ => fun
  | [d1, d2] => { results := [.lit (.bool false)], args := [d1, d2] }
  | _ => none }
def DiskWritesWrongFalsely : Prop := diskWritesRow.holds Try.pinned (OpenSpec.ofChange diskWritesWrong)

/-- 'halyardlaw04.DiskCrashes': WHATEVER THE INPUT: true; the input reads as it did. -/
def diskCrashesSpec : ChangeSpec := { name := "diskCrashes", fn := fun _ => fun
  | [d1, d2] => { results := [.lit (.bool true)], args := [d1, d2] }
  | _ => none }
def diskCrashesRow : OpenClaim := { program := "ythkbgbbejgpeaaa", sum := "255826f7a3c20f244476b04593bd06a7b59737f5279da1925c6ef11909d80e81", func := "halyard/halyardlaw04.DiskCrashes", spec := "diskCrashes", recurses := true, apart := false }
def DiskCrashesSaid : Prop := diskCrashesRow.holds Try.pinned (OpenSpec.ofChange diskCrashesSpec)

/-- ITS FALSE NEIGHBOUR: 'it returns false'. Refute it at one input. -/
def diskCrashesWrong : ChangeSpec := { name := "diskCrashes", fn := fun _ => fun
  | [d1, d2] => { results := [.lit (.bool false)], args := [d1, d2] }
  | _ => none }
def DiskCrashesWrongFalsely : Prop := diskCrashesRow.holds Try.pinned (OpenSpec.ofChange diskCrashesWrong)

/-- 'halyardlaw04.DiskAll': WHATEVER THE INPUT: true; the input reads as it did. -/
def diskAllSpec : ChangeSpec := { name := "diskAll", fn := fun _ => fun
  | [d1, d2] => { results := [.lit (.bool true)], args := [d1, d2] }
  | _ => none }
def diskAllRow : OpenClaim := { program := "ythkbgbbejgpeaaa", sum := "255826f7a3c20f244476b04593bd06a7b59737f5279da1925c6ef11909d80e81", func := "halyard/halyardlaw04.DiskAll", spec := "diskAll", recurses := true, apart := false }
def DiskAllSaid : Prop := diskAllRow.holds Try.pinned (OpenSpec.ofChange diskAllSpec)

/-- ITS FALSE NEIGHBOUR: 'it returns false'. Refute it at one input. -/
def diskAllWrong : ChangeSpec := { name := "diskAll", fn := fun _ => fun
  | [d1, d2] => { results := [.lit (.bool false)], args := [d1, d2] }
  | _ => none }
def DiskAllWrongFalsely : Prop := diskAllRow.holds Try.pinned (OpenSpec.ofChange diskAllWrong)

/- THE SECOND FORM. 'bulk': how many values and letters a reading holds, each counted each time it is reached (what is shared counts as often as it is met; a slice's spare places count too). A statement '..UptoSaid' is the law's where the arguments, and the package variables that the reading takes, are together of bulk at most 1048576: NARROWER than '..Said'. Prove '..Said' where nothing that the law and all that it calls make is longer than what came in: it says more and counts as full. Else prove '..UptoSaid'. A law counts once. -/
mutual
def uptoBulk {H : Type} : DataW H → Nat
  | .lit (.string bytes) => bytes.length + 1
  | .lit _ => 1
  | .nil => 1
  | .ptr d => uptoBulk d + 1
  | .slice elems spare => uptoBulkAll elems + uptoBulkAll spare + 1
  | .agg parts => uptoBulkAll parts + 1
  | .iface _ d => uptoBulk d + 1
  | .map entries => uptoBulkEntries entries + 1
  | .held _ => 1
def uptoBulkAll {H : Type} : List (DataW H) → Nat
  | [] => 0
  | d :: r => uptoBulk d + uptoBulkAll r
def uptoBulkEntries {H : Type} : List (Lit × DataW H) → Nat
  | [] => 0
  | x :: r => uptoBulkEntry x + uptoBulkEntries r
def uptoBulkEntry {H : Type} : Lit × DataW H → Nat
  | (.string bytes, d) => bytes.length + uptoBulk d + 1
  | (_, d) => uptoBulk d + 1
 end
def uptoSmall : (H : Type) → List (DataW H) → Bool := fun _ ds => decide (uptoBulkAll ds ≤ 1048576)
def OpenSpec.upto (s : _root_.Go.ChangeSpec) : _root_.Go.OpenSpec := { _root_.Go.OpenSpec.ofChange s with cond := some uptoSmall }

/-- 'halyardlaw04.DiskNames', WHERE WHAT IT READS IS OF BULK AT MOST 1048576: true; the input reads as it did. -/
def diskNamesUptoRow : OpenClaim := { program := "ythkbgbbejgpeaaa", sum := "255826f7a3c20f244476b04593bd06a7b59737f5279da1925c6ef11909d80e81", func := "halyard/halyardlaw04.DiskNames", spec := "diskNames", apart := false, narrowed := true }
def DiskNamesUptoSaid : Prop := diskNamesUptoRow.holds Try.pinned (OpenSpec.upto diskNamesSpec)

/-- 'halyardlaw04.DiskImages', WHERE WHAT IT READS IS OF BULK AT MOST 1048576: true; the input reads as it did. -/
def diskImagesUptoRow : OpenClaim := { program := "ythkbgbbejgpeaaa", sum := "255826f7a3c20f244476b04593bd06a7b59737f5279da1925c6ef11909d80e81", func := "halyard/halyardlaw04.DiskImages", spec := "diskImages", apart := false, narrowed := true }
def DiskImagesUptoSaid : Prop := diskImagesUptoRow.holds Try.pinned (OpenSpec.upto diskImagesSpec)

/-- 'halyardlaw04.DiskSizes', WHERE WHAT IT READS IS OF BULK AT MOST 1048576: true; the input reads as it did. -/
def diskSizesUptoRow : OpenClaim := { program := "ythkbgbbejgpeaaa", sum := "255826f7a3c20f244476b04593bd06a7b59737f5279da1925c6ef11909d80e81", func := "halyard/halyardlaw04.DiskSizes", spec := "diskSizes", apart := false, narrowed := true }
def DiskSizesUptoSaid : Prop := diskSizesUptoRow.holds Try.pinned (OpenSpec.upto diskSizesSpec)

/-- 'halyardlaw04.DiskNews', WHERE WHAT IT READS IS OF BULK AT MOST 1048576: true; the input reads as it did. -/
def diskNewsUptoRow : OpenClaim := { program := "ythkbgbbejgpeaaa", sum := "255826f7a3c20f244476b04593bd06a7b59737f5279da1925c6ef11909d80e81", func := "halyard/halyardlaw04.DiskNews", spec := "diskNews", recurses := true, apart := false, narrowed := true }
def DiskNewsUptoSaid : Prop := diskNewsUptoRow.holds Try.pinned (OpenSpec.upto diskNewsSpec)

/-- 'halyardlaw04.DiskApart', WHERE WHAT IT READS IS OF BULK AT MOST 1048576: true; the input reads as it did. -/
def diskApartUptoRow : OpenClaim := { program := "ythkbgbbejgpeaaa", sum := "255826f7a3c20f244476b04593bd06a7b59737f5279da1925c6ef11909d80e81", func := "halyard/halyardlaw04.DiskApart", spec := "diskApart", recurses := true, apart := false, narrowed := true }
def DiskApartUptoSaid : Prop := diskApartUptoRow.holds Try.pinned (OpenSpec.upto diskApartSpec)

/-- 'halyardlaw04.DiskPicks', WHERE WHAT IT READS IS OF BULK AT MOST 1048576: true; the input reads as it did. -/
def diskPicksUptoRow : OpenClaim := { program := "ythkbgbbejgpeaaa", sum := "255826f7a3c20f244476b04593bd06a7b59737f5279da1925c6ef11909d80e81", func := "halyard/halyardlaw04.DiskPicks", spec := "diskPicks", recurses := true, apart := false, narrowed := true }
def DiskPicksUptoSaid : Prop := diskPicksUptoRow.holds Try.pinned (OpenSpec.upto diskPicksSpec)

/-- 'halyardlaw04.DiskDirties', WHERE WHAT IT READS IS OF BULK AT MOST 1048576: true; the input reads as it did. -/
def diskDirtiesUptoRow : OpenClaim := { program := "ythkbgbbejgpeaaa", sum := "255826f7a3c20f244476b04593bd06a7b59737f5279da1925c6ef11909d80e81", func := "halyard/halyardlaw04.DiskDirties", spec := "diskDirties", recurses := true, apart := false, narrowed := true }
def DiskDirtiesUptoSaid : Prop := diskDirtiesUptoRow.holds Try.pinned (OpenSpec.upto diskDirtiesSpec)

/-- 'halyardlaw04.DiskFresh', WHERE WHAT IT READS IS OF BULK AT MOST 1048576: true; the input reads as it did. -/
def diskFreshUptoRow : OpenClaim := { program := "ythkbgbbejgpeaaa", sum := "255826f7a3c20f244476b04593bd06a7b59737f5279da1925c6ef11909d80e81", func := "halyard/halyardlaw04.DiskFresh", spec := "diskFresh", recurses := true, apart := false, narrowed := true }
def DiskFreshUptoSaid : Prop := diskFreshUptoRow.holds Try.pinned (OpenSpec.upto diskFreshSpec)

/-- 'halyardlaw04.DiskLasts', WHERE WHAT IT READS IS OF BULK AT MOST 1048576: true; the input reads as it did. -/
def diskLastsUptoRow : OpenClaim := { program := "ythkbgbbejgpeaaa", sum := "255826f7a3c20f244476b04593bd06a7b59737f5279da1925c6ef11909d80e81", func := "halyard/halyardlaw04.DiskLasts", spec := "diskLasts", recurses := true, apart := false, narrowed := true }
def DiskLastsUptoSaid : Prop := diskLastsUptoRow.holds Try.pinned (OpenSpec.upto diskLastsSpec)

/-- 'halyardlaw04.DiskOwn', WHERE WHAT IT READS IS OF BULK AT MOST 1048576: true; the input reads as it did. -/
def diskOwnUptoRow : OpenClaim := { program := "ythkbgbbejgpeaaa", sum := "255826f7a3c20f244476b04593bd06a7b59737f5279da1925c6ef11909d80e81", func := "halyard/halyardlaw04.DiskOwn", spec := "diskOwn", recurses := true, apart := false, narrowed := true }
def DiskOwnUptoSaid : Prop := diskOwnUptoRow.holds Try.pinned (OpenSpec.upto diskOwnSpec)

/-- 'halyardlaw04.DiskCuts', WHERE WHAT IT READS IS OF BULK AT MOST 1048576: true; the input reads as it did. -/
def diskCutsUptoRow : OpenClaim := { program := "ythkbgbbejgpeaaa", sum := "255826f7a3c20f244476b04593bd06a7b59737f5279da1925c6ef11909d80e81", func := "halyard/halyardlaw04.DiskCuts", spec := "diskCuts", recurses := true, apart := false, narrowed := true }
def DiskCutsUptoSaid : Prop := diskCutsUptoRow.holds Try.pinned (OpenSpec.upto diskCutsSpec)

/-- 'halyardlaw04.DiskNil', WHERE WHAT IT READS IS OF BULK AT MOST 1048576: true; the input reads as it did. -/
def diskNilUptoRow : OpenClaim := { program := "ythkbgbbejgpeaaa", sum := "255826f7a3c20f244476b04593bd06a7b59737f5279da1925c6ef11909d80e81", func := "halyard/halyardlaw04.DiskNil", spec := "diskNil", recurses := true, apart := false, narrowed := true }
def DiskNilUptoSaid : Prop := diskNilUptoRow.holds Try.pinned (OpenSpec.upto diskNilSpec)

/-- 'halyardlaw04.DiskSame', WHERE WHAT IT READS IS OF BULK AT MOST 1048576: true; the input reads as it did. -/
def diskSameUptoRow : OpenClaim := { program := "ythkbgbbejgpeaaa", sum := "255826f7a3c20f244476b04593bd06a7b59737f5279da1925c6ef11909d80e81", func := "halyard/halyardlaw04.DiskSame", spec := "diskSame", recurses := true, apart := false, narrowed := true }
def DiskSameUptoSaid : Prop := diskSameUptoRow.holds Try.pinned (OpenSpec.upto diskSameSpec)

/-- 'halyardlaw04.DiskReads', WHERE WHAT IT READS IS OF BULK AT MOST 1048576: true; the input reads as it did. -/
def diskReadsUptoRow : OpenClaim := { program := "ythkbgbbejgpeaaa", sum := "255826f7a3c20f244476b04593bd06a7b59737f5279da1925c6ef11909d80e81", func := "halyard/halyardlaw04.DiskReads", spec := "diskReads", recurses := true, apart := false, narrowed := true }
def DiskReadsUptoSaid : Prop := diskReadsUptoRow.holds Try.pinned (OpenSpec.upto diskReadsSpec)

/-- 'halyardlaw04.DiskWrites', WHERE WHAT IT READS IS OF BULK AT MOST 1048576: true; the input reads as it did. -/
def diskWritesUptoRow : OpenClaim := { program := "ythkbgbbejgpeaaa", sum := "255826f7a3c20f244476b04593bd06a7b59737f5279da1925c6ef11909d80e81", func := "halyard/halyardlaw04.DiskWrites", spec := "diskWrites", recurses := true, apart := false, narrowed := true }
def DiskWritesUptoSaid : Prop := diskWritesUptoRow.holds Try.pinned (OpenSpec.upto diskWritesSpec)

/-- 'halyardlaw04.DiskCrashes', WHERE WHAT IT READS IS OF BULK AT MOST 1048576: true; the input reads as it did. -/
def diskCrashesUptoRow : OpenClaim := { program := "ythkbgbbejgpeaaa", sum := "255826f7a3c20f244476b04593bd06a7b59737f5279da1925c6ef11909d80e81", func := "halyard/halyardlaw04.DiskCrashes", spec := "diskCrashes", recurses := true, apart := false, narrowed := true }
def DiskCrashesUptoSaid : Prop := diskCrashesUptoRow.holds Try.pinned (OpenSpec.upto diskCrashesSpec)

/-- 'halyardlaw04.DiskAll', WHERE WHAT IT READS IS OF BULK AT MOST 1048576: true; the input reads as it did. -/
def diskAllUptoRow : OpenClaim := { program := "ythkbgbbejgpeaaa", sum := "255826f7a3c20f244476b04593bd06a7b59737f5279da1925c6ef11909d80e81", func := "halyard/halyardlaw04.DiskAll", spec := "diskAll", recurses := true, apart := false, narrowed := true }
def DiskAllUptoSaid : Prop := diskAllUptoRow.holds Try.pinned (OpenSpec.upto diskAllSpec)

end Rows
end Go.Proofs.Ythkbgbbejgpeaaa
