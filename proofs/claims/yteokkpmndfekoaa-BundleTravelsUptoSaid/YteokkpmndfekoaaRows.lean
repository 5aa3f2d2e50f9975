/-
  No cell of these rows narrows 'for every input' (looked for: loops, veiled, ifaces, maps, wideKeys, modest, calm, conditions, laid).
  DERIVED. THE GIVEN ROWS OF THIS SEAT. 10 by the template 'for every input the law returns true; each argument reads behind the call as it read before'; 0 by the template 'total and deterministic' (their statements: YteokkpmndfekoaaTotals.lean).
  GIVEN WITH THE SEED: the statements are not yours to turn. If you find one false, say at which input.
  Laid BY PROGRAM, IN A SANDBOX (cutbox-rows.mjs): the forced cells as the released guide's own fill.sh prints them over the translation 6ab7588dc08904ba… (all of the seat's roots in one cut). By AI agents, Wed Nov 11 2026. No macro, syntax, notation, axiom, sorry.
-/
import Derived.Test.YteokkpmndfekoaaChecked
import GoSem.Claim
import GoSem.ClaimJoined
import GoSem.ClaimMapViews
import Derived.JoinedTies
import Derived.KernelRfl
namespace Go.Proofs.Yteokkpmndfekoaa
/- THE CELL 'sum', in the pinned program and in every row, IS THE sha256 OF THE DUMP (.gsa) THAT YteokkpmndfekoaaProg.lean LOADS. Nothing in Lean hashes anything: it is a label: what it is worth is what the hold of that sum in a sandbox is worth. -/
noncomputable def Try.pinned : Pinned := { name := "yteokkpmndfekoaa", sum := "6ab7588dc08904bad173be5c8bce7e5f16b14abfda4b750a366e5531c64e43e7", checked := Try.checked }
namespace Rows
def none {H : Type} : Left H := { results := [], args := [] }

/-- 'halyardlaw02.BundleFinds': WHATEVER THE INPUT: true; the input reads as it did. -/
def bundleFindsSpec : ChangeSpec := { name := "bundleFinds", fn := fun _ => fun
  | [d1, d2] => { results := [.lit (.bool true)], args := [d1, d2] }
  | _ => none }
def bundleFindsRow : OpenClaim := { program := "yteokkpmndfekoaa", sum := "6ab7588dc08904bad173be5c8bce7e5f16b14abfda4b750a366e5531c64e43e7", func := "halyard/halyardlaw02.BundleFinds", spec := "bundleFinds", apart := false }
def BundleFindsSaid : Prop := bundleFindsRow.holds Try.pinned (OpenSpec.ofChange bundleFindsSpec)

/-- ITS FALSE NEIGHBOUR: 'it returns false'. Refute it at one input. -/
def bundleFindsWrong : ChangeSpec := { name := "bundleFinds", fn := fun _ => fun
  | [d1, d2] => { results := [.lit (.bool false)], args := [d1, d2] }
  | _ => none }
def BundleFindsWrongFalsely : Prop := bundleFindsRow.holds Try.pinned (OpenSpec.ofChange bundleFindsWrong)

/-- 'halyardlaw02.BundleWraps': WHATEVER THE INPUT: true; the input reads as it did. -/
def bundleWrapsSpec : ChangeSpec := { name := "bundleWraps", fn := fun _ => fun
  | [d1, d2, d3, d4] => { results := [.lit (.bool true)], args := [d1, d2, d3, d4] }
  | _ => none }
def bundleWrapsRow : OpenClaim := { program := "yteokkpmndfekoaa", sum := "6ab7588dc08904bad173be5c8bce7e5f16b14abfda4b750a366e5531c64e43e7", func := "halyard/halyardlaw02.BundleWraps", spec := "bundleWraps", apart := false }
def BundleWrapsSaid : Prop := bundleWrapsRow.holds Try.pinned (OpenSpec.ofChange bundleWrapsSpec)

/-- ITS FALSE NEIGHBOUR: 'it returns false'. Refute it at one input. -/
def bundleWrapsWrong : ChangeSpec := { name := "bundleWraps", fn := fun _ => fun
  | [d1, d2, d3, d4] => { results := [.lit (.bool false)], args := [d1, d2, d3, d4] }
  | _ => none }
def BundleWrapsWrongFalsely : Prop := bundleWrapsRow.holds Try.pinned (OpenSpec.ofChange bundleWrapsWrong)

/-- 'halyardlaw02.BundleDecodes': WHATEVER THE INPUT: true; the input reads as it did. -/
def bundleDecodesSpec : ChangeSpec := { name := "bundleDecodes", fn := fun _ => fun
  | [d] => { results := [.lit (.bool true)], args := [d] }
  | _ => none }
def bundleDecodesRow : OpenClaim := { program := "yteokkpmndfekoaa", sum := "6ab7588dc08904bad173be5c8bce7e5f16b14abfda4b750a366e5531c64e43e7", func := "halyard/halyardlaw02.BundleDecodes", spec := "bundleDecodes", unfollowed := true, recurses := true, apart := false }
def BundleDecodesSaid : Prop := bundleDecodesRow.holds Try.pinned (OpenSpec.ofChange bundleDecodesSpec)

/-- ITS FALSE NEIGHBOUR: 'it returns false'. Refute it at one input. -/
def bundleDecodesWrong : ChangeSpec := { name := "bundleDecodes", fn := fun _ => fun
  | [d] => { results := [.lit (.bool false)], args := [d] }
  | _ => none }
def BundleDecodesWrongFalsely : Prop := bundleDecodesRow.holds Try.pinned (OpenSpec.ofChange bundleDecodesWrong)

/-- 'halyardlaw02.BundleValids': WHATEVER THE INPUT: true; the input reads as it did. -/
def bundleValidsSpec : ChangeSpec := { name := "bundleValids", fn := fun _ => fun
  | [d] => { results := [.lit (.bool true)], args := [d] }
  | _ => none }
def bundleValidsRow : OpenClaim := { program := "yteokkpmndfekoaa", sum := "6ab7588dc08904bad173be5c8bce7e5f16b14abfda4b750a366e5531c64e43e7", func := "halyard/halyardlaw02.BundleValids", spec := "bundleValids", unfollowed := true, recurses := true, apart := false }
def BundleValidsSaid : Prop := bundleValidsRow.holds Try.pinned (OpenSpec.ofChange bundleValidsSpec)

/-- ITS FALSE NEIGHBOUR: 'it returns false'. Refute it at one input. -/
def bundleValidsWrong : ChangeSpec := { name := "bundleValids", fn := fun _ => fun
  | [d] => { results := [.lit (.bool false)], args := [d] }
  | _ => none }
def BundleValidsWrongFalsely : Prop := bundleValidsRow.holds Try.pinned (OpenSpec.ofChange bundleValidsWrong)

/-- 'halyardlaw02.BundleOpens': WHATEVER THE INPUT: true; the input reads as it did. -/
def bundleOpensSpec : ChangeSpec := { name := "bundleOpens", fn := fun _ => fun
  | [d] => { results := [.lit (.bool true)], args := [d] }
  | _ => none }
def bundleOpensRow : OpenClaim := { program := "yteokkpmndfekoaa", sum := "6ab7588dc08904bad173be5c8bce7e5f16b14abfda4b750a366e5531c64e43e7", func := "halyard/halyardlaw02.BundleOpens", spec := "bundleOpens", unfollowed := true, recurses := true, apart := false }
def BundleOpensSaid : Prop := bundleOpensRow.holds Try.pinned (OpenSpec.ofChange bundleOpensSpec)

/-- ITS FALSE NEIGHBOUR: 'it returns false'. Refute it at one input. -/
def bundleOpensWrong : ChangeSpec := { name := "bundleOpens", fn := fun _ => fun
  | [d] => { results := [.lit (.bool false)], args := [d] }
  | _ => none }
def BundleOpensWrongFalsely : Prop := bundleOpensRow.holds Try.pinned (OpenSpec.ofChange bundleOpensWrong)

/-- 'halyardlaw02.BundleHops': WHATEVER THE INPUT: true; the input reads as it did. -/
def bundleHopsSpec : ChangeSpec := { name := "bundleHops", fn := fun _ => fun
  | [d1, d2] => { results := [.lit (.bool true)], args := [d1, d2] }
  | _ => none }
def bundleHopsRow : OpenClaim := { program := "yteokkpmndfekoaa", sum := "6ab7588dc08904bad173be5c8bce7e5f16b14abfda4b750a366e5531c64e43e7", func := "halyard/halyardlaw02.BundleHops", spec := "bundleHops", unfollowed := true, recurses := true, apart := false }
def BundleHopsSaid : Prop := bundleHopsRow.holds Try.pinned (OpenSpec.ofChange bundleHopsSpec)

/-- ITS FALSE NEIGHBOUR: 'it returns false'. Refute it at one input. -/
def bundleHopsWrong : ChangeSpec := { name := "bundleHops", fn := fun _ => fun
  | [d1, d2] => { results := [.lit (.bool false)], args := [d1, d2] }
  | _ => none }
def BundleHopsWrongFalsely : Prop := bundleHopsRow.holds Try.pinned (OpenSpec.ofChange bundleHopsWrong)

/-- 'halyardlaw02.BundleBack': WHATEVER THE INPUT: true; the input reads as it did. -/
def bundleBackSpec : ChangeSpec := { name := "bundleBack", fn := fun _ => fun
  | [d1, d2] => { results := [.lit (.bool true)], args := [d1, d2] }
  | _ => none }
def bundleBackRow : OpenClaim := { program := "yteokkpmndfekoaa", sum := "6ab7588dc08904bad173be5c8bce7e5f16b14abfda4b750a366e5531c64e43e7", func := "halyard/halyardlaw02.BundleBack", spec := "bundleBack", unfollowed := true, recurses := true, apart := false }
def BundleBackSaid : Prop := bundleBackRow.holds Try.pinned (OpenSpec.ofChange bundleBackSpec)

/-- ITS FALSE NEIGHBOUR: 'it returns false'. Refute it at one input. -/
def bundleBackWrong : ChangeSpec := { name := "bundleBack", fn := fun _ => fun
  | [d1, d2] => { results := [.lit (.bool false)], args := [d1, d2] }
  | _ => none }
def BundleBackWrongFalsely : Prop := bundleBackRow.holds Try.pinned (OpenSpec.ofChange bundleBackWrong)

/-- 'halyardlaw02.BundleTravels': WHATEVER THE INPUT: true; the input reads as it did. -/
def bundleTravelsSpec : ChangeSpec := { name := "bundleTravels", fn := fun _ => fun
  | [d1, d2, d3, d4, d5] => { results := [.lit (.bool true)], args := [d1, d2, d3, d4, d5] }
  | _ => none }
def bundleTravelsRow : OpenClaim := { program := "yteokkpmndfekoaa", sum := "6ab7588dc08904bad173be5c8bce7e5f16b14abfda4b750a366e5531c64e43e7", func := "halyard/halyardlaw02.BundleTravels", spec := "bundleTravels", unfollowed := true, recurses := true, apart := false }
def BundleTravelsSaid : Prop := bundleTravelsRow.holds Try.pinned (OpenSpec.ofChange bundleTravelsSpec)

/-- ITS FALSE NEIGHBOUR: 'it returns false'. Refute it at one input. -/
def bundleTravelsWrong : ChangeSpec := { name := "bundleTravels", fn := fun _ => fun
  | [d1, d2, d3, d4, d5] => { results := [.lit (.bool false)], args := [d1, d2, d3, d4, d5] }
  | _ => none }
def BundleTravelsWrongFalsely : Prop := bundleTravelsRow.holds Try.pinned (OpenSpec.ofChange bundleTravelsWrong)

/-- 'halyardlaw02.BundleEnds': WHATEVER THE INPUT: true; the input reads as it did. -/
def bundleEndsSpec : ChangeSpec := { name := "bundleEnds", fn := fun _ => fun
  | [d1, d2] => { results := [.lit (.bool true)], args := [d1, d2] }
  | _ => none }
def bundleEndsRow : OpenClaim := { program := "yteokkpmndfekoaa", sum := "6ab7588dc08904bad173be5c8bce7e5f16b14abfda4b750a366e5531c64e43e7", func := "halyard/halyardlaw02.BundleEnds", spec := "bundleEnds", unfollowed := true, recurses := true, apart := false }
def BundleEndsSaid : Prop := bundleEndsRow.holds Try.pinned (OpenSpec.ofChange bundleEndsSpec)

/-- ITS FALSE NEIGHBOUR: 'it returns false'. Refute it at one input. -/
def bundleEndsWrong : ChangeSpec := { name := "bundleEnds", fn := fun _ => fun
  | [d1, d2] => { results := [.lit (.bool false)], args := [d1, d2] }
  | _ => none }
def BundleEndsWrongFalsely : Prop := bundleEndsRow.holds Try.pinned (OpenSpec.ofChange bundleEndsWrong)

/-- 'halyardlaw02.BundleOwn': WHATEVER THE INPUT: true; the input reads as it did. -/
def bundleOwnSpec : ChangeSpec := { name := "bundleOwn", fn := fun _ => fun
  | [d1, d2] => { results := [.lit (.bool true)], args := [d1, d2] }
  | _ => none }
def bundleOwnRow : OpenClaim := { program := "yteokkpmndfekoaa", sum := "6ab7588dc08904bad173be5c8bce7e5f16b14abfda4b750a366e5531c64e43e7", func := "halyard/halyardlaw02.BundleOwn", spec := "bundleOwn", unfollowed := true, recurses := true, apart := false }
def BundleOwnSaid : Prop := bundleOwnRow.holds Try.pinned (OpenSpec.ofChange bundleOwnSpec)

/-- ITS FALSE NEIGHBOUR: 'it returns false'. Refute it at one input. -/
def bundleOwnWrong : ChangeSpec := { name := "bundleOwn", fn := fun _ => fun
  | [d1, d2] => { results := [.lit (.bool false)], args := [d1, d2] }
  | _ => none }
def BundleOwnWrongFalsely : Prop := bundleOwnRow.holds Try.pinned (OpenSpec.ofChange bundleOwnWrong)

/- THE SECOND FORM. 'bulk': how many values and letters a reading holds, each counted each time it is reached (what is shared counts as often as it is met; a slice's spare places count too). A statement '..UptoSaid' is the law's where the arguments, and the package variables that the reading takes, are together of bulk at most 1048576: NARROWER than '..Said'. Prove '..Said' where nothing that the law and all that it calls make is longer than what came in: it says more and counts as full. Else prove '..UptoSaid'. A law counts once. -/
mutual
def uptoBulk {H : Type} : DataW H → Nat
  | .lit (.string bytes) => bytes.length + 1
  | .lit _ => 1
  | .nil => 1
  | .ptr d => uptoBulk d + 1
  | .slice elems spare => uptoBulkAll elems + uptoBulkAll spare + 1
  | .agg parts => uptoBulkAll parts + 1
  | .iface _ d => uptoBulk d + 1
  | .map entries => uptoBulkEntries entries + 1
  | .held _ => 1
def uptoBulkAll {H : Type} : List (DataW H) → Nat
  | [] => 0
  | d :: r => uptoBulk d + uptoBulkAll r
def uptoBulkEntries {H : Type} : List (Lit × DataW H) → Nat
  | [] => 0
  | x :: r => uptoBulkEntry x + uptoBulkEntries r
def uptoBulkEntry {H : Type} : Lit × DataW H → Nat
  | (.string bytes, d) => bytes.length + uptoBulk d + 1
  | (_, d) => uptoBulk d + 1
 end
def uptoSmall : (H : Type) → List (DataW H) → Bool := fun _ ds => decide (uptoBulkAll ds ≤ 1048576)
def OpenSpec.upto (s : _root_.Go.ChangeSpec) : _root_.Go.OpenSpec := { _root_.Go.OpenSpec.ofChange s with cond := some uptoSmall }

/-- 'halyardlaw02.BundleFinds', WHERE WHAT IT READS IS OF BULK AT MOST 1048576: true; the input reads as it did. -/
def bundleFindsUptoRow : OpenClaim := { program := "yteokkpmndfekoaa", sum := "6ab7588dc08904bad173be5c8bce7e5f16b14abfda4b750a366e5531c64e43e7", func := "halyard/halyardlaw02.BundleFinds", spec := "bundleFinds", apart := false, narrowed := true }
def BundleFindsUptoSaid : Prop := bundleFindsUptoRow.holds Try.pinned (OpenSpec.upto bundleFindsSpec)

/-- 'halyardlaw02.BundleWraps', WHERE WHAT IT READS IS OF BULK AT MOST 1048576: true; the input reads as it did. -/
def bundleWrapsUptoRow : OpenClaim := { program := "yteokkpmndfekoaa", sum := "6ab7588dc08904bad173be5c8bce7e5f16b14abfda4b750a366e5531c64e43e7", func := "halyard/halyardlaw02.BundleWraps", spec := "bundleWraps", apart := false, narrowed := true }
def BundleWrapsUptoSaid : Prop := bundleWrapsUptoRow.holds Try.pinned (OpenSpec.upto bundleWrapsSpec)

/-- 'halyardlaw02.BundleDecodes', WHERE WHAT IT READS IS OF BULK AT MOST 1048576: true; the input reads as it did. -/
def bundleDecodesUptoRow : OpenClaim := { program := "yteokkpmndfekoaa", sum := "6ab7588dc08904bad173be5c8bce7e5f16b14abfda4b750a366e5531c64e43e7", func := "halyard/halyardlaw02.BundleDecodes", spec := "bundleDecodes", unfollowed := true, recurses := true, apart := false, narrowed := true }
def BundleDecodesUptoSaid : Prop := bundleDecodesUptoRow.holds Try.pinned (OpenSpec.upto bundleDecodesSpec)

/-- 'halyardlaw02.BundleValids', WHERE WHAT IT READS IS OF BULK AT MOST 1048576: true; the input reads as it did. -/
def bundleValidsUptoRow : OpenClaim := { program := "yteokkpmndfekoaa", sum := "6ab7588dc08904bad173be5c8bce7e5f16b14abfda4b750a366e5531c64e43e7", func := "halyard/halyardlaw02.BundleValids", spec := "bundleValids", unfollowed := true, recurses := true, apart := false, narrowed := true }
def BundleValidsUptoSaid : Prop := bundleValidsUptoRow.holds Try.pinned (OpenSpec.upto bundleValidsSpec)

/-- 'halyardlaw02.BundleOpens', WHERE WHAT IT READS IS OF BULK AT MOST 1048576: true; the input reads as it did. -/
def bundleOpensUptoRow : OpenClaim := { program := "yteokkpmndfekoaa", sum := "6ab7588dc08904bad173be5c8bce7e5f16b14abfda4b750a366e5531c64e43e7", func := "halyard/halyardlaw02.BundleOpens", spec := "bundleOpens", unfollowed := true, recurses := true, apart := false, narrowed := true }
def BundleOpensUptoSaid : Prop := bundleOpensUptoRow.holds Try.pinned (OpenSpec.upto bundleOpensSpec)

/-- 'halyardlaw02.BundleHops', WHERE WHAT IT READS IS OF BULK AT MOST 1048576: true; the input reads as it did. -/
def bundleHopsUptoRow : OpenClaim := { program := "yteokkpmndfekoaa", sum := "6ab7588dc08904bad173be5c8bce7e5f16b14abfda4b750a366e5531c64e43e7", func := "halyard/halyardlaw02.BundleHops", spec := "bundleHops", unfollowed := true, recurses := true, apart := false, narrowed := true }
def BundleHopsUptoSaid : Prop := bundleHopsUptoRow.holds Try.pinned (OpenSpec.upto bundleHopsSpec)

/-- 'halyardlaw02.BundleBack', WHERE WHAT IT READS IS OF BULK AT MOST 1048576: true; the input reads as it did. -/
def bundleBackUptoRow : OpenClaim := { program := "yteokkpmndfekoaa", sum := "6ab7588dc08904bad173be5c8bce7e5f16b14abfda4b750a366e5531c64e43e7", func := "halyard/halyardlaw02.BundleBack", spec := "bundleBack", unfollowed := true, recurses := true, apart := false, narrowed := true }
def BundleBackUptoSaid : Prop := bundleBackUptoRow.holds Try.pinned (OpenSpec.upto bundleBackSpec)

/-- 'halyardlaw02.BundleTravels', WHERE WHAT IT READS IS OF BULK AT MOST 1048576: true; the input reads as it did. -/
def bundleTravelsUptoRow : OpenClaim := { program := "yteokkpmndfekoaa", sum := "6ab7588dc08904bad173be5c8bce7e5f16b14abfda4b750a366e5531c64e43e7", func := "halyard/halyardlaw02.BundleTravels", spec := "bundleTravels", unfollowed := true, recurses := true, apart := false, narrowed := true }
def BundleTravelsUptoSaid : Prop := bundleTravelsUptoRow.holds Try.pinned (OpenSpec.upto bundleTravelsSpec)

/-- 'halyardlaw02.BundleEnds', WHERE WHAT IT READS IS OF BULK AT MOST 1048576: true; the input reads as it did. -/
def bundleEndsUptoRow : OpenClaim := { program := "yteokkpmndfekoaa", sum := "6ab7588dc08904bad173be5c8bce7e5f16b14abfda4b750a366e5531c64e43e7", func := "halyard/halyardlaw02.BundleEnds", spec := "bundleEnds", unfollowed := true, recurses := true, apart := false, narrowed := true }
def BundleEndsUptoSaid : Prop := bundleEndsUptoRow.holds Try.pinned (OpenSpec.upto bundleEndsSpec)

/-- 'halyardlaw02.BundleOwn', WHERE WHAT IT READS IS OF BULK AT MOST 1048576: true; the input reads as it did. -/
def bundleOwnUptoRow : OpenClaim := { program := "yteokkpmndfekoaa", sum := "6ab7588dc08904bad173be5c8bce7e5f16b14abfda4b750a366e5531c64e43e7", func := "halyard/halyardlaw02.BundleOwn", spec := "bundleOwn", unfollowed := true, recurses := true, apart := false, narrowed := true }
def BundleOwnUptoSaid : Prop := bundleOwnUptoRow.holds Try.pinned (OpenSpec.upto bundleOwnSpec)

end Rows
end Go.Proofs.Yteokkpmndfekoaa
