/-
  No cell of these rows narrows 'for every input' (looked for: loops, veiled, ifaces, maps, wideKeys, modest, calm, conditions, laid).
  DERIVED. THE GIVEN ROWS OF THIS SEAT. 3 by the template 'for every input the law returns true; each argument reads behind the call as it read before'; 0 by the template 'total and deterministic' (their statements: YtjhndppmpldfbaaTotals.lean).
  GIVEN WITH THE SEED: the statements are not yours to turn. If you find one false, say at which input.
  Laid BY PROGRAM, IN A SANDBOX (cutbox-rows.mjs): the forced cells as the released guide's own fill.sh prints them over the translation c5a99fb17f36f502… (all of the seat's roots in one cut). By AI agents, Wed Nov 11 2026. No macro, syntax, notation, axiom, sorry.
-/
import Derived.Test.YtjhndppmpldfbaaChecked
import GoSem.Claim
import GoSem.ClaimJoined
import GoSem.ClaimMapViews
import Derived.JoinedTies
import Derived.KernelRfl
namespace Go.Proofs.Ytjhndppmpldfbaa
/- THE CELL 'sum', in the pinned program and in every row, IS THE sha256 OF THE DUMP (.gsa) THAT YtjhndppmpldfbaaProg.lean LOADS. Nothing in Lean hashes anything: it is a label: what it is worth is what the hold of that sum in a sandbox is worth. -/
noncomputable def Try.pinned : Pinned := { name := "ytjhndppmpldfbaa", sum := "c5a99fb17f36f50248aaaaae92a50cec842b973e57c6af6e2b7d21aaa1a1642c", checked := Try.checked }
namespace Rows
def none {H : Type} : Left H := { results := [], args := [] }

/-- 'halyardlaw01.OctetAppends': WHATEVER THE INPUT: true; the input reads as it did. -/
def octetAppendsSpec : ChangeSpec := { name := "octetAppends", fn := fun _ => fun
  | [d1, d2] => { results := [.lit (.bool true)], args := [d1, d2] }
  | _ => none }
def octetAppendsRow : OpenClaim := { program := "ytjhndppmpldfbaa", sum := "c5a99fb17f36f50248aaaaae92a50cec842b973e57c6af6e2b7d21aaa1a1642c", func := "halyard/halyardlaw01.OctetAppends", spec := "octetAppends", apart := false }
def OctetAppendsSaid : Prop := octetAppendsRow.holds Try.pinned (OpenSpec.ofChange octetAppendsSpec)

/-- ITS FALSE NEIGHBOUR: 'it returns false'. Refute it at one input. -/
def octetAppendsWrong : ChangeSpec := { name := "octetAppends", fn := fun _ => fun
  | [d1, d2] => { results := [.lit (.bool false)], args := [d1, d2] }
  | _ => none }
def OctetAppendsWrongFalsely : Prop := octetAppendsRow.holds Try.pinned (OpenSpec.ofChange octetAppendsWrong)

/-- 'halyardlaw01.OctetLists': WHATEVER THE INPUT: true; the input reads as it did. -/
def octetListsSpec : ChangeSpec := { name := "octetLists", fn := fun _ => fun
  | [d1, d2] => { results := [.lit (.bool true)], args := [d1, d2] }
  | _ => none }
def octetListsRow : OpenClaim := { program := "ytjhndppmpldfbaa", sum := "c5a99fb17f36f50248aaaaae92a50cec842b973e57c6af6e2b7d21aaa1a1642c", func := "halyard/halyardlaw01.OctetLists", spec := "octetLists", apart := false }
def OctetListsSaid : Prop := octetListsRow.holds Try.pinned (OpenSpec.ofChange octetListsSpec)

/-- ITS FALSE NEIGHBOUR: 'it returns false'. Refute it at one input. -/
def octetListsWrong : ChangeSpec := { name := "octetLists", fn := fun _ => fun
  | [d1, d2] => { results := [.lit (.bool false)], args := [d1, d2] }
  | _ => none }
def OctetListsWrongFalsely : Prop := octetListsRow.holds Try.pinned (OpenSpec.ofChange octetListsWrong)

/-- 'halyardlaw01.OctetReads': WHATEVER THE INPUT: true; the input reads as it did. -/
def octetReadsSpec : ChangeSpec := { name := "octetReads", fn := fun _ => fun
  | [d1, d2] => { results := [.lit (.bool true)], args := [d1, d2] }
  | _ => none }
def octetReadsRow : OpenClaim := { program := "ytjhndppmpldfbaa", sum := "c5a99fb17f36f50248aaaaae92a50cec842b973e57c6af6e2b7d21aaa1a1642c", func := "halyard/halyardlaw01.OctetReads", spec := "octetReads", unfollowed := true, recurses := true, apart := false }
def OctetReadsSaid : Prop := octetReadsRow.holds Try.pinned (OpenSpec.ofChange octetReadsSpec)

/-- ITS FALSE NEIGHBOUR: 'it returns false'. Refute it at one input. -/
def octetReadsWrong : ChangeSpec := { name := "octetReads", fn := fun _ => fun
  | [d1, d2] => { results := [.lit (.bool false)], args := [d1, d2] }
  | _ => none }
def OctetReadsWrongFalsely : Prop := octetReadsRow.holds Try.pinned (OpenSpec.ofChange octetReadsWrong)

/- THE SECOND FORM. 'bulk': how many values and letters a reading holds, each counted each time it is reached (what is shared counts as often as it is met; a slice's spare places count too). A statement '..UptoSaid' is the law's where the arguments, and the package variables that the reading takes, are together of bulk at most 1048576: NARROWER than '..Said'. Prove '..Said' where nothing that the law and all that it calls make is longer than what came in: it says more and counts as full. Else prove '..UptoSaid'. A law counts once. -/
mutual
def uptoBulk {H : Type} : DataW H → Nat
  | .lit (.string bytes) => bytes.length + 1
  | .lit _ => 1
  | .nil => 1
  | .ptr d => uptoBulk d + 1
  | .slice elems spare => uptoBulkAll elems + uptoBulkAll spare + 1
  | .agg parts => uptoBulkAll parts + 1
  | .iface _ d => uptoBulk d + 1
  | .map entries => uptoBulkEntries entries + 1
  | .held _ => 1
def uptoBulkAll {H : Type} : List (DataW H) → Nat
  | [] => 0
  | d :: r => uptoBulk d + uptoBulkAll r
def uptoBulkEntries {H : Type} : List (Lit × DataW H) → Nat
  | [] => 0
  | x :: r => uptoBulkEntry x + uptoBulkEntries r
def uptoBulkEntry {H : Type} : Lit × DataW H → Nat
  | (.string bytes, d) => bytes.length + uptoBulk d + 1
  | (_, d) => uptoBulk d + 1
 end
def uptoSmall : (H : Type) → List (DataW H) → Bool := fun _ ds => decide (uptoBulkAll ds ≤ 1048576)
def OpenSpec.upto (s : _root_.Go.ChangeSpec) : _root_.Go.OpenSpec := { _root_.Go.OpenSpec.ofChange s with cond := some uptoSmall }

/-- 'halyardlaw01.OctetAppends', WHERE WHAT IT READS IS OF BULK AT MOST 1048576: true; the input reads as it did. -/
def octetAppendsUptoRow : OpenClaim := { program := "ytjhndppmpldfbaa", sum := "c5a99fb17f36f50248aaaaae92a50cec842b973e57c6af6e2b7d21aaa1a1642c", func := "halyard/halyardlaw01.OctetAppends", spec := "octetAppends", apart := false, narrowed := true }
def OctetAppendsUptoSaid : Prop := octetAppendsUptoRow.holds Try.pinned (OpenSpec.upto octetAppendsSpec)

/-- 'halyardlaw01.OctetLists', WHERE WHAT IT READS IS OF BULK AT MOST 1048576: true; the input reads as it did. -/
def octetListsUptoRow : OpenClaim := { program := "ytjhndppmpldfbaa", sum := "c5a99fb17f36f50248aaaaae92a50cec842b973e57c6af6e2b7d21aaa1a1642c", func := "halyard/halyardlaw01.OctetLists", spec := "octetLists", apart := false, narrowed := true }
def OctetListsUptoSaid : Prop := octetListsUptoRow.holds Try.pinned (OpenSpec.upto octetListsSpec)

/-- 'halyardlaw01.OctetReads', WHERE WHAT IT READS IS OF BULK AT MOST 1048576: true; the input reads as it did. -/
def octetReadsUptoRow : OpenClaim := { program := "ytjhndppmpldfbaa", sum := "c5a99fb17f36f50248aaaaae92a50cec842b973e57c6af6e2b7d21aaa1a1642c", func := "halyard/halyardlaw01.OctetReads", spec := "octetReads", unfollowed := true, recurses := true, apart := false, narrowed := true }
def OctetReadsUptoSaid : Prop := octetReadsUptoRow.holds Try.pinned (OpenSpec.upto octetReadsSpec)

end Rows
end Go.Proofs.Ytjhndppmpldfbaa
