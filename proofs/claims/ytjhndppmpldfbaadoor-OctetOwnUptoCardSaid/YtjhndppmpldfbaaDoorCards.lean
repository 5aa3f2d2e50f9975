/-
  DERIVED. GIVEN WITH THE SEED: THE CARDS: each row of YtjhndppmpldfbaaDoorRows.lean that lists a variable, with what it lists TIED to the program's text (the seventh form; the later family's looks); each row that meets fmt, with fmt's text TOLD by the authors' own Lean function (tested against real Go, not proved from fmt's source: count such statements apart). THE CARD IS WHAT COUNTS. Prove the row's statement (the work); the ties are given (YtjhndppmpldfbaaDoorTie.lean); close each card by the builder's one call (the guide's Derived/Test/ToyasCard.lean, 'card_holds'). Laid BY PROGRAM, IN A SANDBOX (cutbox-door.mjs). By AI agents, Wed Nov 11 2026. No macro, syntax, notation, axiom, sorry.
-/
import Derived.Test.YtjhndppmpldfbaaDoorRows
import GoSem.ClaimSeven
namespace Go.Proofs.YtjhndppmpldfbaaDoor
namespace Rows

/-- THE TIED CARD OF 'halyardlaw01.OctetSums'. -/
def octetSumsCard : Claim7 := { stood := { row := octetSumsRow, standIns := [], harness := (true, "f589caf481bec687957ba1f611e225c6f46b39f4ac45d2aad82562e9529a82f6"), looks := false }, kinds := [], alts := [], laidByText := true, laidKinds := [.data], laidTests := true, laidLooks := .later }
def OctetSumsCardSaid : Prop := Claim7.holds Tryd.pinned (.plain (OpenSpec.ofChange octetSumsSpec)) octetSumsCard

/-- THE TIED CARD OF 'halyardlaw01.OctetNames'. -/
def octetNamesCard : Claim7 := { stood := { row := octetNamesRow, standIns := [], harness := (true, "f589caf481bec687957ba1f611e225c6f46b39f4ac45d2aad82562e9529a82f6"), looks := false }, kinds := [], alts := [], laidByText := true, laidKinds := [.data], laidTests := true, laidLooks := .later }
def OctetNamesCardSaid : Prop := Claim7.holds Tryd.pinned (.plain (OpenSpec.ofChange octetNamesSpec)) octetNamesCard

/-- THE TIED CARD OF 'halyardlaw01.OctetNumbers'. -/
def octetNumbersCard : Claim7 := { stood := { row := octetNumbersRow, standIns := [], harness := (true, "f589caf481bec687957ba1f611e225c6f46b39f4ac45d2aad82562e9529a82f6"), looks := false }, kinds := [], alts := [], laidByText := true, laidKinds := [.data], laidTests := true, laidLooks := .later }
def OctetNumbersCardSaid : Prop := Claim7.holds Tryd.pinned (.plain (OpenSpec.ofChange octetNumbersSpec)) octetNumbersCard

/-- THE TIED CARD OF 'halyardlaw01.OctetOneWay'. -/
def octetOneWayCard : Claim7 := { stood := { row := octetOneWayRow, standIns := [], harness := (true, "f589caf481bec687957ba1f611e225c6f46b39f4ac45d2aad82562e9529a82f6"), looks := false }, kinds := [], alts := [], laidByText := true, laidKinds := [.data], laidTests := true, laidLooks := .later }
def OctetOneWayCardSaid : Prop := Claim7.holds Tryd.pinned (.plain (OpenSpec.ofChange octetOneWaySpec)) octetOneWayCard

/-- THE TIED CARD OF 'halyardlaw01.OctetBursts'. -/
def octetBurstsCard : Claim7 := { stood := { row := octetBurstsRow, standIns := [], harness := (true, "f589caf481bec687957ba1f611e225c6f46b39f4ac45d2aad82562e9529a82f6"), looks := false }, kinds := [], alts := [], laidByText := true, laidKinds := [.data], laidTests := true, laidLooks := .later }
def OctetBurstsCardSaid : Prop := Claim7.holds Tryd.pinned (.plain (OpenSpec.ofChange octetBurstsSpec)) octetBurstsCard

/-- THE TIED CARD OF 'halyardlaw01.OctetTwice'. -/
def octetTwiceCard : Claim7 := { stood := { row := octetTwiceRow, standIns := [], harness := (true, "f589caf481bec687957ba1f611e225c6f46b39f4ac45d2aad82562e9529a82f6"), looks := false }, kinds := [], alts := [], laidByText := true, laidKinds := [.data], laidTests := true, laidLooks := .later }
def OctetTwiceCardSaid : Prop := Claim7.holds Tryd.pinned (.plain (OpenSpec.ofChange octetTwiceSpec)) octetTwiceCard

/-- THE TIED CARD OF 'halyardlaw01.OctetUnseals'. -/
def octetUnsealsCard : Claim7 := { stood := { row := octetUnsealsRow, standIns := [], harness := (true, "f589caf481bec687957ba1f611e225c6f46b39f4ac45d2aad82562e9529a82f6"), looks := false }, kinds := [], alts := [], laidByText := true, laidKinds := [.data], laidTests := true, laidLooks := .later }
def OctetUnsealsCardSaid : Prop := Claim7.holds Tryd.pinned (.plain (OpenSpec.ofChange octetUnsealsSpec)) octetUnsealsCard

/-- THE TIED CARD OF 'halyardlaw01.OctetSeal'. -/
def octetSealCard : Claim7 := { stood := { row := octetSealRow, standIns := [], harness := (true, "f589caf481bec687957ba1f611e225c6f46b39f4ac45d2aad82562e9529a82f6"), looks := false }, kinds := [], alts := [], laidByText := true, laidKinds := [.data], laidTests := true, laidLooks := .later }
def OctetSealCardSaid : Prop := Claim7.holds Tryd.pinned (.plain (OpenSpec.ofChange octetSealSpec)) octetSealCard

/-- THE TIED CARD OF 'halyardlaw01.OctetBurst'. -/
def octetBurstCard : Claim7 := { stood := { row := octetBurstRow, standIns := [], harness := (true, "f589caf481bec687957ba1f611e225c6f46b39f4ac45d2aad82562e9529a82f6"), looks := false }, kinds := [], alts := [], laidByText := true, laidKinds := [.data], laidTests := true, laidLooks := .later }
def OctetBurstCardSaid : Prop := Claim7.holds Tryd.pinned (.plain (OpenSpec.ofChange octetBurstSpec)) octetBurstCard

/-- THE TIED CARD OF 'halyardlaw01.OctetOver'. -/
def octetOverCard : Claim7 := { stood := { row := octetOverRow, standIns := [], harness := (true, "f589caf481bec687957ba1f611e225c6f46b39f4ac45d2aad82562e9529a82f6"), looks := false }, kinds := [], alts := [], laidByText := true, laidKinds := [.data], laidTests := true, laidLooks := .later }
def OctetOverCardSaid : Prop := Claim7.holds Tryd.pinned (.plain (OpenSpec.ofChange octetOverSpec)) octetOverCard

/-- THE TIED CARD OF 'halyardlaw01.OctetBack'. -/
def octetBackCard : Claim7 := { stood := { row := octetBackRow, standIns := [], harness := (true, "f589caf481bec687957ba1f611e225c6f46b39f4ac45d2aad82562e9529a82f6"), looks := false }, kinds := [], alts := [], laidByText := true, laidKinds := [.data], laidTests := true, laidLooks := .later }
def OctetBackCardSaid : Prop := Claim7.holds Tryd.pinned (.plain (OpenSpec.ofChange octetBackSpec)) octetBackCard

/-- THE TIED CARD OF 'halyardlaw01.OctetNil'. -/
def octetNilCard : Claim7 := { stood := { row := octetNilRow, standIns := [], harness := (true, "f589caf481bec687957ba1f611e225c6f46b39f4ac45d2aad82562e9529a82f6"), looks := false }, kinds := [], alts := [], laidByText := true, laidKinds := [.data], laidTests := true, laidLooks := .later }
def OctetNilCardSaid : Prop := Claim7.holds Tryd.pinned (.plain (OpenSpec.ofChange octetNilSpec)) octetNilCard

/-- THE TIED CARD OF 'halyardlaw01.OctetOwn'. -/
def octetOwnCard : Claim7 := { stood := { row := octetOwnRow, standIns := [], harness := (true, "f589caf481bec687957ba1f611e225c6f46b39f4ac45d2aad82562e9529a82f6"), looks := false }, kinds := [], alts := [], laidByText := true, laidKinds := [.data], laidTests := true, laidLooks := .later }
def OctetOwnCardSaid : Prop := Claim7.holds Tryd.pinned (.plain (OpenSpec.ofChange octetOwnSpec)) octetOwnCard

/-- THE SECOND FORM's CARD OF 'halyardlaw01.OctetSums'. -/
def octetSumsUptoCard : Claim7 := { stood := { row := octetSumsUptoRow, standIns := [], harness := (true, "f589caf481bec687957ba1f611e225c6f46b39f4ac45d2aad82562e9529a82f6"), looks := false }, kinds := [], alts := [], laidByText := true, laidKinds := [.data], laidTests := true, laidLooks := .later }
def OctetSumsUptoCardSaid : Prop := Claim7.holds Tryd.pinned (.plain (OpenSpec.upto octetSumsSpec)) octetSumsUptoCard

/-- THE SECOND FORM's CARD OF 'halyardlaw01.OctetNames'. -/
def octetNamesUptoCard : Claim7 := { stood := { row := octetNamesUptoRow, standIns := [], harness := (true, "f589caf481bec687957ba1f611e225c6f46b39f4ac45d2aad82562e9529a82f6"), looks := false }, kinds := [], alts := [], laidByText := true, laidKinds := [.data], laidTests := true, laidLooks := .later }
def OctetNamesUptoCardSaid : Prop := Claim7.holds Tryd.pinned (.plain (OpenSpec.upto octetNamesSpec)) octetNamesUptoCard

/-- THE SECOND FORM's CARD OF 'halyardlaw01.OctetNumbers'. -/
def octetNumbersUptoCard : Claim7 := { stood := { row := octetNumbersUptoRow, standIns := [], harness := (true, "f589caf481bec687957ba1f611e225c6f46b39f4ac45d2aad82562e9529a82f6"), looks := false }, kinds := [], alts := [], laidByText := true, laidKinds := [.data], laidTests := true, laidLooks := .later }
def OctetNumbersUptoCardSaid : Prop := Claim7.holds Tryd.pinned (.plain (OpenSpec.upto octetNumbersSpec)) octetNumbersUptoCard

/-- THE SECOND FORM's CARD OF 'halyardlaw01.OctetOneWay'. -/
def octetOneWayUptoCard : Claim7 := { stood := { row := octetOneWayUptoRow, standIns := [], harness := (true, "f589caf481bec687957ba1f611e225c6f46b39f4ac45d2aad82562e9529a82f6"), looks := false }, kinds := [], alts := [], laidByText := true, laidKinds := [.data], laidTests := true, laidLooks := .later }
def OctetOneWayUptoCardSaid : Prop := Claim7.holds Tryd.pinned (.plain (OpenSpec.upto octetOneWaySpec)) octetOneWayUptoCard

/-- THE SECOND FORM's CARD OF 'halyardlaw01.OctetBursts'. -/
def octetBurstsUptoCard : Claim7 := { stood := { row := octetBurstsUptoRow, standIns := [], harness := (true, "f589caf481bec687957ba1f611e225c6f46b39f4ac45d2aad82562e9529a82f6"), looks := false }, kinds := [], alts := [], laidByText := true, laidKinds := [.data], laidTests := true, laidLooks := .later }
def OctetBurstsUptoCardSaid : Prop := Claim7.holds Tryd.pinned (.plain (OpenSpec.upto octetBurstsSpec)) octetBurstsUptoCard

/-- THE SECOND FORM's CARD OF 'halyardlaw01.OctetTwice'. -/
def octetTwiceUptoCard : Claim7 := { stood := { row := octetTwiceUptoRow, standIns := [], harness := (true, "f589caf481bec687957ba1f611e225c6f46b39f4ac45d2aad82562e9529a82f6"), looks := false }, kinds := [], alts := [], laidByText := true, laidKinds := [.data], laidTests := true, laidLooks := .later }
def OctetTwiceUptoCardSaid : Prop := Claim7.holds Tryd.pinned (.plain (OpenSpec.upto octetTwiceSpec)) octetTwiceUptoCard

/-- THE SECOND FORM's CARD OF 'halyardlaw01.OctetUnseals'. -/
def octetUnsealsUptoCard : Claim7 := { stood := { row := octetUnsealsUptoRow, standIns := [], harness := (true, "f589caf481bec687957ba1f611e225c6f46b39f4ac45d2aad82562e9529a82f6"), looks := false }, kinds := [], alts := [], laidByText := true, laidKinds := [.data], laidTests := true, laidLooks := .later }
def OctetUnsealsUptoCardSaid : Prop := Claim7.holds Tryd.pinned (.plain (OpenSpec.upto octetUnsealsSpec)) octetUnsealsUptoCard

/-- THE SECOND FORM's CARD OF 'halyardlaw01.OctetSeal'. -/
def octetSealUptoCard : Claim7 := { stood := { row := octetSealUptoRow, standIns := [], harness := (true, "f589caf481bec687957ba1f611e225c6f46b39f4ac45d2aad82562e9529a82f6"), looks := false }, kinds := [], alts := [], laidByText := true, laidKinds := [.data], laidTests := true, laidLooks := .later }
def OctetSealUptoCardSaid : Prop := Claim7.holds Tryd.pinned (.plain (OpenSpec.upto octetSealSpec)) octetSealUptoCard

/-- THE SECOND FORM's CARD OF 'halyardlaw01.OctetBurst'. -/
def octetBurstUptoCard : Claim7 := { stood := { row := octetBurstUptoRow, standIns := [], harness := (true, "f589caf481bec687957ba1f611e225c6f46b39f4ac45d2aad82562e9529a82f6"), looks := false }, kinds := [], alts := [], laidByText := true, laidKinds := [.data], laidTests := true, laidLooks := .later }
def OctetBurstUptoCardSaid : Prop := Claim7.holds Tryd.pinned (.plain (OpenSpec.upto octetBurstSpec)) octetBurstUptoCard

/-- THE SECOND FORM's CARD OF 'halyardlaw01.OctetOver'. -/
def octetOverUptoCard : Claim7 := { stood := { row := octetOverUptoRow, standIns := [], harness := (true, "f589caf481bec687957ba1f611e225c6f46b39f4ac45d2aad82562e9529a82f6"), looks := false }, kinds := [], alts := [], laidByText := true, laidKinds := [.data], laidTests := true, laidLooks := .later }
def OctetOverUptoCardSaid : Prop := Claim7.holds Tryd.pinned (.plain (OpenSpec.upto octetOverSpec)) octetOverUptoCard

/-- THE SECOND FORM's CARD OF 'halyardlaw01.OctetBack'. -/
def octetBackUptoCard : Claim7 := { stood := { row := octetBackUptoRow, standIns := [], harness := (true, "f589caf481bec687957ba1f611e225c6f46b39f4ac45d2aad82562e9529a82f6"), looks := false }, kinds := [], alts := [], laidByText := true, laidKinds := [.data], laidTests := true, laidLooks := .later }
def OctetBackUptoCardSaid : Prop := Claim7.holds Tryd.pinned (.plain (OpenSpec.upto octetBackSpec)) octetBackUptoCard

/-- THE SECOND FORM's CARD OF 'halyardlaw01.OctetNil'. -/
def octetNilUptoCard : Claim7 := { stood := { row := octetNilUptoRow, standIns := [], harness := (true, "f589caf481bec687957ba1f611e225c6f46b39f4ac45d2aad82562e9529a82f6"), looks := false }, kinds := [], alts := [], laidByText := true, laidKinds := [.data], laidTests := true, laidLooks := .later }
def OctetNilUptoCardSaid : Prop := Claim7.holds Tryd.pinned (.plain (OpenSpec.upto octetNilSpec)) octetNilUptoCard

/-- THE SECOND FORM's CARD OF 'halyardlaw01.OctetOwn'. -/
def octetOwnUptoCard : Claim7 := { stood := { row := octetOwnUptoRow, standIns := [], harness := (true, "f589caf481bec687957ba1f611e225c6f46b39f4ac45d2aad82562e9529a82f6"), looks := false }, kinds := [], alts := [], laidByText := true, laidKinds := [.data], laidTests := true, laidLooks := .later }
def OctetOwnUptoCardSaid : Prop := Claim7.holds Tryd.pinned (.plain (OpenSpec.upto octetOwnSpec)) octetOwnUptoCard
end Rows
end Go.Proofs.YtjhndppmpldfbaaDoor
