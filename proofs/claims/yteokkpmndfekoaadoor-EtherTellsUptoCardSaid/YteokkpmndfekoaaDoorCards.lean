/-
  DERIVED. GIVEN WITH THE SEED: THE CARDS: each row of YteokkpmndfekoaaDoorRows.lean that lists a variable, with what it lists TIED to the program's text (the seventh form; the later family's looks); each row that meets fmt, with fmt's text TOLD by the authors' own Lean function (tested against real Go, not proved from fmt's source: count such statements apart). THE CARD IS WHAT COUNTS. Prove the row's statement (the work); the ties are given (YteokkpmndfekoaaDoorTie.lean); close each card by the builder's one call (the guide's Derived/Test/ToyasCard.lean, 'card_holds'). Laid BY PROGRAM, IN A SANDBOX (cutbox-door.mjs). By AI agents, Wed Nov 11 2026. No macro, syntax, notation, axiom, sorry.
-/
import Derived.Test.YteokkpmndfekoaaDoorRows
import GoSem.ClaimSeven
namespace Go.Proofs.YteokkpmndfekoaaDoor
namespace Rows

/-- THE TIED CARD OF 'halyardlaw11.EtherNone'. -/
def etherNoneCard : Claim7 := { stood := { row := etherNoneRow, standIns := [], harness := (true, "e827700827bcee73b092aca47a29123370b8aa1c71d08c0b58ad7d2c72e8ec33"), looks := false }, kinds := [], alts := [], laidByText := true, laidKinds := [.data], laidTests := true, laidLooks := .later }
def EtherNoneCardSaid : Prop := Claim7.holds Tryd.pinned (.plain (OpenSpec.ofChange etherNoneSpec)) etherNoneCard

/-- THE TIED CARD OF 'halyardlaw11.EtherOwn'. -/
def etherOwnCard : Claim7 := { stood := { row := etherOwnRow, standIns := [], harness := (true, "e827700827bcee73b092aca47a29123370b8aa1c71d08c0b58ad7d2c72e8ec33"), looks := false }, kinds := [], alts := [], laidByText := true, laidKinds := [.data], laidTests := true, laidLooks := .later }
def EtherOwnCardSaid : Prop := Claim7.holds Tryd.pinned (.plain (OpenSpec.ofChange etherOwnSpec)) etherOwnCard

/-- THE TIED CARD OF 'halyardlaw11.EtherCalls'. -/
def etherCallsCard : Claim7 := { stood := { row := etherCallsRow, standIns := [], harness := (true, "e827700827bcee73b092aca47a29123370b8aa1c71d08c0b58ad7d2c72e8ec33"), looks := false }, kinds := [], alts := [], laidByText := true, laidKinds := [.data], laidTests := true, laidLooks := .later }
def EtherCallsCardSaid : Prop := Claim7.holds Tryd.pinned (.plain (OpenSpec.ofChange etherCallsSpec)) etherCallsCard

/-- THE TIED CARD OF 'halyardlaw11.EtherTells'. -/
def etherTellsCard : Claim7 := { stood := { row := etherTellsRow, standIns := [], harness := (true, "e827700827bcee73b092aca47a29123370b8aa1c71d08c0b58ad7d2c72e8ec33"), looks := false }, kinds := [], alts := [], laidByText := true, laidKinds := [.data, .data], laidTests := true, laidLooks := .later }
def EtherTellsCardSaid : Prop := Claim7.holds Tryd.pinned (.plain (OpenSpec.ofChange etherTellsSpec)) etherTellsCard

/-- THE SECOND FORM's CARD OF 'halyardlaw11.EtherNone'. -/
def etherNoneUptoCard : Claim7 := { stood := { row := etherNoneUptoRow, standIns := [], harness := (true, "e827700827bcee73b092aca47a29123370b8aa1c71d08c0b58ad7d2c72e8ec33"), looks := false }, kinds := [], alts := [], laidByText := true, laidKinds := [.data], laidTests := true, laidLooks := .later }
def EtherNoneUptoCardSaid : Prop := Claim7.holds Tryd.pinned (.plain (OpenSpec.upto etherNoneSpec)) etherNoneUptoCard

/-- THE SECOND FORM's CARD OF 'halyardlaw11.EtherOwn'. -/
def etherOwnUptoCard : Claim7 := { stood := { row := etherOwnUptoRow, standIns := [], harness := (true, "e827700827bcee73b092aca47a29123370b8aa1c71d08c0b58ad7d2c72e8ec33"), looks := false }, kinds := [], alts := [], laidByText := true, laidKinds := [.data], laidTests := true, laidLooks := .later }
def EtherOwnUptoCardSaid : Prop := Claim7.holds Tryd.pinned (.plain (OpenSpec.upto etherOwnSpec)) etherOwnUptoCard

/-- THE SECOND FORM's CARD OF 'halyardlaw11.EtherCalls'. -/
def etherCallsUptoCard : Claim7 := { stood := { row := etherCallsUptoRow, standIns := [], harness := (true, "e827700827bcee73b092aca47a29123370b8aa1c71d08c0b58ad7d2c72e8ec33"), looks := false }, kinds := [], alts := [], laidByText := true, laidKinds := [.data], laidTests := true, laidLooks := .later }
def EtherCallsUptoCardSaid : Prop := Claim7.holds Tryd.pinned (.plain (OpenSpec.upto etherCallsSpec)) etherCallsUptoCard

/-- THE SECOND FORM's CARD OF 'halyardlaw11.EtherTells'. -/
def etherTellsUptoCard : Claim7 := { stood := { row := etherTellsUptoRow, standIns := [], harness := (true, "e827700827bcee73b092aca47a29123370b8aa1c71d08c0b58ad7d2c72e8ec33"), looks := false }, kinds := [], alts := [], laidByText := true, laidKinds := [.data, .data], laidTests := true, laidLooks := .later }
def EtherTellsUptoCardSaid : Prop := Claim7.holds Tryd.pinned (.plain (OpenSpec.upto etherTellsSpec)) etherTellsUptoCard
end Rows
end Go.Proofs.YteokkpmndfekoaaDoor
