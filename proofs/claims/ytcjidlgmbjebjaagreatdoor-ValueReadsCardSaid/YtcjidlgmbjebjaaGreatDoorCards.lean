/-
  DERIVED. GIVEN WITH THE SEED: THE CARDS: each row of YtcjidlgmbjebjaaGreatDoorRows.lean that lists a variable, with what it lists TIED to the program's text (the seventh form; the later family's looks); each row that meets fmt, with fmt's text TOLD by the authors' own Lean function (tested against real Go, not proved from fmt's source: count such statements apart). THE CARD IS WHAT COUNTS. Prove the row's statement (the work); the ties are given (YtcjidlgmbjebjaaGreatDoorTie.lean); close each card by the builder's one call (the guide's Derived/Test/ToyasCard.lean, 'card_holds'). Laid BY PROGRAM, IN A SANDBOX (cutbox-door.mjs). By AI agents, Wed Nov 11 2026. No macro, syntax, notation, axiom, sorry.
-/
import Derived.Test.YtcjidlgmbjebjaaGreatDoorRows
import GoSem.ClaimSeven
namespace Go.Proofs.YtcjidlgmbjebjaaGreatDoor
namespace Rows

/-- THE TIED CARD OF 'hachurelaw22.SchemaTakes'. -/
def schemaTakesCard : Claim7 := { stood := { row := schemaTakesRow, standIns := [], harness := (true, "d947dc350e0f4b3ae2fe9c85f8a514ca08f57eaaf53859965c5fe273b5183c9b"), looks := true }, kinds := [], alts := [], laidByText := true, laidKinds := [.data, .data, .data, .data, .data, .widerDeep], laidTests := true, laidLooks := .later }
def SchemaTakesCardSaid : Prop := Claim7.holds Tryz.pinned (.plain (OpenSpec.ofChange schemaTakesSpec)) schemaTakesCard

/-- THE TIED CARD OF 'hachurelaw21.ValueReads'. -/
def valueReadsCard : Claim7 := { stood := { row := valueReadsRow, standIns := [], harness := (true, "d947dc350e0f4b3ae2fe9c85f8a514ca08f57eaaf53859965c5fe273b5183c9b"), looks := true }, kinds := [], alts := [], laidByText := true, laidKinds := [.data, .data, .data, .sentinel, .sentinel], laidTests := true, laidLooks := .later }
def ValueReadsCardSaid : Prop := Claim7.holds Tryz.pinned (.plain (OpenSpec.ofChange valueReadsSpec)) valueReadsCard

/-- THE TIED CARD OF 'hachurelaw17.WktPrints'. -/
def wktPrintsCard : Claim7 := { stood := { row := wktPrintsRow, standIns := [], harness := (true, "d947dc350e0f4b3ae2fe9c85f8a514ca08f57eaaf53859965c5fe273b5183c9b"), looks := true }, kinds := [], alts := [], laidByText := true, laidKinds := [.data, .data, .data, .data, .data, .pinned], laidTests := true, laidLooks := .later }
def WktPrintsCardSaid : Prop := Claim7.holds Tryz.pinned (.plain (OpenSpec.ofChange wktPrintsSpec)) wktPrintsCard

/-- THE TIED CARD OF 'hachurelaw17.WktBack'. -/
def wktBackCard : Claim7 := { stood := { row := wktBackRow, standIns := [], harness := (true, "d947dc350e0f4b3ae2fe9c85f8a514ca08f57eaaf53859965c5fe273b5183c9b"), looks := true }, kinds := [], alts := [], laidByText := true, laidKinds := [.data, .data, .data, .data, .data, .pinned], laidTests := true, laidLooks := .later }
def WktBackCardSaid : Prop := Claim7.holds Tryz.pinned (.plain (OpenSpec.ofChange wktBackSpec)) wktBackCard

/-- THE SECOND FORM's CARD OF 'hachurelaw22.SchemaTakes'. -/
def schemaTakesUptoCard : Claim7 := { stood := { row := schemaTakesUptoRow, standIns := [], harness := (true, "d947dc350e0f4b3ae2fe9c85f8a514ca08f57eaaf53859965c5fe273b5183c9b"), looks := true }, kinds := [], alts := [], laidByText := true, laidKinds := [.data, .data, .data, .data, .data, .widerDeep], laidTests := true, laidLooks := .later }
def SchemaTakesUptoCardSaid : Prop := Claim7.holds Tryz.pinned (.plain (OpenSpec.upto schemaTakesSpec)) schemaTakesUptoCard

/-- THE SECOND FORM's CARD OF 'hachurelaw21.ValueReads'. -/
def valueReadsUptoCard : Claim7 := { stood := { row := valueReadsUptoRow, standIns := [], harness := (true, "d947dc350e0f4b3ae2fe9c85f8a514ca08f57eaaf53859965c5fe273b5183c9b"), looks := true }, kinds := [], alts := [], laidByText := true, laidKinds := [.data, .data, .data, .sentinel, .sentinel], laidTests := true, laidLooks := .later }
def ValueReadsUptoCardSaid : Prop := Claim7.holds Tryz.pinned (.plain (OpenSpec.upto valueReadsSpec)) valueReadsUptoCard

/-- THE SECOND FORM's CARD OF 'hachurelaw17.WktPrints'. -/
def wktPrintsUptoCard : Claim7 := { stood := { row := wktPrintsUptoRow, standIns := [], harness := (true, "d947dc350e0f4b3ae2fe9c85f8a514ca08f57eaaf53859965c5fe273b5183c9b"), looks := true }, kinds := [], alts := [], laidByText := true, laidKinds := [.data, .data, .data, .data, .data, .pinned], laidTests := true, laidLooks := .later }
def WktPrintsUptoCardSaid : Prop := Claim7.holds Tryz.pinned (.plain (OpenSpec.upto wktPrintsSpec)) wktPrintsUptoCard

/-- THE SECOND FORM's CARD OF 'hachurelaw17.WktBack'. -/
def wktBackUptoCard : Claim7 := { stood := { row := wktBackUptoRow, standIns := [], harness := (true, "d947dc350e0f4b3ae2fe9c85f8a514ca08f57eaaf53859965c5fe273b5183c9b"), looks := true }, kinds := [], alts := [], laidByText := true, laidKinds := [.data, .data, .data, .data, .data, .pinned], laidTests := true, laidLooks := .later }
def WktBackUptoCardSaid : Prop := Claim7.holds Tryz.pinned (.plain (OpenSpec.upto wktBackSpec)) wktBackUptoCard
end Rows
end Go.Proofs.YtcjidlgmbjebjaaGreatDoor
