/-
  DERIVED. GIVEN WITH THE SEED: THE CARDS: each row of YtcjidlgmbjebjaaDoorRows.lean that lists a variable, with what it lists TIED to the program's text (the seventh form; the later family's looks); each row that meets fmt, with fmt's text TOLD by the authors' own Lean function (tested against real Go, not proved from fmt's source: count such statements apart). THE CARD IS WHAT COUNTS. Prove the row's statement (the work); the ties are given (YtcjidlgmbjebjaaDoorTie.lean); close each card by the builder's one call (the guide's Derived/Test/ToyasCard.lean, 'card_holds'). Laid BY PROGRAM, IN A SANDBOX (cutbox-door.mjs). By AI agents, Wed Nov 11 2026. No macro, syntax, notation, axiom, sorry.
-/
import Derived.Test.YtcjidlgmbjebjaaDoorRows
import GoSem.ClaimSeven
namespace Go.Proofs.YtcjidlgmbjebjaaDoor
namespace Rows

/-- THE TIED CARD OF 'hachurelaw22.SchemaAsks'. -/
def schemaAsksCard : Claim7 := { stood := { row := schemaAsksRow, standIns := [], harness := (true, "6c010bcf76efb6c2e6258e95950ee646097078935b9a1d75e37fc121407332f2"), looks := true }, kinds := [], alts := [], laidByText := true, laidKinds := [.data, .data, .data, .data, .widerDeep], laidTests := true, laidLooks := .later }
def SchemaAsksCardSaid : Prop := Claim7.holds Tryd.pinned (.plain (OpenSpec.ofChange schemaAsksSpec)) schemaAsksCard

/-- THE TIED CARD OF 'hachurelaw21.ValueForms'. -/
def valueFormsCard : Claim7 := { stood := { row := valueFormsRow, standIns := [], harness := (true, "6c010bcf76efb6c2e6258e95950ee646097078935b9a1d75e37fc121407332f2"), looks := true }, kinds := [], alts := [], laidByText := true, laidKinds := [.data, .data, .data], laidTests := true, laidLooks := .later }
def ValueFormsCardSaid : Prop := Claim7.holds Tryd.pinned (.plain (OpenSpec.ofChange valueFormsSpec)) valueFormsCard

/-- THE TIED CARD OF 'hachurelaw21.ValueOrder'. -/
def valueOrderCard : Claim7 := { stood := { row := valueOrderRow, standIns := [], harness := (true, "6c010bcf76efb6c2e6258e95950ee646097078935b9a1d75e37fc121407332f2"), looks := true }, kinds := [], alts := [], laidByText := true, laidKinds := [.data, .data, .data], laidTests := true, laidLooks := .later }
def ValueOrderCardSaid : Prop := Claim7.holds Tryd.pinned (.plain (OpenSpec.ofChange valueOrderSpec)) valueOrderCard

/-- THE TIED CARD OF 'hachurelaw21.ValueSays'. -/
def valueSaysCard : Claim7 := { stood := { row := valueSaysRow, standIns := [], harness := (true, "6c010bcf76efb6c2e6258e95950ee646097078935b9a1d75e37fc121407332f2"), looks := true }, kinds := [], alts := [], laidByText := true, laidKinds := [.data, .data, .data], laidTests := true, laidLooks := .later }
def ValueSaysCardSaid : Prop := Claim7.holds Tryd.pinned (.plain (OpenSpec.ofChange valueSaysSpec)) valueSaysCard

/-- THE TIED CARD OF 'hachurelaw22.SchemaForms'. -/
def schemaFormsCard : Claim7 := { stood := { row := schemaFormsRow, standIns := [], harness := (true, "6c010bcf76efb6c2e6258e95950ee646097078935b9a1d75e37fc121407332f2"), looks := true }, kinds := [], alts := [], laidByText := true, laidKinds := [.data, .data, .data, .data, .widerDeep], laidTests := true, laidLooks := .later }
def SchemaFormsCardSaid : Prop := Claim7.holds Tryd.pinned (.plain (OpenSpec.ofChange schemaFormsSpec)) schemaFormsCard

/-- THE TIED CARD OF 'hachurelaw22.SchemaBack'. -/
def schemaBackCard : Claim7 := { stood := { row := schemaBackRow, standIns := [], harness := (true, "6c010bcf76efb6c2e6258e95950ee646097078935b9a1d75e37fc121407332f2"), looks := true }, kinds := [], alts := [], laidByText := true, laidKinds := [.data, .data, .data, .data, .widerDeep], laidTests := true, laidLooks := .later }
def SchemaBackCardSaid : Prop := Claim7.holds Tryd.pinned (.plain (OpenSpec.ofChange schemaBackSpec)) schemaBackCard

/-- THE TIED CARD OF 'hachurelaw21.ValueBack'. -/
def valueBackCard : Claim7 := { stood := { row := valueBackRow, standIns := [], harness := (true, "6c010bcf76efb6c2e6258e95950ee646097078935b9a1d75e37fc121407332f2"), looks := true }, kinds := [], alts := [], laidByText := true, laidKinds := [.data, .data, .data, .sentinel, .sentinel], laidTests := true, laidLooks := .later }
def ValueBackCardSaid : Prop := Claim7.holds Tryd.pinned (.plain (OpenSpec.ofChange valueBackSpec)) valueBackCard

/-- THE TIED CARD OF 'hachurelaw17.WktNumbers'. -/
def wktNumbersCard : Claim7 := { stood := { row := wktNumbersRow, standIns := [], harness := (true, "6c010bcf76efb6c2e6258e95950ee646097078935b9a1d75e37fc121407332f2"), looks := true }, kinds := [], alts := [], laidByText := true, laidKinds := [.data, .data, .data, .data, .data, .pinned], laidTests := true, laidLooks := .later }
def WktNumbersCardSaid : Prop := Claim7.holds Tryd.pinned (.plain (OpenSpec.ofChange wktNumbersSpec)) wktNumbersCard

/-- THE SECOND FORM's CARD OF 'hachurelaw22.SchemaAsks'. -/
def schemaAsksUptoCard : Claim7 := { stood := { row := schemaAsksUptoRow, standIns := [], harness := (true, "6c010bcf76efb6c2e6258e95950ee646097078935b9a1d75e37fc121407332f2"), looks := true }, kinds := [], alts := [], laidByText := true, laidKinds := [.data, .data, .data, .data, .widerDeep], laidTests := true, laidLooks := .later }
def SchemaAsksUptoCardSaid : Prop := Claim7.holds Tryd.pinned (.plain (OpenSpec.upto schemaAsksSpec)) schemaAsksUptoCard

/-- THE SECOND FORM's CARD OF 'hachurelaw21.ValueForms'. -/
def valueFormsUptoCard : Claim7 := { stood := { row := valueFormsUptoRow, standIns := [], harness := (true, "6c010bcf76efb6c2e6258e95950ee646097078935b9a1d75e37fc121407332f2"), looks := true }, kinds := [], alts := [], laidByText := true, laidKinds := [.data, .data, .data], laidTests := true, laidLooks := .later }
def ValueFormsUptoCardSaid : Prop := Claim7.holds Tryd.pinned (.plain (OpenSpec.upto valueFormsSpec)) valueFormsUptoCard

/-- THE SECOND FORM's CARD OF 'hachurelaw21.ValueOrder'. -/
def valueOrderUptoCard : Claim7 := { stood := { row := valueOrderUptoRow, standIns := [], harness := (true, "6c010bcf76efb6c2e6258e95950ee646097078935b9a1d75e37fc121407332f2"), looks := true }, kinds := [], alts := [], laidByText := true, laidKinds := [.data, .data, .data], laidTests := true, laidLooks := .later }
def ValueOrderUptoCardSaid : Prop := Claim7.holds Tryd.pinned (.plain (OpenSpec.upto valueOrderSpec)) valueOrderUptoCard

/-- THE SECOND FORM's CARD OF 'hachurelaw21.ValueSays'. -/
def valueSaysUptoCard : Claim7 := { stood := { row := valueSaysUptoRow, standIns := [], harness := (true, "6c010bcf76efb6c2e6258e95950ee646097078935b9a1d75e37fc121407332f2"), looks := true }, kinds := [], alts := [], laidByText := true, laidKinds := [.data, .data, .data], laidTests := true, laidLooks := .later }
def ValueSaysUptoCardSaid : Prop := Claim7.holds Tryd.pinned (.plain (OpenSpec.upto valueSaysSpec)) valueSaysUptoCard

/-- THE SECOND FORM's CARD OF 'hachurelaw22.SchemaForms'. -/
def schemaFormsUptoCard : Claim7 := { stood := { row := schemaFormsUptoRow, standIns := [], harness := (true, "6c010bcf76efb6c2e6258e95950ee646097078935b9a1d75e37fc121407332f2"), looks := true }, kinds := [], alts := [], laidByText := true, laidKinds := [.data, .data, .data, .data, .widerDeep], laidTests := true, laidLooks := .later }
def SchemaFormsUptoCardSaid : Prop := Claim7.holds Tryd.pinned (.plain (OpenSpec.upto schemaFormsSpec)) schemaFormsUptoCard

/-- THE SECOND FORM's CARD OF 'hachurelaw22.SchemaBack'. -/
def schemaBackUptoCard : Claim7 := { stood := { row := schemaBackUptoRow, standIns := [], harness := (true, "6c010bcf76efb6c2e6258e95950ee646097078935b9a1d75e37fc121407332f2"), looks := true }, kinds := [], alts := [], laidByText := true, laidKinds := [.data, .data, .data, .data, .widerDeep], laidTests := true, laidLooks := .later }
def SchemaBackUptoCardSaid : Prop := Claim7.holds Tryd.pinned (.plain (OpenSpec.upto schemaBackSpec)) schemaBackUptoCard

/-- THE SECOND FORM's CARD OF 'hachurelaw21.ValueBack'. -/
def valueBackUptoCard : Claim7 := { stood := { row := valueBackUptoRow, standIns := [], harness := (true, "6c010bcf76efb6c2e6258e95950ee646097078935b9a1d75e37fc121407332f2"), looks := true }, kinds := [], alts := [], laidByText := true, laidKinds := [.data, .data, .data, .sentinel, .sentinel], laidTests := true, laidLooks := .later }
def ValueBackUptoCardSaid : Prop := Claim7.holds Tryd.pinned (.plain (OpenSpec.upto valueBackSpec)) valueBackUptoCard

/-- THE SECOND FORM's CARD OF 'hachurelaw17.WktNumbers'. -/
def wktNumbersUptoCard : Claim7 := { stood := { row := wktNumbersUptoRow, standIns := [], harness := (true, "6c010bcf76efb6c2e6258e95950ee646097078935b9a1d75e37fc121407332f2"), looks := true }, kinds := [], alts := [], laidByText := true, laidKinds := [.data, .data, .data, .data, .data, .pinned], laidTests := true, laidLooks := .later }
def WktNumbersUptoCardSaid : Prop := Claim7.holds Tryd.pinned (.plain (OpenSpec.upto wktNumbersSpec)) wktNumbersUptoCard
end Rows
end Go.Proofs.YtcjidlgmbjebjaaDoor
