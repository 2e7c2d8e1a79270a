/-
  DERIVED. GIVEN WITH THE SEED: THE CARDS: each row of YtfmbianmccppjaaGreatDoorRows.lean that lists a variable, with what it lists TIED to the program's text (the seventh form; the later family's looks); each row that meets fmt, with fmt's text TOLD by the authors' own Lean function (tested against real Go, not proved from fmt's source: count such statements apart). THE CARD IS WHAT COUNTS. Prove the row's statement (the work); the ties are given (YtfmbianmccppjaaGreatDoorTie.lean); close each card by the builder's one call (the guide's Derived/Test/ToyasCard.lean, 'card_holds'). Laid BY PROGRAM, IN A SANDBOX (cutbox-door.mjs). By AI agents, Wed Nov 11 2026. No macro, syntax, notation, axiom, sorry.
-/
import Derived.Test.YtfmbianmccppjaaGreatDoorRows
import GoSem.ClaimSeven
namespace Go.Proofs.YtfmbianmccppjaaGreatDoor
namespace Rows

/-- THE TIED CARD OF 'hachurelaw23.CatalogNone'. -/
def catalogNoneCard : Claim7 := { stood := { row := catalogNoneRow, standIns := [], harness := (true, "edb0ebd745dbb9b4b3eba05f0baa0f3e4e93174df18a6aacf5caf0cad53435ef"), looks := true }, kinds := [], alts := [], laidByText := true, laidKinds := [.data], laidTests := true, laidLooks := .later }
def CatalogNoneCardSaid : Prop := Claim7.holds Tryz.pinned (.plain (OpenSpec.ofChange catalogNoneSpec)) catalogNoneCard

/-- THE TIED CARD OF 'hachurelaw27.IntegrityNone'. -/
def integrityNoneCard : Claim7 := { stood := { row := integrityNoneRow, standIns := [], harness := (true, "edb0ebd745dbb9b4b3eba05f0baa0f3e4e93174df18a6aacf5caf0cad53435ef"), looks := true }, kinds := [], alts := [], laidByText := true, laidKinds := [.data, .data, .data], laidTests := true, laidLooks := .later }
def IntegrityNoneCardSaid : Prop := Claim7.holds Tryz.pinned (.plain (OpenSpec.ofChange integrityNoneSpec)) integrityNoneCard

/-- THE SECOND FORM's CARD OF 'hachurelaw23.CatalogNone'. -/
def catalogNoneUptoCard : Claim7 := { stood := { row := catalogNoneUptoRow, standIns := [], harness := (true, "edb0ebd745dbb9b4b3eba05f0baa0f3e4e93174df18a6aacf5caf0cad53435ef"), looks := true }, kinds := [], alts := [], laidByText := true, laidKinds := [.data], laidTests := true, laidLooks := .later }
def CatalogNoneUptoCardSaid : Prop := Claim7.holds Tryz.pinned (.plain (OpenSpec.upto catalogNoneSpec)) catalogNoneUptoCard

/-- THE SECOND FORM's CARD OF 'hachurelaw27.IntegrityNone'. -/
def integrityNoneUptoCard : Claim7 := { stood := { row := integrityNoneUptoRow, standIns := [], harness := (true, "edb0ebd745dbb9b4b3eba05f0baa0f3e4e93174df18a6aacf5caf0cad53435ef"), looks := true }, kinds := [], alts := [], laidByText := true, laidKinds := [.data, .data, .data], laidTests := true, laidLooks := .later }
def IntegrityNoneUptoCardSaid : Prop := Claim7.holds Tryz.pinned (.plain (OpenSpec.upto integrityNoneSpec)) integrityNoneUptoCard
end Rows
end Go.Proofs.YtfmbianmccppjaaGreatDoor
