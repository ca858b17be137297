/-
  DERIVED. GIVEN WITH THE SEED: THE CARDS: each row of YtjonlmpjdhoogaaGreatDoorRows.lean that lists a variable, with what it lists TIED to the program's text (the seventh form; the later family's looks); each row that meets fmt, with fmt's text TOLD by the authors' own Lean function (tested against real Go, not proved from fmt's source: count such statements apart). THE CARD IS WHAT COUNTS. Prove the row's statement (the work); the ties are given (YtjonlmpjdhoogaaGreatDoorTie.lean); close each card by the builder's one call (the guide's Derived/Test/ToyasCard.lean, 'card_holds'). Laid BY PROGRAM, IN A SANDBOX (cutbox-door.mjs). By AI agents, Wed Nov 11 2026. No macro, syntax, notation, axiom, sorry.
-/
import Derived.Test.YtjonlmpjdhoogaaGreatDoorRows
import GoSem.ClaimSeven
namespace Go.Proofs.YtjonlmpjdhoogaaGreatDoor
namespace Rows

/-- THE TIED CARD OF 'agraffelaw03.PlateTexts'. -/
def plateTextsCard : Claim7 := { stood := { row := plateTextsRow, standIns := [], harness := (true, "843e0790c1f934b10455c9da1995ad401b8f1c9b1162f8f01f83db4eabf98d38"), looks := true }, kinds := [], alts := [], laidByText := true, laidKinds := [.data, .data, .data, .data, .sentinel, .sentinel, .pinned], laidTests := true, laidLooks := .later }
def PlateTextsCardSaid : Prop := Claim7.holds Tryz.pinned (.plain (OpenSpec.ofChange plateTextsSpec)) plateTextsCard

/-- THE SECOND FORM's CARD OF 'agraffelaw03.PlateTexts'. -/
def plateTextsUptoCard : Claim7 := { stood := { row := plateTextsUptoRow, standIns := [], harness := (true, "843e0790c1f934b10455c9da1995ad401b8f1c9b1162f8f01f83db4eabf98d38"), looks := true }, kinds := [], alts := [], laidByText := true, laidKinds := [.data, .data, .data, .data, .sentinel, .sentinel, .pinned], laidTests := true, laidLooks := .later }
def PlateTextsUptoCardSaid : Prop := Claim7.holds Tryz.pinned (.plain (OpenSpec.upto plateTextsSpec)) plateTextsUptoCard
end Rows
end Go.Proofs.YtjonlmpjdhoogaaGreatDoor
