/-
  DERIVED. GIVEN WITH THE SEED: THE CARDS: each row of YtomkbpoicjabfaaGreatDoorRows.lean that lists a variable, with what it lists TIED to the program's text (the seventh form; the later family's looks); each row that meets fmt, with fmt's text TOLD by the authors' own Lean function (tested against real Go, not proved from fmt's source: count such statements apart). THE CARD IS WHAT COUNTS. Prove the row's statement (the work); the ties are given (YtomkbpoicjabfaaGreatDoorTie.lean); close each card by the builder's one call (the guide's Derived/Test/ToyasCard.lean, 'card_holds'). Laid BY PROGRAM, IN A SANDBOX (cutbox-door.mjs). By AI agents, Wed Nov 11 2026. No macro, syntax, notation, axiom, sorry.
-/
import Derived.Test.YtomkbpoicjabfaaGreatDoorRows
import GoSem.ClaimSeven
namespace Go.Proofs.YtomkbpoicjabfaaGreatDoor
namespace Rows

/-- THE TIED CARD OF 'agraffelaw04.ActionTexts'. -/
def actionTextsCard : Claim7 := { stood := { row := actionTextsRow, standIns := [], harness := (true, "5deea5b9bf084ed147e30e65306b3183098d0628367aec31b9dafa863e97c166"), looks := true }, kinds := [], alts := [], laidByText := true, laidKinds := [.data, .data, .data, .data, .sentinel, .sentinel, .pinned], laidTests := true, laidLooks := .later }
def ActionTextsCardSaid : Prop := Claim7.holds Tryz.pinned (.plain (OpenSpec.ofChange actionTextsSpec)) actionTextsCard

/-- THE TIED CARD OF 'agraffelaw04.ActionChecks'. -/
def actionChecksCard : Claim7 := { stood := { row := actionChecksRow, standIns := [], harness := (true, "5deea5b9bf084ed147e30e65306b3183098d0628367aec31b9dafa863e97c166"), looks := true }, kinds := [], alts := [], laidByText := true, laidKinds := [.data, .data, .data, .data, .sentinel, .sentinel, .pinned], laidTests := true, laidLooks := .later }
def ActionChecksCardSaid : Prop := Claim7.holds Tryz.pinned (.plain (OpenSpec.ofChange actionChecksSpec)) actionChecksCard

/-- THE SECOND FORM's CARD OF 'agraffelaw04.ActionTexts'. -/
def actionTextsUptoCard : Claim7 := { stood := { row := actionTextsUptoRow, standIns := [], harness := (true, "5deea5b9bf084ed147e30e65306b3183098d0628367aec31b9dafa863e97c166"), looks := true }, kinds := [], alts := [], laidByText := true, laidKinds := [.data, .data, .data, .data, .sentinel, .sentinel, .pinned], laidTests := true, laidLooks := .later }
def ActionTextsUptoCardSaid : Prop := Claim7.holds Tryz.pinned (.plain (OpenSpec.upto actionTextsSpec)) actionTextsUptoCard

/-- THE SECOND FORM's CARD OF 'agraffelaw04.ActionChecks'. -/
def actionChecksUptoCard : Claim7 := { stood := { row := actionChecksUptoRow, standIns := [], harness := (true, "5deea5b9bf084ed147e30e65306b3183098d0628367aec31b9dafa863e97c166"), looks := true }, kinds := [], alts := [], laidByText := true, laidKinds := [.data, .data, .data, .data, .sentinel, .sentinel, .pinned], laidTests := true, laidLooks := .later }
def ActionChecksUptoCardSaid : Prop := Claim7.holds Tryz.pinned (.plain (OpenSpec.upto actionChecksSpec)) actionChecksUptoCard
end Rows
end Go.Proofs.YtomkbpoicjabfaaGreatDoor
