/-
  DERIVED. GIVEN WITH THE SEED: THE CARDS: each row of YtihbeoplchiikaaGreatDoorRows.lean that lists a variable, with what it lists TIED to the program's text (the seventh form; the later family's looks); each row that meets fmt, with fmt's text TOLD by the authors' own Lean function (tested against real Go, not proved from fmt's source: count such statements apart). THE CARD IS WHAT COUNTS. Prove the row's statement (the work); the ties are given (YtihbeoplchiikaaGreatDoorTie.lean); close each card by the builder's one call (the guide's Derived/Test/ToyasCard.lean, 'card_holds'). Laid BY PROGRAM, IN A SANDBOX (cutbox-door.mjs). By AI agents, Wed Nov 11 2026. No macro, syntax, notation, axiom, sorry.
-/
import Derived.Test.YtihbeoplchiikaaGreatDoorRows
import GoSem.ClaimSeven
namespace Go.Proofs.YtihbeoplchiikaaGreatDoor
namespace Rows

/-- THE TIED CARD OF 'agraffelaw04.ActionLeads'. -/
def actionLeadsCard : Claim7 := { stood := { row := actionLeadsRow, standIns := [], harness := (true, "7f796b641c4b9e95234d2e6e30e470a7e4428c40c8e60965d58bda1986c4fc1c"), looks := false }, kinds := [], alts := [], laidByText := true, laidKinds := [.data, .data], laidTests := true, laidLooks := .later }
def ActionLeadsCardSaid : Prop := Claim7.holds Tryz.pinned (.plain (OpenSpec.ofChange actionLeadsSpec)) actionLeadsCard

/-- THE SECOND FORM's CARD OF 'agraffelaw04.ActionLeads'. -/
def actionLeadsUptoCard : Claim7 := { stood := { row := actionLeadsUptoRow, standIns := [], harness := (true, "7f796b641c4b9e95234d2e6e30e470a7e4428c40c8e60965d58bda1986c4fc1c"), looks := false }, kinds := [], alts := [], laidByText := true, laidKinds := [.data, .data], laidTests := true, laidLooks := .later }
def ActionLeadsUptoCardSaid : Prop := Claim7.holds Tryz.pinned (.plain (OpenSpec.upto actionLeadsSpec)) actionLeadsUptoCard
end Rows
end Go.Proofs.YtihbeoplchiikaaGreatDoor
