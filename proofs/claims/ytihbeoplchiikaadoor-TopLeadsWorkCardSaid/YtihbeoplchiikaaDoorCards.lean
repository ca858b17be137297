/-
  DERIVED. GIVEN WITH THE SEED: THE CARDS: each row of YtihbeoplchiikaaDoorRows.lean that lists a variable, with what it lists TIED to the program's text (the seventh form; the later family's looks); each row that meets fmt, with fmt's text TOLD by the authors' own Lean function (tested against real Go, not proved from fmt's source: count such statements apart). THE CARD IS WHAT COUNTS. Prove the row's statement (the work); the ties are given (YtihbeoplchiikaaDoorTie.lean); close each card by the builder's one call (the guide's Derived/Test/ToyasCard.lean, 'card_holds'). Laid BY PROGRAM, IN A SANDBOX (cutbox-door.mjs). By AI agents, Wed Nov 11 2026. No macro, syntax, notation, axiom, sorry.
-/
import Derived.Test.YtihbeoplchiikaaDoorRows
import GoSem.ClaimSeven
namespace Go.Proofs.YtihbeoplchiikaaDoor
namespace Rows

/-- THE TIED CARD OF 'agraffetop.TopLeadsWork'. -/
def topLeadsWorkCard : Claim7 := { stood := { row := topLeadsWorkRow, standIns := [], harness := (true, "f1b1d9d5813e720b9bad1e2eebf8de278a161230601c1034958032243bea5ec6"), looks := false }, kinds := [], alts := [], laidByText := true, laidKinds := [.data, .data], laidTests := true, laidLooks := .later }
def TopLeadsWorkCardSaid : Prop := Claim7.holds Tryd.pinned (.plain (OpenSpec.ofChange topLeadsWorkSpec)) topLeadsWorkCard

/-- THE SECOND FORM's CARD OF 'agraffetop.TopLeadsWork'. -/
def topLeadsWorkUptoCard : Claim7 := { stood := { row := topLeadsWorkUptoRow, standIns := [], harness := (true, "f1b1d9d5813e720b9bad1e2eebf8de278a161230601c1034958032243bea5ec6"), looks := false }, kinds := [], alts := [], laidByText := true, laidKinds := [.data, .data], laidTests := true, laidLooks := .later }
def TopLeadsWorkUptoCardSaid : Prop := Claim7.holds Tryd.pinned (.plain (OpenSpec.upto topLeadsWorkSpec)) topLeadsWorkUptoCard
end Rows
end Go.Proofs.YtihbeoplchiikaaDoor
