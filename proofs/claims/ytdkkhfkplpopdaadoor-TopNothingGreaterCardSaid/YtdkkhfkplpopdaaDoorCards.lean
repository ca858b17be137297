/-
  DERIVED. GIVEN WITH THE SEED: THE CARDS: each row of YtdkkhfkplpopdaaDoorRows.lean that lists a variable, with what it lists TIED to the program's text (the seventh form; the later family's looks); each row that meets fmt, with fmt's text TOLD by the authors' own Lean function (tested against real Go, not proved from fmt's source: count such statements apart). THE CARD IS WHAT COUNTS. Prove the row's statement (the work); the ties are given (YtdkkhfkplpopdaaDoorTie.lean); close each card by the builder's one call (the guide's Derived/Test/ToyasCard.lean, 'card_holds'). Laid BY PROGRAM, IN A SANDBOX (cutbox-door.mjs). By AI agents, Wed Nov 11 2026. No macro, syntax, notation, axiom, sorry.
-/
import Derived.Test.YtdkkhfkplpopdaaDoorRows
import GoSem.ClaimSeven
namespace Go.Proofs.YtdkkhfkplpopdaaDoor
namespace Rows

/-- THE TIED CARD OF 'agraffetop.TopEnclosuresNest'. -/
def topEnclosuresNestCard : Claim7 := { stood := { row := topEnclosuresNestRow, standIns := [], harness := (true, "94b2e0ca56f420515d184683ee13b36fdf5b189cfe1cac75bb22973e28f74003"), looks := false }, kinds := [], alts := [], laidByText := true, laidKinds := [.data], laidTests := true, laidLooks := .later }
def TopEnclosuresNestCardSaid : Prop := Claim7.holds Tryd.pinned (.plain (OpenSpec.ofChange topEnclosuresNestSpec)) topEnclosuresNestCard

/-- THE TIED CARD OF 'agraffetop.TopNothingGreater'. -/
def topNothingGreaterCard : Claim7 := { stood := { row := topNothingGreaterRow, standIns := [], harness := (true, "94b2e0ca56f420515d184683ee13b36fdf5b189cfe1cac75bb22973e28f74003"), looks := false }, kinds := [], alts := [], laidByText := true, laidKinds := [.data], laidTests := true, laidLooks := .later }
def TopNothingGreaterCardSaid : Prop := Claim7.holds Tryd.pinned (.plain (OpenSpec.ofChange topNothingGreaterSpec)) topNothingGreaterCard

/-- THE SECOND FORM's CARD OF 'agraffetop.TopEnclosuresNest'. -/
def topEnclosuresNestUptoCard : Claim7 := { stood := { row := topEnclosuresNestUptoRow, standIns := [], harness := (true, "94b2e0ca56f420515d184683ee13b36fdf5b189cfe1cac75bb22973e28f74003"), looks := false }, kinds := [], alts := [], laidByText := true, laidKinds := [.data], laidTests := true, laidLooks := .later }
def TopEnclosuresNestUptoCardSaid : Prop := Claim7.holds Tryd.pinned (.plain (OpenSpec.upto topEnclosuresNestSpec)) topEnclosuresNestUptoCard

/-- THE SECOND FORM's CARD OF 'agraffetop.TopNothingGreater'. -/
def topNothingGreaterUptoCard : Claim7 := { stood := { row := topNothingGreaterUptoRow, standIns := [], harness := (true, "94b2e0ca56f420515d184683ee13b36fdf5b189cfe1cac75bb22973e28f74003"), looks := false }, kinds := [], alts := [], laidByText := true, laidKinds := [.data], laidTests := true, laidLooks := .later }
def TopNothingGreaterUptoCardSaid : Prop := Claim7.holds Tryd.pinned (.plain (OpenSpec.upto topNothingGreaterSpec)) topNothingGreaterUptoCard
end Rows
end Go.Proofs.YtdkkhfkplpopdaaDoor
