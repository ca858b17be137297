/-
  DERIVED. GIVEN WITH THE SEED: THE CARDS: each row of YtookikhphobnlaaGreatDoorRows.lean that lists a variable, with what it lists TIED to the program's text (the seventh form; the later family's looks); each row that meets fmt, with fmt's text TOLD by the authors' own Lean function (tested against real Go, not proved from fmt's source: count such statements apart). THE CARD IS WHAT COUNTS. Prove the row's statement (the work); the ties are given (YtookikhphobnlaaGreatDoorTie.lean); close each card by the builder's one call (the guide's Derived/Test/ToyasCard.lean, 'card_holds'). Laid BY PROGRAM, IN A SANDBOX (cutbox-door.mjs). By AI agents, Wed Nov 11 2026. No macro, syntax, notation, axiom, sorry.
-/
import Derived.Test.YtookikhphobnlaaGreatDoorRows
import GoSem.ClaimSeven
namespace Go.Proofs.YtookikhphobnlaaGreatDoor
namespace Rows

/-- THE TIED CARD OF 'agraffelaw05.RegulationTexts'. -/
def regulationTextsCard : Claim7 := { stood := { row := regulationTextsRow, standIns := [], harness := (true, "893239818132d482b8f5a2c07815ba9c486e6456e95d8ed6036a09ba2564eb95"), looks := true }, kinds := [], alts := [], laidByText := true, laidKinds := [.data, .data, .data, .data, .sentinel, .sentinel, .pinned], laidTests := true, laidLooks := .later }
def RegulationTextsCardSaid : Prop := Claim7.holds Tryz.pinned (.plain (OpenSpec.ofChange regulationTextsSpec)) regulationTextsCard

/-- THE TIED CARD OF 'agraffelaw05.RegulationBenches'. -/
def regulationBenchesCard : Claim7 := { stood := { row := regulationBenchesRow, standIns := [], harness := (true, "893239818132d482b8f5a2c07815ba9c486e6456e95d8ed6036a09ba2564eb95"), looks := true }, kinds := [], alts := [], laidByText := true, laidKinds := [.data, .data, .data, .data, .sentinel, .sentinel, .pinned], laidTests := true, laidLooks := .later }
def RegulationBenchesCardSaid : Prop := Claim7.holds Tryz.pinned (.plain (OpenSpec.ofChange regulationBenchesSpec)) regulationBenchesCard

/-- THE SECOND FORM's CARD OF 'agraffelaw05.RegulationTexts'. -/
def regulationTextsUptoCard : Claim7 := { stood := { row := regulationTextsUptoRow, standIns := [], harness := (true, "893239818132d482b8f5a2c07815ba9c486e6456e95d8ed6036a09ba2564eb95"), looks := true }, kinds := [], alts := [], laidByText := true, laidKinds := [.data, .data, .data, .data, .sentinel, .sentinel, .pinned], laidTests := true, laidLooks := .later }
def RegulationTextsUptoCardSaid : Prop := Claim7.holds Tryz.pinned (.plain (OpenSpec.upto regulationTextsSpec)) regulationTextsUptoCard

/-- THE SECOND FORM's CARD OF 'agraffelaw05.RegulationBenches'. -/
def regulationBenchesUptoCard : Claim7 := { stood := { row := regulationBenchesUptoRow, standIns := [], harness := (true, "893239818132d482b8f5a2c07815ba9c486e6456e95d8ed6036a09ba2564eb95"), looks := true }, kinds := [], alts := [], laidByText := true, laidKinds := [.data, .data, .data, .data, .sentinel, .sentinel, .pinned], laidTests := true, laidLooks := .later }
def RegulationBenchesUptoCardSaid : Prop := Claim7.holds Tryz.pinned (.plain (OpenSpec.upto regulationBenchesSpec)) regulationBenchesUptoCard
end Rows
end Go.Proofs.YtookikhphobnlaaGreatDoor
