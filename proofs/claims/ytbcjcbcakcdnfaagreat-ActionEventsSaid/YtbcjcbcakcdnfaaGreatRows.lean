/-
  No cell of these rows narrows 'for every input' (looked for: loops, veiled, ifaces, maps, wideKeys, modest, calm, conditions, laid).
  DERIVED. THE GIVEN ROWS OF THIS SEAT. 3 by the template 'for every input the law returns true; each argument reads behind the call as it read before'; 0 by the template 'total and deterministic' (their statements: YtbcjcbcakcdnfaaGreatTotals.lean).
  GIVEN WITH THE SEED: the statements are not yours to turn. If you find one false, say at which input.
  Laid BY PROGRAM, IN A SANDBOX (cutbox-rows.mjs): the forced cells as the released guide's own fill.sh prints them over the translation 32c4654a6b267642… (all of the seat's roots in one cut). By AI agents, Wed Nov 11 2026. No macro, syntax, notation, axiom, sorry.
-/
import Derived.Test.YtbcjcbcakcdnfaaGreatChecked
import GoSem.Claim
import GoSem.ClaimJoined
import GoSem.ClaimMapViews
import Derived.JoinedTies
import Derived.KernelRfl
namespace Go.Proofs.YtbcjcbcakcdnfaaGreat
/- THE CELL 'sum', in the pinned program and in every row, IS THE sha256 OF THE DUMP (.gsa) THAT YtbcjcbcakcdnfaaGreatProg.lean LOADS. Nothing in Lean hashes anything: it is a label: what it is worth is what the hold of that sum in a sandbox is worth. -/
noncomputable def Tryz.pinned : Pinned := { name := "ytbcjcbcakcdnfaagreat", sum := "32c4654a6b2676422619977a92e7f55fa61b934dbd3e8a7213351246c41b5654", checked := Tryz.checked }
namespace Rows
def none {H : Type} : Left H := { results := [], args := [] }

/-- 'agraffelaw04.ActionLighter': WHATEVER THE INPUT: true; the input reads as it did. -/
def actionLighterSpec : ChangeSpec := { name := "actionLighter", fn := fun _ => fun
  | [d1, d2, d3] => { results := [.lit (.bool true)], args := [d1, d2, d3] }
  | _ => none }
def actionLighterRow : OpenClaim := { program := "ytbcjcbcakcdnfaagreat", sum := "32c4654a6b2676422619977a92e7f55fa61b934dbd3e8a7213351246c41b5654", func := "agraffe/agraffelaw04.ActionLighter", spec := "actionLighter", unfollowed := true, recurses := true, apart := false }
def ActionLighterSaid : Prop := actionLighterRow.holds Tryz.pinned (OpenSpec.ofChange actionLighterSpec)

/-- ITS FALSE NEIGHBOUR: 'it returns false'. Refute it at one input. -/
def actionLighterWrong : ChangeSpec := { name := "actionLighter", fn := fun _ => fun
  | [d1, d2, d3] => { results := [.lit (.bool false)], args := [d1, d2, d3] }
  | _ => none }
def ActionLighterWrongFalsely : Prop := actionLighterRow.holds Tryz.pinned (OpenSpec.ofChange actionLighterWrong)

/-- 'agraffelaw04.ActionEvents': WHATEVER THE INPUT: true; the input reads as it did. -/
def actionEventsSpec : ChangeSpec := { name := "actionEvents", fn := fun _ => fun
  | [d1, d2, d3] => { results := [.lit (.bool true)], args := [d1, d2, d3] }
  | _ => none }
def actionEventsRow : OpenClaim := { program := "ytbcjcbcakcdnfaagreat", sum := "32c4654a6b2676422619977a92e7f55fa61b934dbd3e8a7213351246c41b5654", func := "agraffe/agraffelaw04.ActionEvents", spec := "actionEvents", unfollowed := true, recurses := true, apart := false }
def ActionEventsSaid : Prop := actionEventsRow.holds Tryz.pinned (OpenSpec.ofChange actionEventsSpec)

/-- ITS FALSE NEIGHBOUR: 'it returns false'. Refute it at one input. -/
def actionEventsWrong : ChangeSpec := { name := "actionEvents", fn := fun _ => fun
  | [d1, d2, d3] => { results := [.lit (.bool false)], args := [d1, d2, d3] }
  | _ => none }
def ActionEventsWrongFalsely : Prop := actionEventsRow.holds Tryz.pinned (OpenSpec.ofChange actionEventsWrong)

/-- 'agraffetop.TopStrokeInOrder': WHATEVER THE INPUT: true; the input reads as it did. -/
def topStrokeInOrderSpec : ChangeSpec := { name := "topStrokeInOrder", fn := fun _ => fun
  | [d1, d2, d3] => { results := [.lit (.bool true)], args := [d1, d2, d3] }
  | _ => none }
def topStrokeInOrderRow : OpenClaim := { program := "ytbcjcbcakcdnfaagreat", sum := "32c4654a6b2676422619977a92e7f55fa61b934dbd3e8a7213351246c41b5654", func := "agraffe/agraffetop.TopStrokeInOrder", spec := "topStrokeInOrder", unfollowed := true, recurses := true, apart := false }
def TopStrokeInOrderSaid : Prop := topStrokeInOrderRow.holds Tryz.pinned (OpenSpec.ofChange topStrokeInOrderSpec)

/-- ITS FALSE NEIGHBOUR: 'it returns false'. Refute it at one input. -/
def topStrokeInOrderWrong : ChangeSpec := { name := "topStrokeInOrder", fn := fun _ => fun
  | [d1, d2, d3] => { results := [.lit (.bool false)], args := [d1, d2, d3] }
  | _ => none }
def TopStrokeInOrderWrongFalsely : Prop := topStrokeInOrderRow.holds Tryz.pinned (OpenSpec.ofChange topStrokeInOrderWrong)

/- THE SECOND FORM. 'bulk': how many values and letters a reading holds, each counted each time it is reached (what is shared counts as often as it is met; a slice's spare places count too). A statement '..UptoSaid' is the law's where the arguments, and the package variables that the reading takes, are together of bulk at most 1048576: NARROWER than '..Said'. Prove '..Said' where nothing that the law and all that it calls make is longer than what came in: it says more and counts as full. Else prove '..UptoSaid'. A law counts once. -/
mutual
def uptoBulk {H : Type} : DataW H → Nat
  | .lit (.string bytes) => bytes.length + 1
  | .lit _ => 1
  | .nil => 1
  | .ptr d => uptoBulk d + 1
  | .slice elems spare => uptoBulkAll elems + uptoBulkAll spare + 1
  | .agg parts => uptoBulkAll parts + 1
  | .iface _ d => uptoBulk d + 1
  | .map entries => uptoBulkEntries entries + 1
  | .held _ => 1
def uptoBulkAll {H : Type} : List (DataW H) → Nat
  | [] => 0
  | d :: r => uptoBulk d + uptoBulkAll r
def uptoBulkEntries {H : Type} : List (Lit × DataW H) → Nat
  | [] => 0
  | x :: r => uptoBulkEntry x + uptoBulkEntries r
def uptoBulkEntry {H : Type} : Lit × DataW H → Nat
  | (.string bytes, d) => bytes.length + uptoBulk d + 1
  | (_, d) => uptoBulk d + 1
 end
def uptoSmall : (H : Type) → List (DataW H) → Bool := fun _ ds => decide (uptoBulkAll ds ≤ 1048576)
def OpenSpec.upto (s : _root_.Go.ChangeSpec) : _root_.Go.OpenSpec := { _root_.Go.OpenSpec.ofChange s with cond := some uptoSmall }

/-- 'agraffelaw04.ActionLighter', WHERE WHAT IT READS IS OF BULK AT MOST 1048576: true; the input reads as it did. -/
def actionLighterUptoRow : OpenClaim := { program := "ytbcjcbcakcdnfaagreat", sum := "32c4654a6b2676422619977a92e7f55fa61b934dbd3e8a7213351246c41b5654", func := "agraffe/agraffelaw04.ActionLighter", spec := "actionLighter", unfollowed := true, recurses := true, apart := false, narrowed := true }
def ActionLighterUptoSaid : Prop := actionLighterUptoRow.holds Tryz.pinned (OpenSpec.upto actionLighterSpec)

/-- 'agraffelaw04.ActionEvents', WHERE WHAT IT READS IS OF BULK AT MOST 1048576: true; the input reads as it did. -/
def actionEventsUptoRow : OpenClaim := { program := "ytbcjcbcakcdnfaagreat", sum := "32c4654a6b2676422619977a92e7f55fa61b934dbd3e8a7213351246c41b5654", func := "agraffe/agraffelaw04.ActionEvents", spec := "actionEvents", unfollowed := true, recurses := true, apart := false, narrowed := true }
def ActionEventsUptoSaid : Prop := actionEventsUptoRow.holds Tryz.pinned (OpenSpec.upto actionEventsSpec)

/-- 'agraffetop.TopStrokeInOrder', WHERE WHAT IT READS IS OF BULK AT MOST 1048576: true; the input reads as it did. -/
def topStrokeInOrderUptoRow : OpenClaim := { program := "ytbcjcbcakcdnfaagreat", sum := "32c4654a6b2676422619977a92e7f55fa61b934dbd3e8a7213351246c41b5654", func := "agraffe/agraffetop.TopStrokeInOrder", spec := "topStrokeInOrder", unfollowed := true, recurses := true, apart := false, narrowed := true }
def TopStrokeInOrderUptoSaid : Prop := topStrokeInOrderUptoRow.holds Tryz.pinned (OpenSpec.upto topStrokeInOrderSpec)

end Rows
end Go.Proofs.YtbcjcbcakcdnfaaGreat
