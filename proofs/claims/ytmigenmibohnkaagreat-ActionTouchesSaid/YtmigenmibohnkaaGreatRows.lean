/-
  No cell of these rows narrows 'for every input' (looked for: loops, veiled, ifaces, maps, wideKeys, modest, calm, conditions, laid).
  DERIVED. THE GIVEN ROWS OF THIS SEAT. 8 by the template 'for every input the law returns true; each argument reads behind the call as it read before'; 0 by the template 'total and deterministic' (their statements: YtmigenmibohnkaaGreatTotals.lean).
  GIVEN WITH THE SEED: the statements are not yours to turn. If you find one false, say at which input.
  Laid BY PROGRAM, IN A SANDBOX (cutbox-rows.mjs): the forced cells as the released guide's own fill.sh prints them over the translation b58b64594cfed48c… (all of the seat's roots in one cut). By AI agents, Wed Nov 11 2026. No macro, syntax, notation, axiom, sorry.
-/
import Derived.Test.YtmigenmibohnkaaGreatChecked
import GoSem.Claim
import GoSem.ClaimJoined
import GoSem.ClaimMapViews
import Derived.JoinedTies
import Derived.KernelRfl
namespace Go.Proofs.YtmigenmibohnkaaGreat
/- THE CELL 'sum', in the pinned program and in every row, IS THE sha256 OF THE DUMP (.gsa) THAT YtmigenmibohnkaaGreatProg.lean LOADS. Nothing in Lean hashes anything: it is a label: what it is worth is what the hold of that sum in a sandbox is worth. -/
noncomputable def Tryz.pinned : Pinned := { name := "ytmigenmibohnkaagreat", sum := "b58b64594cfed48cfc677bb185e388ca59fa8a0f51c398a58a3e71f3c34fb876", checked := Tryz.checked }
namespace Rows
def none {H : Type} : Left H := { results := [], args := [] }

/-- 'agraffelaw04.ActionCurves': WHATEVER THE INPUT: true; the input reads as it did. -/
def actionCurvesSpec : ChangeSpec := { name := "actionCurves", fn := fun _ => fun
  | [d1, d2] => { results := [.lit (.bool true)], args := [d1, d2] }
  | _ => none }
def actionCurvesRow : OpenClaim := { program := "ytmigenmibohnkaagreat", sum := "b58b64594cfed48cfc677bb185e388ca59fa8a0f51c398a58a3e71f3c34fb876", func := "agraffe/agraffelaw04.ActionCurves", spec := "actionCurves", unfollowed := true, recurses := true, apart := false }
def ActionCurvesSaid : Prop := actionCurvesRow.holds Tryz.pinned (OpenSpec.ofChange actionCurvesSpec)

/-- ITS FALSE NEIGHBOUR: 'it returns false'. Refute it at one input. -/
def actionCurvesWrong : ChangeSpec := { name := "actionCurves", fn := fun _ => fun
  | [d1, d2] => { results := [.lit (.bool false)], args := [d1, d2] }
  | _ => none }
def ActionCurvesWrongFalsely : Prop := actionCurvesRow.holds Tryz.pinned (OpenSpec.ofChange actionCurvesWrong)

/-- 'agraffelaw04.ActionComposes': WHATEVER THE INPUT: true; the input reads as it did. -/
def actionComposesSpec : ChangeSpec := { name := "actionComposes", fn := fun _ => fun
  | [d1, d2] => { results := [.lit (.bool true)], args := [d1, d2] }
  | _ => none }
def actionComposesRow : OpenClaim := { program := "ytmigenmibohnkaagreat", sum := "b58b64594cfed48cfc677bb185e388ca59fa8a0f51c398a58a3e71f3c34fb876", func := "agraffe/agraffelaw04.ActionComposes", spec := "actionComposes", unfollowed := true, recurses := true, apart := false }
def ActionComposesSaid : Prop := actionComposesRow.holds Tryz.pinned (OpenSpec.ofChange actionComposesSpec)

/-- ITS FALSE NEIGHBOUR: 'it returns false'. Refute it at one input. -/
def actionComposesWrong : ChangeSpec := { name := "actionComposes", fn := fun _ => fun
  | [d1, d2] => { results := [.lit (.bool false)], args := [d1, d2] }
  | _ => none }
def ActionComposesWrongFalsely : Prop := actionComposesRow.holds Tryz.pinned (OpenSpec.ofChange actionComposesWrong)

/-- 'agraffelaw04.ActionLighter': WHATEVER THE INPUT: true; the input reads as it did. -/
def actionLighterSpec : ChangeSpec := { name := "actionLighter", fn := fun _ => fun
  | [d1, d2, d3] => { results := [.lit (.bool true)], args := [d1, d2, d3] }
  | _ => none }
def actionLighterRow : OpenClaim := { program := "ytmigenmibohnkaagreat", sum := "b58b64594cfed48cfc677bb185e388ca59fa8a0f51c398a58a3e71f3c34fb876", func := "agraffe/agraffelaw04.ActionLighter", spec := "actionLighter", unfollowed := true, recurses := true, apart := false }
def ActionLighterSaid : Prop := actionLighterRow.holds Tryz.pinned (OpenSpec.ofChange actionLighterSpec)

/-- ITS FALSE NEIGHBOUR: 'it returns false'. Refute it at one input. -/
def actionLighterWrong : ChangeSpec := { name := "actionLighter", fn := fun _ => fun
  | [d1, d2, d3] => { results := [.lit (.bool false)], args := [d1, d2, d3] }
  | _ => none }
def ActionLighterWrongFalsely : Prop := actionLighterRow.holds Tryz.pinned (OpenSpec.ofChange actionLighterWrong)

/-- 'agraffelaw04.ActionEvents': WHATEVER THE INPUT: true; the input reads as it did. -/
def actionEventsSpec : ChangeSpec := { name := "actionEvents", fn := fun _ => fun
  | [d1, d2, d3] => { results := [.lit (.bool true)], args := [d1, d2, d3] }
  | _ => none }
def actionEventsRow : OpenClaim := { program := "ytmigenmibohnkaagreat", sum := "b58b64594cfed48cfc677bb185e388ca59fa8a0f51c398a58a3e71f3c34fb876", func := "agraffe/agraffelaw04.ActionEvents", spec := "actionEvents", unfollowed := true, recurses := true, apart := false }
def ActionEventsSaid : Prop := actionEventsRow.holds Tryz.pinned (OpenSpec.ofChange actionEventsSpec)

/-- ITS FALSE NEIGHBOUR: 'it returns false'. Refute it at one input. -/
def actionEventsWrong : ChangeSpec := { name := "actionEvents", fn := fun _ => fun
  | [d1, d2, d3] => { results := [.lit (.bool false)], args := [d1, d2, d3] }
  | _ => none }
def ActionEventsWrongFalsely : Prop := actionEventsRow.holds Tryz.pinned (OpenSpec.ofChange actionEventsWrong)

/-- 'agraffelaw04.ActionParts': WHATEVER THE INPUT: true; the input reads as it did. -/
def actionPartsSpec : ChangeSpec := { name := "actionParts", fn := fun _ => fun
  | [d1, d2, d3] => { results := [.lit (.bool true)], args := [d1, d2, d3] }
  | _ => none }
def actionPartsRow : OpenClaim := { program := "ytmigenmibohnkaagreat", sum := "b58b64594cfed48cfc677bb185e388ca59fa8a0f51c398a58a3e71f3c34fb876", func := "agraffe/agraffelaw04.ActionParts", spec := "actionParts", unfollowed := true, recurses := true, apart := false }
def ActionPartsSaid : Prop := actionPartsRow.holds Tryz.pinned (OpenSpec.ofChange actionPartsSpec)

/-- ITS FALSE NEIGHBOUR: 'it returns false'. Refute it at one input. -/
def actionPartsWrong : ChangeSpec := { name := "actionParts", fn := fun _ => fun
  | [d1, d2, d3] => { results := [.lit (.bool false)], args := [d1, d2, d3] }
  | _ => none }
def ActionPartsWrongFalsely : Prop := actionPartsRow.holds Tryz.pinned (OpenSpec.ofChange actionPartsWrong)

/-- 'agraffelaw04.ActionTouches': WHATEVER THE INPUT: true; the input reads as it did. -/
def actionTouchesSpec : ChangeSpec := { name := "actionTouches", fn := fun _ => fun
  | [d1, d2, d3] => { results := [.lit (.bool true)], args := [d1, d2, d3] }
  | _ => none }
def actionTouchesRow : OpenClaim := { program := "ytmigenmibohnkaagreat", sum := "b58b64594cfed48cfc677bb185e388ca59fa8a0f51c398a58a3e71f3c34fb876", func := "agraffe/agraffelaw04.ActionTouches", spec := "actionTouches", unfollowed := true, recurses := true, apart := false }
def ActionTouchesSaid : Prop := actionTouchesRow.holds Tryz.pinned (OpenSpec.ofChange actionTouchesSpec)

/-- ITS FALSE NEIGHBOUR: 'it returns false'. Refute it at one input. -/
def actionTouchesWrong : ChangeSpec := { name := "actionTouches", fn := fun _ => fun
  | [d1, d2, d3] => { results := [.lit (.bool false)], args := [d1, d2, d3] }
  | _ => none }
def ActionTouchesWrongFalsely : Prop := actionTouchesRow.holds Tryz.pinned (OpenSpec.ofChange actionTouchesWrong)

/-- 'agraffelaw04.ActionOrders': WHATEVER THE INPUT: true; the input reads as it did. -/
def actionOrdersSpec : ChangeSpec := { name := "actionOrders", fn := fun _ => fun
  | [d1, d2, d3] => { results := [.lit (.bool true)], args := [d1, d2, d3] }
  | _ => none }
def actionOrdersRow : OpenClaim := { program := "ytmigenmibohnkaagreat", sum := "b58b64594cfed48cfc677bb185e388ca59fa8a0f51c398a58a3e71f3c34fb876", func := "agraffe/agraffelaw04.ActionOrders", spec := "actionOrders", unfollowed := true, recurses := true, apart := false }
def ActionOrdersSaid : Prop := actionOrdersRow.holds Tryz.pinned (OpenSpec.ofChange actionOrdersSpec)

/-- ITS FALSE NEIGHBOUR: 'it returns false'. Refute it at one input. -/
def actionOrdersWrong : ChangeSpec := { name := "actionOrders", fn := fun _ => fun
  | [d1, d2, d3] => { results := [.lit (.bool false)], args := [d1, d2, d3] }
  | _ => none }
def ActionOrdersWrongFalsely : Prop := actionOrdersRow.holds Tryz.pinned (OpenSpec.ofChange actionOrdersWrong)

/-- 'agraffetop.TopStrokeInOrder': WHATEVER THE INPUT: true; the input reads as it did. -/
def topStrokeInOrderSpec : ChangeSpec := { name := "topStrokeInOrder", fn := fun _ => fun
  | [d1, d2, d3] => { results := [.lit (.bool true)], args := [d1, d2, d3] }
  | _ => none }
def topStrokeInOrderRow : OpenClaim := { program := "ytmigenmibohnkaagreat", sum := "b58b64594cfed48cfc677bb185e388ca59fa8a0f51c398a58a3e71f3c34fb876", func := "agraffe/agraffetop.TopStrokeInOrder", spec := "topStrokeInOrder", unfollowed := true, recurses := true, apart := false }
def TopStrokeInOrderSaid : Prop := topStrokeInOrderRow.holds Tryz.pinned (OpenSpec.ofChange topStrokeInOrderSpec)

/-- ITS FALSE NEIGHBOUR: 'it returns false'. Refute it at one input. -/
def topStrokeInOrderWrong : ChangeSpec := { name := "topStrokeInOrder", fn := fun _ => fun
  | [d1, d2, d3] => { results := [.lit (.bool false)], args := [d1, d2, d3] }
  | _ => none }
def TopStrokeInOrderWrongFalsely : Prop := topStrokeInOrderRow.holds Tryz.pinned (OpenSpec.ofChange topStrokeInOrderWrong)

/- THE SECOND FORM. 'bulk': how many values and letters a reading holds, each counted each time it is reached (what is shared counts as often as it is met; a slice's spare places count too). A statement '..UptoSaid' is the law's where the arguments, and the package variables that the reading takes, are together of bulk at most 1048576: NARROWER than '..Said'. Prove '..Said' where nothing that the law and all that it calls make is longer than what came in: it says more and counts as full. Else prove '..UptoSaid'. A law counts once. -/
mutual
def uptoBulk {H : Type} : DataW H → Nat
  | .lit (.string bytes) => bytes.length + 1
  | .lit _ => 1
  | .nil => 1
  | .ptr d => uptoBulk d + 1
  | .slice elems spare => uptoBulkAll elems + uptoBulkAll spare + 1
  | .agg parts => uptoBulkAll parts + 1
  | .iface _ d => uptoBulk d + 1
  | .map entries => uptoBulkEntries entries + 1
  | .held _ => 1
def uptoBulkAll {H : Type} : List (DataW H) → Nat
  | [] => 0
  | d :: r => uptoBulk d + uptoBulkAll r
def uptoBulkEntries {H : Type} : List (Lit × DataW H) → Nat
  | [] => 0
  | x :: r => uptoBulkEntry x + uptoBulkEntries r
def uptoBulkEntry {H : Type} : Lit × DataW H → Nat
  | (.string bytes, d) => bytes.length + uptoBulk d + 1
  | (_, d) => uptoBulk d + 1
 end
def uptoSmall : (H : Type) → List (DataW H) → Bool := fun _ ds => decide (uptoBulkAll ds ≤ 1048576)
def OpenSpec.upto (s : _root_.Go.ChangeSpec) : _root_.Go.OpenSpec := { _root_.Go.OpenSpec.ofChange s with cond := some uptoSmall }

/-- 'agraffelaw04.ActionCurves', WHERE WHAT IT READS IS OF BULK AT MOST 1048576: true; the input reads as it did. -/
def actionCurvesUptoRow : OpenClaim := { program := "ytmigenmibohnkaagreat", sum := "b58b64594cfed48cfc677bb185e388ca59fa8a0f51c398a58a3e71f3c34fb876", func := "agraffe/agraffelaw04.ActionCurves", spec := "actionCurves", unfollowed := true, recurses := true, apart := false, narrowed := true }
def ActionCurvesUptoSaid : Prop := actionCurvesUptoRow.holds Tryz.pinned (OpenSpec.upto actionCurvesSpec)

/-- 'agraffelaw04.ActionComposes', WHERE WHAT IT READS IS OF BULK AT MOST 1048576: true; the input reads as it did. -/
def actionComposesUptoRow : OpenClaim := { program := "ytmigenmibohnkaagreat", sum := "b58b64594cfed48cfc677bb185e388ca59fa8a0f51c398a58a3e71f3c34fb876", func := "agraffe/agraffelaw04.ActionComposes", spec := "actionComposes", unfollowed := true, recurses := true, apart := false, narrowed := true }
def ActionComposesUptoSaid : Prop := actionComposesUptoRow.holds Tryz.pinned (OpenSpec.upto actionComposesSpec)

/-- 'agraffelaw04.ActionLighter', WHERE WHAT IT READS IS OF BULK AT MOST 1048576: true; the input reads as it did. -/
def actionLighterUptoRow : OpenClaim := { program := "ytmigenmibohnkaagreat", sum := "b58b64594cfed48cfc677bb185e388ca59fa8a0f51c398a58a3e71f3c34fb876", func := "agraffe/agraffelaw04.ActionLighter", spec := "actionLighter", unfollowed := true, recurses := true, apart := false, narrowed := true }
def ActionLighterUptoSaid : Prop := actionLighterUptoRow.holds Tryz.pinned (OpenSpec.upto actionLighterSpec)

/-- 'agraffelaw04.ActionEvents', WHERE WHAT IT READS IS OF BULK AT MOST 1048576: true; the input reads as it did. -/
def actionEventsUptoRow : OpenClaim := { program := "ytmigenmibohnkaagreat", sum := "b58b64594cfed48cfc677bb185e388ca59fa8a0f51c398a58a3e71f3c34fb876", func := "agraffe/agraffelaw04.ActionEvents", spec := "actionEvents", unfollowed := true, recurses := true, apart := false, narrowed := true }
def ActionEventsUptoSaid : Prop := actionEventsUptoRow.holds Tryz.pinned (OpenSpec.upto actionEventsSpec)

/-- 'agraffelaw04.ActionParts', WHERE WHAT IT READS IS OF BULK AT MOST 1048576: true; the input reads as it did. -/
def actionPartsUptoRow : OpenClaim := { program := "ytmigenmibohnkaagreat", sum := "b58b64594cfed48cfc677bb185e388ca59fa8a0f51c398a58a3e71f3c34fb876", func := "agraffe/agraffelaw04.ActionParts", spec := "actionParts", unfollowed := true, recurses := true, apart := false, narrowed := true }
def ActionPartsUptoSaid : Prop := actionPartsUptoRow.holds Tryz.pinned (OpenSpec.upto actionPartsSpec)

/-- 'agraffelaw04.ActionTouches', WHERE WHAT IT READS IS OF BULK AT MOST 1048576: true; the input reads as it did. -/
def actionTouchesUptoRow : OpenClaim := { program := "ytmigenmibohnkaagreat", sum := "b58b64594cfed48cfc677bb185e388ca59fa8a0f51c398a58a3e71f3c34fb876", func := "agraffe/agraffelaw04.ActionTouches", spec := "actionTouches", unfollowed := true, recurses := true, apart := false, narrowed := true }
def ActionTouchesUptoSaid : Prop := actionTouchesUptoRow.holds Tryz.pinned (OpenSpec.upto actionTouchesSpec)

/-- 'agraffelaw04.ActionOrders', WHERE WHAT IT READS IS OF BULK AT MOST 1048576: true; the input reads as it did. -/
def actionOrdersUptoRow : OpenClaim := { program := "ytmigenmibohnkaagreat", sum := "b58b64594cfed48cfc677bb185e388ca59fa8a0f51c398a58a3e71f3c34fb876", func := "agraffe/agraffelaw04.ActionOrders", spec := "actionOrders", unfollowed := true, recurses := true, apart := false, narrowed := true }
def ActionOrdersUptoSaid : Prop := actionOrdersUptoRow.holds Tryz.pinned (OpenSpec.upto actionOrdersSpec)

/-- 'agraffetop.TopStrokeInOrder', WHERE WHAT IT READS IS OF BULK AT MOST 1048576: true; the input reads as it did. -/
def topStrokeInOrderUptoRow : OpenClaim := { program := "ytmigenmibohnkaagreat", sum := "b58b64594cfed48cfc677bb185e388ca59fa8a0f51c398a58a3e71f3c34fb876", func := "agraffe/agraffetop.TopStrokeInOrder", spec := "topStrokeInOrder", unfollowed := true, recurses := true, apart := false, narrowed := true }
def TopStrokeInOrderUptoSaid : Prop := topStrokeInOrderUptoRow.holds Tryz.pinned (OpenSpec.upto topStrokeInOrderSpec)

end Rows
end Go.Proofs.YtmigenmibohnkaaGreat
