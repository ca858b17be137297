/-
  No cell of these rows narrows 'for every input' (looked for: loops, veiled, ifaces, maps, wideKeys, modest, calm, conditions, laid).
  DERIVED. THE GIVEN ROWS OF THIS SEAT. 6 by the template 'for every input the law returns true; each argument reads behind the call as it read before'; 0 by the template 'total and deterministic' (their statements: YtmigenmibohnkaaTotals.lean).
  GIVEN WITH THE SEED: the statements are not yours to turn. If you find one false, say at which input.
  Laid BY PROGRAM, IN A SANDBOX (cutbox-rows.mjs): the forced cells as the released guide's own fill.sh prints them over the translation 12c9e4567de3cce1… (all of the seat's roots in one cut). By AI agents, Wed Nov 11 2026. No macro, syntax, notation, axiom, sorry.
-/
import Derived.Test.YtmigenmibohnkaaChecked
import GoSem.Claim
import GoSem.ClaimJoined
import GoSem.ClaimMapViews
import Derived.JoinedTies
import Derived.KernelRfl
namespace Go.Proofs.Ytmigenmibohnkaa
/- THE CELL 'sum', in the pinned program and in every row, IS THE sha256 OF THE DUMP (.gsa) THAT YtmigenmibohnkaaProg.lean LOADS. Nothing in Lean hashes anything: it is a label: what it is worth is what the hold of that sum in a sandbox is worth. -/
noncomputable def Try.pinned : Pinned := { name := "ytmigenmibohnkaa", sum := "12c9e4567de3cce112584a004890751c1648a62525038e194c4ba4185f1e118c", checked := Try.checked }
namespace Rows
def none {H : Type} : Left H := { results := [], args := [] }

/-- 'agraffetop.TopLevelAndDip': WHATEVER THE INPUT: true; the input reads as it did. -/
def topLevelAndDipSpec : ChangeSpec := { name := "topLevelAndDip", fn := fun _ => fun
  | [d1, d2] => { results := [.lit (.bool true)], args := [d1, d2] }
  | _ => none }
def topLevelAndDipRow : OpenClaim := { program := "ytmigenmibohnkaa", sum := "12c9e4567de3cce112584a004890751c1648a62525038e194c4ba4185f1e118c", func := "agraffe/agraffetop.TopLevelAndDip", spec := "topLevelAndDip", unfollowed := true, recurses := true, apart := false }
def TopLevelAndDipSaid : Prop := topLevelAndDipRow.holds Try.pinned (OpenSpec.ofChange topLevelAndDipSpec)

/-- ITS FALSE NEIGHBOUR: 'it returns false'. Refute it at one input. -/
def topLevelAndDipWrong : ChangeSpec := { name := "topLevelAndDip", fn := fun _ => fun
  | [d1, d2] => { results := [.lit (.bool false)], args := [d1, d2] }
  | _ => none }
def TopLevelAndDipWrongFalsely : Prop := topLevelAndDipRow.holds Try.pinned (OpenSpec.ofChange topLevelAndDipWrong)

/-- 'agraffelaw04.ActionReaches': WHATEVER THE INPUT: true; the input reads as it did. -/
def actionReachesSpec : ChangeSpec := { name := "actionReaches", fn := fun _ => fun
  | [d1, d2, d3] => { results := [.lit (.bool true)], args := [d1, d2, d3] }
  | _ => none }
def actionReachesRow : OpenClaim := { program := "ytmigenmibohnkaa", sum := "12c9e4567de3cce112584a004890751c1648a62525038e194c4ba4185f1e118c", func := "agraffe/agraffelaw04.ActionReaches", spec := "actionReaches", unfollowed := true, recurses := true, apart := false }
def ActionReachesSaid : Prop := actionReachesRow.holds Try.pinned (OpenSpec.ofChange actionReachesSpec)

/-- ITS FALSE NEIGHBOUR: 'it returns false'. Refute it at one input. -/
def actionReachesWrong : ChangeSpec := { name := "actionReaches", fn := fun _ => fun
  | [d1, d2, d3] => { results := [.lit (.bool false)], args := [d1, d2, d3] }
  | _ => none }
def ActionReachesWrongFalsely : Prop := actionReachesRow.holds Try.pinned (OpenSpec.ofChange actionReachesWrong)

/-- 'agraffelaw04.ActionLeast': WHATEVER THE INPUT: true; the input reads as it did. -/
def actionLeastSpec : ChangeSpec := { name := "actionLeast", fn := fun _ => fun
  | [d1, d2, d3] => { results := [.lit (.bool true)], args := [d1, d2, d3] }
  | _ => none }
def actionLeastRow : OpenClaim := { program := "ytmigenmibohnkaa", sum := "12c9e4567de3cce112584a004890751c1648a62525038e194c4ba4185f1e118c", func := "agraffe/agraffelaw04.ActionLeast", spec := "actionLeast", unfollowed := true, recurses := true, apart := false }
def ActionLeastSaid : Prop := actionLeastRow.holds Try.pinned (OpenSpec.ofChange actionLeastSpec)

/-- ITS FALSE NEIGHBOUR: 'it returns false'. Refute it at one input. -/
def actionLeastWrong : ChangeSpec := { name := "actionLeast", fn := fun _ => fun
  | [d1, d2, d3] => { results := [.lit (.bool false)], args := [d1, d2, d3] }
  | _ => none }
def ActionLeastWrongFalsely : Prop := actionLeastRow.holds Try.pinned (OpenSpec.ofChange actionLeastWrong)

/-- 'agraffelaw04.ActionChains': WHATEVER THE INPUT: true; the input reads as it did. -/
def actionChainsSpec : ChangeSpec := { name := "actionChains", fn := fun _ => fun
  | [d1, d2, d3] => { results := [.lit (.bool true)], args := [d1, d2, d3] }
  | _ => none }
def actionChainsRow : OpenClaim := { program := "ytmigenmibohnkaa", sum := "12c9e4567de3cce112584a004890751c1648a62525038e194c4ba4185f1e118c", func := "agraffe/agraffelaw04.ActionChains", spec := "actionChains", unfollowed := true, recurses := true, apart := false }
def ActionChainsSaid : Prop := actionChainsRow.holds Try.pinned (OpenSpec.ofChange actionChainsSpec)

/-- ITS FALSE NEIGHBOUR: 'it returns false'. Refute it at one input. -/
def actionChainsWrong : ChangeSpec := { name := "actionChains", fn := fun _ => fun
  | [d1, d2, d3] => { results := [.lit (.bool false)], args := [d1, d2, d3] }
  | _ => none }
def ActionChainsWrongFalsely : Prop := actionChainsRow.holds Try.pinned (OpenSpec.ofChange actionChainsWrong)

/-- 'agraffelaw04.ActionBegins': WHATEVER THE INPUT: true; the input reads as it did. -/
def actionBeginsSpec : ChangeSpec := { name := "actionBegins", fn := fun _ => fun
  | [d1, d2, d3] => { results := [.lit (.bool true)], args := [d1, d2, d3] }
  | _ => none }
def actionBeginsRow : OpenClaim := { program := "ytmigenmibohnkaa", sum := "12c9e4567de3cce112584a004890751c1648a62525038e194c4ba4185f1e118c", func := "agraffe/agraffelaw04.ActionBegins", spec := "actionBegins", unfollowed := true, recurses := true, apart := false }
def ActionBeginsSaid : Prop := actionBeginsRow.holds Try.pinned (OpenSpec.ofChange actionBeginsSpec)

/-- ITS FALSE NEIGHBOUR: 'it returns false'. Refute it at one input. -/
def actionBeginsWrong : ChangeSpec := { name := "actionBegins", fn := fun _ => fun
  | [d1, d2, d3] => { results := [.lit (.bool false)], args := [d1, d2, d3] }
  | _ => none }
def ActionBeginsWrongFalsely : Prop := actionBeginsRow.holds Try.pinned (OpenSpec.ofChange actionBeginsWrong)

/-- 'agraffelaw04.ActionRises': WHATEVER THE INPUT: true; the input reads as it did. -/
def actionRisesSpec : ChangeSpec := { name := "actionRises", fn := fun _ => fun
  | [d1, d2, d3] => { results := [.lit (.bool true)], args := [d1, d2, d3] }
  | _ => none }
def actionRisesRow : OpenClaim := { program := "ytmigenmibohnkaa", sum := "12c9e4567de3cce112584a004890751c1648a62525038e194c4ba4185f1e118c", func := "agraffe/agraffelaw04.ActionRises", spec := "actionRises", unfollowed := true, recurses := true, apart := false }
def ActionRisesSaid : Prop := actionRisesRow.holds Try.pinned (OpenSpec.ofChange actionRisesSpec)

/-- ITS FALSE NEIGHBOUR: 'it returns false'. Refute it at one input. -/
def actionRisesWrong : ChangeSpec := { name := "actionRises", fn := fun _ => fun
  | [d1, d2, d3] => { results := [.lit (.bool false)], args := [d1, d2, d3] }
  | _ => none }
def ActionRisesWrongFalsely : Prop := actionRisesRow.holds Try.pinned (OpenSpec.ofChange actionRisesWrong)

/- THE SECOND FORM. 'bulk': how many values and letters a reading holds, each counted each time it is reached (what is shared counts as often as it is met; a slice's spare places count too). A statement '..UptoSaid' is the law's where the arguments, and the package variables that the reading takes, are together of bulk at most 1048576: NARROWER than '..Said'. Prove '..Said' where nothing that the law and all that it calls make is longer than what came in: it says more and counts as full. Else prove '..UptoSaid'. A law counts once. -/
mutual
def uptoBulk {H : Type} : DataW H → Nat
  | .lit (.string bytes) => bytes.length + 1
  | .lit _ => 1
  | .nil => 1
  | .ptr d => uptoBulk d + 1
  | .slice elems spare => uptoBulkAll elems + uptoBulkAll spare + 1
  | .agg parts => uptoBulkAll parts + 1
  | .iface _ d => uptoBulk d + 1
  | .map entries => uptoBulkEntries entries + 1
  | .held _ => 1
def uptoBulkAll {H : Type} : List (DataW H) → Nat
  | [] => 0
  | d :: r => uptoBulk d + uptoBulkAll r
def uptoBulkEntries {H : Type} : List (Lit × DataW H) → Nat
  | [] => 0
  | x :: r => uptoBulkEntry x + uptoBulkEntries r
def uptoBulkEntry {H : Type} : Lit × DataW H → Nat
  | (.string bytes, d) => bytes.length + uptoBulk d + 1
  | (_, d) => uptoBulk d + 1
 end
def uptoSmall : (H : Type) → List (DataW H) → Bool := fun _ ds => decide (uptoBulkAll ds ≤ 1048576)
def OpenSpec.upto (s : _root_.Go.ChangeSpec) : _root_.Go.OpenSpec := { _root_.Go.OpenSpec.ofChange s with cond := some uptoSmall }

/-- 'agraffetop.TopLevelAndDip', WHERE WHAT IT READS IS OF BULK AT MOST 1048576: true; the input reads as it did. -/
def topLevelAndDipUptoRow : OpenClaim := { program := "ytmigenmibohnkaa", sum := "12c9e4567de3cce112584a004890751c1648a62525038e194c4ba4185f1e118c", func := "agraffe/agraffetop.TopLevelAndDip", spec := "topLevelAndDip", unfollowed := true, recurses := true, apart := false, narrowed := true }
def TopLevelAndDipUptoSaid : Prop := topLevelAndDipUptoRow.holds Try.pinned (OpenSpec.upto topLevelAndDipSpec)

/-- 'agraffelaw04.ActionReaches', WHERE WHAT IT READS IS OF BULK AT MOST 1048576: true; the input reads as it did. -/
def actionReachesUptoRow : OpenClaim := { program := "ytmigenmibohnkaa", sum := "12c9e4567de3cce112584a004890751c1648a62525038e194c4ba4185f1e118c", func := "agraffe/agraffelaw04.ActionReaches", spec := "actionReaches", unfollowed := true, recurses := true, apart := false, narrowed := true }
def ActionReachesUptoSaid : Prop := actionReachesUptoRow.holds Try.pinned (OpenSpec.upto actionReachesSpec)

/-- 'agraffelaw04.ActionLeast', WHERE WHAT IT READS IS OF BULK AT MOST 1048576: true; the input reads as it did. -/
def actionLeastUptoRow : OpenClaim := { program := "ytmigenmibohnkaa", sum := "12c9e4567de3cce112584a004890751c1648a62525038e194c4ba4185f1e118c", func := "agraffe/agraffelaw04.ActionLeast", spec := "actionLeast", unfollowed := true, recurses := true, apart := false, narrowed := true }
def ActionLeastUptoSaid : Prop := actionLeastUptoRow.holds Try.pinned (OpenSpec.upto actionLeastSpec)

/-- 'agraffelaw04.ActionChains', WHERE WHAT IT READS IS OF BULK AT MOST 1048576: true; the input reads as it did. -/
def actionChainsUptoRow : OpenClaim := { program := "ytmigenmibohnkaa", sum := "12c9e4567de3cce112584a004890751c1648a62525038e194c4ba4185f1e118c", func := "agraffe/agraffelaw04.ActionChains", spec := "actionChains", unfollowed := true, recurses := true, apart := false, narrowed := true }
def ActionChainsUptoSaid : Prop := actionChainsUptoRow.holds Try.pinned (OpenSpec.upto actionChainsSpec)

/-- 'agraffelaw04.ActionBegins', WHERE WHAT IT READS IS OF BULK AT MOST 1048576: true; the input reads as it did. -/
def actionBeginsUptoRow : OpenClaim := { program := "ytmigenmibohnkaa", sum := "12c9e4567de3cce112584a004890751c1648a62525038e194c4ba4185f1e118c", func := "agraffe/agraffelaw04.ActionBegins", spec := "actionBegins", unfollowed := true, recurses := true, apart := false, narrowed := true }
def ActionBeginsUptoSaid : Prop := actionBeginsUptoRow.holds Try.pinned (OpenSpec.upto actionBeginsSpec)

/-- 'agraffelaw04.ActionRises', WHERE WHAT IT READS IS OF BULK AT MOST 1048576: true; the input reads as it did. -/
def actionRisesUptoRow : OpenClaim := { program := "ytmigenmibohnkaa", sum := "12c9e4567de3cce112584a004890751c1648a62525038e194c4ba4185f1e118c", func := "agraffe/agraffelaw04.ActionRises", spec := "actionRises", unfollowed := true, recurses := true, apart := false, narrowed := true }
def ActionRisesUptoSaid : Prop := actionRisesUptoRow.holds Try.pinned (OpenSpec.upto actionRisesSpec)

end Rows
end Go.Proofs.Ytmigenmibohnkaa
