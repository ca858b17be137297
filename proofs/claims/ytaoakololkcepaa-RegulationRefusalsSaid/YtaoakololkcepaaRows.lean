/-
  No cell of these rows narrows 'for every input' (looked for: loops, veiled, ifaces, maps, wideKeys, modest, calm, conditions, laid).
  DERIVED. THE GIVEN ROWS OF THIS SEAT. 12 by the template 'for every input the law returns true; each argument reads behind the call as it read before'; 0 by the template 'total and deterministic' (their statements: YtaoakololkcepaaTotals.lean).
  GIVEN WITH THE SEED: the statements are not yours to turn. If you find one false, say at which input.
  Laid BY PROGRAM, IN A SANDBOX (cutbox-rows.mjs): the forced cells as the released guide's own fill.sh prints them over the translation 813d5b96ba73556d… (all of the seat's roots in one cut). By AI agents, Wed Nov 11 2026. No macro, syntax, notation, axiom, sorry.
-/
import Derived.Test.YtaoakololkcepaaChecked
import GoSem.Claim
import GoSem.ClaimJoined
import GoSem.ClaimMapViews
import Derived.JoinedTies
import Derived.KernelRfl
namespace Go.Proofs.Ytaoakololkcepaa
/- THE CELL 'sum', in the pinned program and in every row, IS THE sha256 OF THE DUMP (.gsa) THAT YtaoakololkcepaaProg.lean LOADS. Nothing in Lean hashes anything: it is a label: what it is worth is what the hold of that sum in a sandbox is worth. -/
noncomputable def Try.pinned : Pinned := { name := "ytaoakololkcepaa", sum := "813d5b96ba73556daa8213a367fd8c3e8b41ca4e0c83345f4fc97cd64b2e4d70", checked := Try.checked }
namespace Rows
def none {H : Type} : Left H := { results := [], args := [] }

/-- 'agraffelaw05.RegulationSweeps': WHATEVER THE INPUT: true; the input reads as it did. -/
def regulationSweepsSpec : ChangeSpec := { name := "regulationSweeps", fn := fun _ => fun
  | [d1, d2, d3] => { results := [.lit (.bool true)], args := [d1, d2, d3] }
  | _ => none }
def regulationSweepsRow : OpenClaim := { program := "ytaoakololkcepaa", sum := "813d5b96ba73556daa8213a367fd8c3e8b41ca4e0c83345f4fc97cd64b2e4d70", func := "agraffe/agraffelaw05.RegulationSweeps", spec := "regulationSweeps", unfollowed := true, recurses := true, apart := false }
def RegulationSweepsSaid : Prop := regulationSweepsRow.holds Try.pinned (OpenSpec.ofChange regulationSweepsSpec)

/-- ITS FALSE NEIGHBOUR: 'it returns false'. Refute it at one input. -/
def regulationSweepsWrong : ChangeSpec := { name := "regulationSweeps", fn := fun _ => fun
  | [d1, d2, d3] => { results := [.lit (.bool false)], args := [d1, d2, d3] }
  | _ => none }
def RegulationSweepsWrongFalsely : Prop := regulationSweepsRow.holds Try.pinned (OpenSpec.ofChange regulationSweepsWrong)

/-- 'agraffelaw05.RegulationApplies': WHATEVER THE INPUT: true; the input reads as it did. -/
def regulationAppliesSpec : ChangeSpec := { name := "regulationApplies", fn := fun _ => fun
  | [d1, d2, d3] => { results := [.lit (.bool true)], args := [d1, d2, d3] }
  | _ => none }
def regulationAppliesRow : OpenClaim := { program := "ytaoakololkcepaa", sum := "813d5b96ba73556daa8213a367fd8c3e8b41ca4e0c83345f4fc97cd64b2e4d70", func := "agraffe/agraffelaw05.RegulationApplies", spec := "regulationApplies", unfollowed := true, recurses := true, apart := false }
def RegulationAppliesSaid : Prop := regulationAppliesRow.holds Try.pinned (OpenSpec.ofChange regulationAppliesSpec)

/-- ITS FALSE NEIGHBOUR: 'it returns false'. Refute it at one input. -/
def regulationAppliesWrong : ChangeSpec := { name := "regulationApplies", fn := fun _ => fun
  | [d1, d2, d3] => { results := [.lit (.bool false)], args := [d1, d2, d3] }
  | _ => none }
def RegulationAppliesWrongFalsely : Prop := regulationAppliesRow.holds Try.pinned (OpenSpec.ofChange regulationAppliesWrong)

/-- 'agraffelaw05.RegulationReach': WHATEVER THE INPUT: true; the input reads as it did. -/
def regulationReachSpec : ChangeSpec := { name := "regulationReach", fn := fun _ => fun
  | [d1, d2] => { results := [.lit (.bool true)], args := [d1, d2] }
  | _ => none }
def regulationReachRow : OpenClaim := { program := "ytaoakololkcepaa", sum := "813d5b96ba73556daa8213a367fd8c3e8b41ca4e0c83345f4fc97cd64b2e4d70", func := "agraffe/agraffelaw05.RegulationReach", spec := "regulationReach", unfollowed := true, recurses := true, apart := false }
def RegulationReachSaid : Prop := regulationReachRow.holds Try.pinned (OpenSpec.ofChange regulationReachSpec)

/-- ITS FALSE NEIGHBOUR: 'it returns false'. Refute it at one input. -/
def regulationReachWrong : ChangeSpec := { name := "regulationReach", fn := fun _ => fun
  | [d1, d2] => { results := [.lit (.bool false)], args := [d1, d2] }
  | _ => none }
def RegulationReachWrongFalsely : Prop := regulationReachRow.holds Try.pinned (OpenSpec.ofChange regulationReachWrong)

/-- 'agraffelaw05.RegulationValues': WHATEVER THE INPUT: true; the input reads as it did. -/
def regulationValuesSpec : ChangeSpec := { name := "regulationValues", fn := fun _ => fun
  | [d1, d2] => { results := [.lit (.bool true)], args := [d1, d2] }
  | _ => none }
def regulationValuesRow : OpenClaim := { program := "ytaoakololkcepaa", sum := "813d5b96ba73556daa8213a367fd8c3e8b41ca4e0c83345f4fc97cd64b2e4d70", func := "agraffe/agraffelaw05.RegulationValues", spec := "regulationValues", unfollowed := true, recurses := true, apart := false }
def RegulationValuesSaid : Prop := regulationValuesRow.holds Try.pinned (OpenSpec.ofChange regulationValuesSpec)

/-- ITS FALSE NEIGHBOUR: 'it returns false'. Refute it at one input. -/
def regulationValuesWrong : ChangeSpec := { name := "regulationValues", fn := fun _ => fun
  | [d1, d2] => { results := [.lit (.bool false)], args := [d1, d2] }
  | _ => none }
def RegulationValuesWrongFalsely : Prop := regulationValuesRow.holds Try.pinned (OpenSpec.ofChange regulationValuesWrong)

/-- 'agraffelaw05.RegulationRefusals': WHATEVER THE INPUT: true; the input reads as it did. -/
def regulationRefusalsSpec : ChangeSpec := { name := "regulationRefusals", fn := fun _ => fun
  | [d1, d2] => { results := [.lit (.bool true)], args := [d1, d2] }
  | _ => none }
def regulationRefusalsRow : OpenClaim := { program := "ytaoakololkcepaa", sum := "813d5b96ba73556daa8213a367fd8c3e8b41ca4e0c83345f4fc97cd64b2e4d70", func := "agraffe/agraffelaw05.RegulationRefusals", spec := "regulationRefusals", unfollowed := true, recurses := true, apart := false }
def RegulationRefusalsSaid : Prop := regulationRefusalsRow.holds Try.pinned (OpenSpec.ofChange regulationRefusalsSpec)

/-- ITS FALSE NEIGHBOUR: 'it returns false'. Refute it at one input. -/
def regulationRefusalsWrong : ChangeSpec := { name := "regulationRefusals", fn := fun _ => fun
  | [d1, d2] => { results := [.lit (.bool false)], args := [d1, d2] }
  | _ => none }
def RegulationRefusalsWrongFalsely : Prop := regulationRefusalsRow.holds Try.pinned (OpenSpec.ofChange regulationRefusalsWrong)

/-- 'agraffelaw05.RegulationPlans': WHATEVER THE INPUT: true; the input reads as it did. -/
def regulationPlansSpec : ChangeSpec := { name := "regulationPlans", fn := fun _ => fun
  | [d1, d2] => { results := [.lit (.bool true)], args := [d1, d2] }
  | _ => none }
def regulationPlansRow : OpenClaim := { program := "ytaoakololkcepaa", sum := "813d5b96ba73556daa8213a367fd8c3e8b41ca4e0c83345f4fc97cd64b2e4d70", func := "agraffe/agraffelaw05.RegulationPlans", spec := "regulationPlans", unfollowed := true, recurses := true, apart := false }
def RegulationPlansSaid : Prop := regulationPlansRow.holds Try.pinned (OpenSpec.ofChange regulationPlansSpec)

/-- ITS FALSE NEIGHBOUR: 'it returns false'. Refute it at one input. -/
def regulationPlansWrong : ChangeSpec := { name := "regulationPlans", fn := fun _ => fun
  | [d1, d2] => { results := [.lit (.bool false)], args := [d1, d2] }
  | _ => none }
def RegulationPlansWrongFalsely : Prop := regulationPlansRow.holds Try.pinned (OpenSpec.ofChange regulationPlansWrong)

/-- 'agraffelaw05.RegulationOrders': WHATEVER THE INPUT: true; the input reads as it did. -/
def regulationOrdersSpec : ChangeSpec := { name := "regulationOrders", fn := fun _ => fun
  | [d1, d2] => { results := [.lit (.bool true)], args := [d1, d2] }
  | _ => none }
def regulationOrdersRow : OpenClaim := { program := "ytaoakololkcepaa", sum := "813d5b96ba73556daa8213a367fd8c3e8b41ca4e0c83345f4fc97cd64b2e4d70", func := "agraffe/agraffelaw05.RegulationOrders", spec := "regulationOrders", unfollowed := true, recurses := true, apart := false }
def RegulationOrdersSaid : Prop := regulationOrdersRow.holds Try.pinned (OpenSpec.ofChange regulationOrdersSpec)

/-- ITS FALSE NEIGHBOUR: 'it returns false'. Refute it at one input. -/
def regulationOrdersWrong : ChangeSpec := { name := "regulationOrders", fn := fun _ => fun
  | [d1, d2] => { results := [.lit (.bool false)], args := [d1, d2] }
  | _ => none }
def RegulationOrdersWrongFalsely : Prop := regulationOrdersRow.holds Try.pinned (OpenSpec.ofChange regulationOrdersWrong)

/-- 'agraffelaw05.RegulationMakes': WHATEVER THE INPUT: true; the input reads as it did. -/
def regulationMakesSpec : ChangeSpec := { name := "regulationMakes", fn := fun _ => fun
  | [d1, d2] => { results := [.lit (.bool true)], args := [d1, d2] }
  | _ => none }
def regulationMakesRow : OpenClaim := { program := "ytaoakololkcepaa", sum := "813d5b96ba73556daa8213a367fd8c3e8b41ca4e0c83345f4fc97cd64b2e4d70", func := "agraffe/agraffelaw05.RegulationMakes", spec := "regulationMakes", unfollowed := true, recurses := true, apart := false }
def RegulationMakesSaid : Prop := regulationMakesRow.holds Try.pinned (OpenSpec.ofChange regulationMakesSpec)

/-- ITS FALSE NEIGHBOUR: 'it returns false'. Refute it at one input. -/
def regulationMakesWrong : ChangeSpec := { name := "regulationMakes", fn := fun _ => fun
  | [d1, d2] => { results := [.lit (.bool false)], args := [d1, d2] }
  | _ => none }
def RegulationMakesWrongFalsely : Prop := regulationMakesRow.holds Try.pinned (OpenSpec.ofChange regulationMakesWrong)

/-- 'agraffelaw05.RegulationFewest': WHATEVER THE INPUT: true; the input reads as it did. -/
def regulationFewestSpec : ChangeSpec := { name := "regulationFewest", fn := fun _ => fun
  | [d] => { results := [.lit (.bool true)], args := [d] }
  | _ => none }
def regulationFewestRow : OpenClaim := { program := "ytaoakololkcepaa", sum := "813d5b96ba73556daa8213a367fd8c3e8b41ca4e0c83345f4fc97cd64b2e4d70", func := "agraffe/agraffelaw05.RegulationFewest", spec := "regulationFewest", unfollowed := true, recurses := true, apart := false }
def RegulationFewestSaid : Prop := regulationFewestRow.holds Try.pinned (OpenSpec.ofChange regulationFewestSpec)

/-- ITS FALSE NEIGHBOUR: 'it returns false'. Refute it at one input. -/
def regulationFewestWrong : ChangeSpec := { name := "regulationFewest", fn := fun _ => fun
  | [d] => { results := [.lit (.bool false)], args := [d] }
  | _ => none }
def RegulationFewestWrongFalsely : Prop := regulationFewestRow.holds Try.pinned (OpenSpec.ofChange regulationFewestWrong)

/-- 'agraffelaw05.RegulationProves': WHATEVER THE INPUT: true; the input reads as it did. -/
def regulationProvesSpec : ChangeSpec := { name := "regulationProves", fn := fun _ => fun
  | [d1, d2, d3] => { results := [.lit (.bool true)], args := [d1, d2, d3] }
  | _ => none }
def regulationProvesRow : OpenClaim := { program := "ytaoakololkcepaa", sum := "813d5b96ba73556daa8213a367fd8c3e8b41ca4e0c83345f4fc97cd64b2e4d70", func := "agraffe/agraffelaw05.RegulationProves", spec := "regulationProves", unfollowed := true, recurses := true, apart := false }
def RegulationProvesSaid : Prop := regulationProvesRow.holds Try.pinned (OpenSpec.ofChange regulationProvesSpec)

/-- ITS FALSE NEIGHBOUR: 'it returns false'. Refute it at one input. -/
def regulationProvesWrong : ChangeSpec := { name := "regulationProves", fn := fun _ => fun
  | [d1, d2, d3] => { results := [.lit (.bool false)], args := [d1, d2, d3] }
  | _ => none }
def RegulationProvesWrongFalsely : Prop := regulationProvesRow.holds Try.pinned (OpenSpec.ofChange regulationProvesWrong)

/-- 'agraffelaw05.RegulationDisturbs': WHATEVER THE INPUT: true; the input reads as it did. -/
def regulationDisturbsSpec : ChangeSpec := { name := "regulationDisturbs", fn := fun _ => fun
  | [d] => { results := [.lit (.bool true)], args := [d] }
  | _ => none }
def regulationDisturbsRow : OpenClaim := { program := "ytaoakololkcepaa", sum := "813d5b96ba73556daa8213a367fd8c3e8b41ca4e0c83345f4fc97cd64b2e4d70", func := "agraffe/agraffelaw05.RegulationDisturbs", spec := "regulationDisturbs", unfollowed := true, recurses := true, apart := false }
def RegulationDisturbsSaid : Prop := regulationDisturbsRow.holds Try.pinned (OpenSpec.ofChange regulationDisturbsSpec)

/-- ITS FALSE NEIGHBOUR: 'it returns false'. Refute it at one input. -/
def regulationDisturbsWrong : ChangeSpec := { name := "regulationDisturbs", fn := fun _ => fun
  | [d] => { results := [.lit (.bool false)], args := [d] }
  | _ => none }
def RegulationDisturbsWrongFalsely : Prop := regulationDisturbsRow.holds Try.pinned (OpenSpec.ofChange regulationDisturbsWrong)

/-- 'agraffetop.TopSweepsReach': WHATEVER THE INPUT: true; the input reads as it did. -/
def topSweepsReachSpec : ChangeSpec := { name := "topSweepsReach", fn := fun _ => fun
  | [d1, d2] => { results := [.lit (.bool true)], args := [d1, d2] }
  | _ => none }
def topSweepsReachRow : OpenClaim := { program := "ytaoakololkcepaa", sum := "813d5b96ba73556daa8213a367fd8c3e8b41ca4e0c83345f4fc97cd64b2e4d70", func := "agraffe/agraffetop.TopSweepsReach", spec := "topSweepsReach", unfollowed := true, recurses := true, apart := false }
def TopSweepsReachSaid : Prop := topSweepsReachRow.holds Try.pinned (OpenSpec.ofChange topSweepsReachSpec)

/-- ITS FALSE NEIGHBOUR: 'it returns false'. Refute it at one input. -/
def topSweepsReachWrong : ChangeSpec := { name := "topSweepsReach", fn := fun _ => fun
  | [d1, d2] => { results := [.lit (.bool false)], args := [d1, d2] }
  | _ => none }
def TopSweepsReachWrongFalsely : Prop := topSweepsReachRow.holds Try.pinned (OpenSpec.ofChange topSweepsReachWrong)

/- THE SECOND FORM. 'bulk': how many values and letters a reading holds, each counted each time it is reached (what is shared counts as often as it is met; a slice's spare places count too). A statement '..UptoSaid' is the law's where the arguments, and the package variables that the reading takes, are together of bulk at most 1048576: NARROWER than '..Said'. Prove '..Said' where nothing that the law and all that it calls make is longer than what came in: it says more and counts as full. Else prove '..UptoSaid'. A law counts once. -/
mutual
def uptoBulk {H : Type} : DataW H → Nat
  | .lit (.string bytes) => bytes.length + 1
  | .lit _ => 1
  | .nil => 1
  | .ptr d => uptoBulk d + 1
  | .slice elems spare => uptoBulkAll elems + uptoBulkAll spare + 1
  | .agg parts => uptoBulkAll parts + 1
  | .iface _ d => uptoBulk d + 1
  | .map entries => uptoBulkEntries entries + 1
  | .held _ => 1
def uptoBulkAll {H : Type} : List (DataW H) → Nat
  | [] => 0
  | d :: r => uptoBulk d + uptoBulkAll r
def uptoBulkEntries {H : Type} : List (Lit × DataW H) → Nat
  | [] => 0
  | x :: r => uptoBulkEntry x + uptoBulkEntries r
def uptoBulkEntry {H : Type} : Lit × DataW H → Nat
  | (.string bytes, d) => bytes.length + uptoBulk d + 1
  | (_, d) => uptoBulk d + 1
 end
def uptoSmall : (H : Type) → List (DataW H) → Bool := fun _ ds => decide (uptoBulkAll ds ≤ 1048576)
def OpenSpec.upto (s : _root_.Go.ChangeSpec) : _root_.Go.OpenSpec := { _root_.Go.OpenSpec.ofChange s with cond := some uptoSmall }

/-- 'agraffelaw05.RegulationSweeps', WHERE WHAT IT READS IS OF BULK AT MOST 1048576: true; the input reads as it did. -/
def regulationSweepsUptoRow : OpenClaim := { program := "ytaoakololkcepaa", sum := "813d5b96ba73556daa8213a367fd8c3e8b41ca4e0c83345f4fc97cd64b2e4d70", func := "agraffe/agraffelaw05.RegulationSweeps", spec := "regulationSweeps", unfollowed := true, recurses := true, apart := false, narrowed := true }
def RegulationSweepsUptoSaid : Prop := regulationSweepsUptoRow.holds Try.pinned (OpenSpec.upto regulationSweepsSpec)

/-- 'agraffelaw05.RegulationApplies', WHERE WHAT IT READS IS OF BULK AT MOST 1048576: true; the input reads as it did. -/
def regulationAppliesUptoRow : OpenClaim := { program := "ytaoakololkcepaa", sum := "813d5b96ba73556daa8213a367fd8c3e8b41ca4e0c83345f4fc97cd64b2e4d70", func := "agraffe/agraffelaw05.RegulationApplies", spec := "regulationApplies", unfollowed := true, recurses := true, apart := false, narrowed := true }
def RegulationAppliesUptoSaid : Prop := regulationAppliesUptoRow.holds Try.pinned (OpenSpec.upto regulationAppliesSpec)

/-- 'agraffelaw05.RegulationReach', WHERE WHAT IT READS IS OF BULK AT MOST 1048576: true; the input reads as it did. -/
def regulationReachUptoRow : OpenClaim := { program := "ytaoakololkcepaa", sum := "813d5b96ba73556daa8213a367fd8c3e8b41ca4e0c83345f4fc97cd64b2e4d70", func := "agraffe/agraffelaw05.RegulationReach", spec := "regulationReach", unfollowed := true, recurses := true, apart := false, narrowed := true }
def RegulationReachUptoSaid : Prop := regulationReachUptoRow.holds Try.pinned (OpenSpec.upto regulationReachSpec)

/-- 'agraffelaw05.RegulationValues', WHERE WHAT IT READS IS OF BULK AT MOST 1048576: true; the input reads as it did. -/
def regulationValuesUptoRow : OpenClaim := { program := "ytaoakololkcepaa", sum := "813d5b96ba73556daa8213a367fd8c3e8b41ca4e0c83345f4fc97cd64b2e4d70", func := "agraffe/agraffelaw05.RegulationValues", spec := "regulationValues", unfollowed := true, recurses := true, apart := false, narrowed := true }
def RegulationValuesUptoSaid : Prop := regulationValuesUptoRow.holds Try.pinned (OpenSpec.upto regulationValuesSpec)

/-- 'agraffelaw05.RegulationRefusals', WHERE WHAT IT READS IS OF BULK AT MOST 1048576: true; the input reads as it did. -/
def regulationRefusalsUptoRow : OpenClaim := { program := "ytaoakololkcepaa", sum := "813d5b96ba73556daa8213a367fd8c3e8b41ca4e0c83345f4fc97cd64b2e4d70", func := "agraffe/agraffelaw05.RegulationRefusals", spec := "regulationRefusals", unfollowed := true, recurses := true, apart := false, narrowed := true }
def RegulationRefusalsUptoSaid : Prop := regulationRefusalsUptoRow.holds Try.pinned (OpenSpec.upto regulationRefusalsSpec)

/-- 'agraffelaw05.RegulationPlans', WHERE WHAT IT READS IS OF BULK AT MOST 1048576: true; the input reads as it did. -/
def regulationPlansUptoRow : OpenClaim := { program := "ytaoakololkcepaa", sum := "813d5b96ba73556daa8213a367fd8c3e8b41ca4e0c83345f4fc97cd64b2e4d70", func := "agraffe/agraffelaw05.RegulationPlans", spec := "regulationPlans", unfollowed := true, recurses := true, apart := false, narrowed := true }
def RegulationPlansUptoSaid : Prop := regulationPlansUptoRow.holds Try.pinned (OpenSpec.upto regulationPlansSpec)

/-- 'agraffelaw05.RegulationOrders', WHERE WHAT IT READS IS OF BULK AT MOST 1048576: true; the input reads as it did. -/
def regulationOrdersUptoRow : OpenClaim := { program := "ytaoakololkcepaa", sum := "813d5b96ba73556daa8213a367fd8c3e8b41ca4e0c83345f4fc97cd64b2e4d70", func := "agraffe/agraffelaw05.RegulationOrders", spec := "regulationOrders", unfollowed := true, recurses := true, apart := false, narrowed := true }
def RegulationOrdersUptoSaid : Prop := regulationOrdersUptoRow.holds Try.pinned (OpenSpec.upto regulationOrdersSpec)

/-- 'agraffelaw05.RegulationMakes', WHERE WHAT IT READS IS OF BULK AT MOST 1048576: true; the input reads as it did. -/
def regulationMakesUptoRow : OpenClaim := { program := "ytaoakololkcepaa", sum := "813d5b96ba73556daa8213a367fd8c3e8b41ca4e0c83345f4fc97cd64b2e4d70", func := "agraffe/agraffelaw05.RegulationMakes", spec := "regulationMakes", unfollowed := true, recurses := true, apart := false, narrowed := true }
def RegulationMakesUptoSaid : Prop := regulationMakesUptoRow.holds Try.pinned (OpenSpec.upto regulationMakesSpec)

/-- 'agraffelaw05.RegulationFewest', WHERE WHAT IT READS IS OF BULK AT MOST 1048576: true; the input reads as it did. -/
def regulationFewestUptoRow : OpenClaim := { program := "ytaoakololkcepaa", sum := "813d5b96ba73556daa8213a367fd8c3e8b41ca4e0c83345f4fc97cd64b2e4d70", func := "agraffe/agraffelaw05.RegulationFewest", spec := "regulationFewest", unfollowed := true, recurses := true, apart := false, narrowed := true }
def RegulationFewestUptoSaid : Prop := regulationFewestUptoRow.holds Try.pinned (OpenSpec.upto regulationFewestSpec)

/-- 'agraffelaw05.RegulationProves', WHERE WHAT IT READS IS OF BULK AT MOST 1048576: true; the input reads as it did. -/
def regulationProvesUptoRow : OpenClaim := { program := "ytaoakololkcepaa", sum := "813d5b96ba73556daa8213a367fd8c3e8b41ca4e0c83345f4fc97cd64b2e4d70", func := "agraffe/agraffelaw05.RegulationProves", spec := "regulationProves", unfollowed := true, recurses := true, apart := false, narrowed := true }
def RegulationProvesUptoSaid : Prop := regulationProvesUptoRow.holds Try.pinned (OpenSpec.upto regulationProvesSpec)

/-- 'agraffelaw05.RegulationDisturbs', WHERE WHAT IT READS IS OF BULK AT MOST 1048576: true; the input reads as it did. -/
def regulationDisturbsUptoRow : OpenClaim := { program := "ytaoakololkcepaa", sum := "813d5b96ba73556daa8213a367fd8c3e8b41ca4e0c83345f4fc97cd64b2e4d70", func := "agraffe/agraffelaw05.RegulationDisturbs", spec := "regulationDisturbs", unfollowed := true, recurses := true, apart := false, narrowed := true }
def RegulationDisturbsUptoSaid : Prop := regulationDisturbsUptoRow.holds Try.pinned (OpenSpec.upto regulationDisturbsSpec)

/-- 'agraffetop.TopSweepsReach', WHERE WHAT IT READS IS OF BULK AT MOST 1048576: true; the input reads as it did. -/
def topSweepsReachUptoRow : OpenClaim := { program := "ytaoakololkcepaa", sum := "813d5b96ba73556daa8213a367fd8c3e8b41ca4e0c83345f4fc97cd64b2e4d70", func := "agraffe/agraffetop.TopSweepsReach", spec := "topSweepsReach", unfollowed := true, recurses := true, apart := false, narrowed := true }
def TopSweepsReachUptoSaid : Prop := topSweepsReachUptoRow.holds Try.pinned (OpenSpec.upto topSweepsReachSpec)

end Rows
end Go.Proofs.Ytaoakololkcepaa
