/- contract: the order of adjustments, in the reference -/
import Derived.Test.YtaoakololkcepaaB23
set_option linter.unusedSimpArgs false
set_option linter.unusedVariables false
namespace Go.Proofs.Ytaoakololkcepaa
open Go.RowKit
attribute [local irreducible] WA WOs WDs WAn qThen qBlock tput
set_option maxHeartbeats 1000000
set_option maxRecDepth 20000
set_option linter.unusedSimpArgs false
set_option linter.unusedVariables false
set_option maxHeartbeats 8000000
def o2 (out : List Nat) (n : Nat) (g : Bool) : List Nat := if g = true then out ++ [n] else out
end Go.Proofs.Ytaoakololkcepaa
