/- contracts: the order of events, and what has happened -/
import Derived.Test.YtihbeoplchiikaaDoorC30
import Derived.Test.YtihbeoplchiikaaDoorGF
set_option linter.unusedSimpArgs false
set_option linter.unusedVariables false
namespace Go.Proofs.YtihbeoplchiikaaDoor
open Go.RowKit
attribute [local irreducible] WA WOs WDs WAn qThen qBlock tput
set_option maxHeartbeats 1000000
set_option maxRecDepth 20000
set_option linter.unusedSimpArgs false
set_option linter.unusedVariables false
attribute [local irreducible] smB cut sm
def txV (o : Nms) : List (List V) := o.map fun s => [V.str s]
end Go.Proofs.YtihbeoplchiikaaDoor
