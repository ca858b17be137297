/- contracts: where a curve reaches a level -/
import Derived.Test.YtihbeoplchiikaaDoorC21
import Derived.Test.YtihbeoplchiikaaDoorC10
import Derived.Test.YtihbeoplchiikaaDoorYE
set_option linter.unusedSimpArgs false
set_option linter.unusedVariables false
namespace Go.Proofs.YtihbeoplchiikaaDoor
end Go.Proofs.YtihbeoplchiikaaDoor
