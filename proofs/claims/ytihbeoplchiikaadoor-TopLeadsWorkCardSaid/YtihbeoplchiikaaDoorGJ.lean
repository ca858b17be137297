import Derived.Test.YtihbeoplchiikaaDoorC50
import Derived.Test.YtihbeoplchiikaaDoorC33
import Derived.Test.YtihbeoplchiikaaDoorC34
import Derived.Test.YtihbeoplchiikaaDoorYE
set_option linter.unusedSimpArgs false
set_option linter.unusedVariables false
/- contracts: balance, friction and weights of the reference -/
namespace Go.Proofs.YtihbeoplchiikaaDoor
end Go.Proofs.YtihbeoplchiikaaDoor
/- contracts: weights and windows of the reference -/
namespace Go.Proofs.YtihbeoplchiikaaDoor
end Go.Proofs.YtihbeoplchiikaaDoor
