/- contracts: right curves, in the reference -/
import Derived.Test.YtihbeoplchiikaaDoorGB
set_option linter.unusedSimpArgs false
set_option linter.unusedVariables false
namespace Go.Proofs.YtihbeoplchiikaaDoor
end Go.Proofs.YtihbeoplchiikaaDoor
