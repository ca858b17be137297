/- contracts: the events that happen -/
import Derived.Test.YtihbeoplchiikaaDoorGH
import Derived.Test.YtihbeoplchiikaaDoorGK
set_option linter.unusedSimpArgs false
set_option linter.unusedVariables false
namespace Go.Proofs.YtihbeoplchiikaaDoor
end Go.Proofs.YtihbeoplchiikaaDoor
