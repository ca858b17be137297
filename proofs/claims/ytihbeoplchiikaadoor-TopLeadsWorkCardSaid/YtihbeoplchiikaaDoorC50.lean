/- contracts: the reference's curves of parts, dips of events -/
import Derived.Test.YtihbeoplchiikaaDoorC49
import Derived.Test.YtihbeoplchiikaaDoorC21
import Derived.Test.YtihbeoplchiikaaDoorGF
set_option linter.unusedSimpArgs false
set_option linter.unusedVariables false
namespace Go.Proofs.YtihbeoplchiikaaDoor
end Go.Proofs.YtihbeoplchiikaaDoor
