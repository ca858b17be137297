/- contract: a curve of a curve, in the reference -/
import Derived.Test.YtihbeoplchiikaaDoorGF
import Derived.Test.YtihbeoplchiikaaDoorC48
import Derived.Test.YtihbeoplchiikaaDoorC6
set_option linter.unusedSimpArgs false
set_option linter.unusedVariables false
namespace Go.Proofs.YtihbeoplchiikaaDoor
end Go.Proofs.YtihbeoplchiikaaDoor
