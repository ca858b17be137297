/- contracts: values, slopes and curves of curves, from above -/
import Derived.Test.YtihbeoplchiikaaDoorC22
import Derived.Test.YtihbeoplchiikaaDoorC14
set_option linter.unusedSimpArgs false
set_option linter.unusedVariables false
namespace Go.Proofs.YtihbeoplchiikaaDoor
end Go.Proofs.YtihbeoplchiikaaDoor
