/- contract: a corner put into its place -/
import Derived.Test.YtihbeoplchiikaaDoorC10
import Derived.Test.YtihbeoplchiikaaDoorC12
import Derived.Test.YtihbeoplchiikaaDoorYE
import Derived.Test.YtihbeoplchiikaaDoorYN
set_option linter.unusedSimpArgs false
set_option linter.unusedVariables false
namespace Go.Proofs.YtihbeoplchiikaaDoor
end Go.Proofs.YtihbeoplchiikaaDoor
