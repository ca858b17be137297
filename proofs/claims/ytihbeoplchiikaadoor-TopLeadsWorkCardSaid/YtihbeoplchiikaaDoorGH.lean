import Derived.Test.YtihbeoplchiikaaDoorC28
set_option linter.unusedSimpArgs false
set_option linter.unusedVariables false
/- contracts: how many bits a small number has -/
namespace Go.Proofs.YtihbeoplchiikaaDoor
end Go.Proofs.YtihbeoplchiikaaDoor
/- contracts: the sort of events, from above -/
namespace Go.Proofs.YtihbeoplchiikaaDoor
end Go.Proofs.YtihbeoplchiikaaDoor
