/- contract: orders of events, in the reference -/
import Derived.Test.YtbcjcbcakcdnfaaGreatC57
import Derived.Test.YtbcjcbcakcdnfaaGreatYI
set_option linter.unusedSimpArgs false
set_option linter.unusedVariables false
namespace Go.Proofs.YtbcjcbcakcdnfaaGreat
open Go.RowKit
attribute [local irreducible] WA WOs WDs WAn qThen qBlock tput
set_option maxHeartbeats 1000000
set_option maxRecDepth 20000
set_option linter.unusedSimpArgs false
set_option linter.unusedVariables false
attribute [local irreducible] smB cut sm
end Go.Proofs.YtbcjcbcakcdnfaaGreat
