/- the law TopPlanRegulates, over contracts -/
import Derived.Test.YtnablpehkeicmaaGreatGAO
import Derived.Test.YtnablpehkeicmaaGreatB62
import Derived.Test.YtnablpehkeicmaaGreatGAL
import Derived.Test.YtnablpehkeicmaaGreatGAS
import Derived.Test.YtnablpehkeicmaaGreatC57
set_option linter.unusedSimpArgs false
set_option linter.unusedVariables false
namespace Go.Proofs.YtnablpehkeicmaaGreat
end Go.Proofs.YtnablpehkeicmaaGreat
