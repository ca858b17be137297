/- contracts: the bench behind steps; cuts -/
import Derived.Test.YtaoakololkcepaaB58
import Derived.Test.YtaoakololkcepaaB59
import Derived.Test.YtaoakololkcepaaB44
set_option linter.unusedSimpArgs false
set_option linter.unusedVariables false
namespace Go.Proofs.Ytaoakololkcepaa
open Go.RowKit
attribute [local irreducible] WA WOs WDs WAn qThen qBlock tput
set_option maxHeartbeats 1000000
set_option maxRecDepth 20000
set_option linter.unusedSimpArgs false
set_option linter.unusedVariables false
theorem gApply_ok (b : BnR) (hb : Bl b) (l : List Int) (h0 : bsErr b l = 0) (m : Mem) : Gives Try.prog 29 [.agg (bnV b), .lst (nsV l)] m (.tup [.agg (bnV (apR b l)), .int .i64 (apE b l)]) := by
  by_cases h : b.ms = []
  · exact gApply_nil b hb l h0 h m
  · exact gApply_cons b hb l h0 h m
end Go.Proofs.Ytaoakololkcepaa
