/- plans whose passes are turned; pass by pass: the plain reading -/
import Derived.Test.YtaoakololkcepaaBQ
import Derived.Test.YtaoakololkcepaaBP
set_option linter.unusedSimpArgs false
set_option linter.unusedVariables false
namespace Go.Proofs.Ytaoakololkcepaa
open Go.RowKit
theorem ap_bl {b : BnR} (hb : Bl b) (l : List Int) : Bl (apB b l) := by
  refine ⟨by rw [apB_ms]; exact hb.nm, by rw [apB_ads]; exact hb.na, fun i hi => ?_, fun i hi => ?_, fun i hi => ?_, fun i hi => ?_⟩
  · rw [apB_ms] at hi; rw [apB_m hi]; exact hb.mn i hi
  all_goals (rw [apB_ads] at hi; rw [apB_a hi])
  · exact hb.an i hi
  · exact hb.ae i hi
  · exact hb.aa i hi
end Go.Proofs.Ytaoakololkcepaa
