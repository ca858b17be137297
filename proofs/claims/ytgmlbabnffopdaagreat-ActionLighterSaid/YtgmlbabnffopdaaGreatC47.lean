/- contract: the copy of a light action -/
import Derived.Test.YtgmlbabnffopdaaGreatC43
import Derived.Test.YtgmlbabnffopdaaGreatC44
set_option linter.unusedSimpArgs false
set_option linter.unusedVariables false
namespace Go.Proofs.YtgmlbabnffopdaaGreat
open Go.RowKit
attribute [local irreducible] WA WOs WDs WAn qThen qBlock tput
set_option maxHeartbeats 1000000
set_option maxRecDepth 20000
set_option linter.unusedSimpArgs false
set_option linter.unusedVariables false
theorem lcopied_l (a : ActR) (h : light a) (m : Mem) : Gives Tryz.prog 10 [.agg (actV a)] m (.agg (actV a)) := by
  obtain ⟨h1, h2, _⟩ := h
  unfold lenLight at h1
  refine lcopied_c a (by omega) (by omega) (by omega) (fun i hi => ?_) m
  have := h2 i hi
  unfold ptLight at this
  omega
end Go.Proofs.YtgmlbabnffopdaaGreat
