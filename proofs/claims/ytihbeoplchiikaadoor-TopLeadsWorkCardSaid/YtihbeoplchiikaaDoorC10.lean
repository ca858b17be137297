/- contracts: values and slopes in the reference -/
import Derived.Test.YtihbeoplchiikaaDoorC6
import Derived.Test.YtihbeoplchiikaaDoorGC
set_option linter.unusedSimpArgs false
set_option linter.unusedVariables false
namespace Go.Proofs.YtihbeoplchiikaaDoor
open Go.RowKit
attribute [local irreducible] WA WOs WDs WAn qThen qBlock tput
set_option maxHeartbeats 1000000
set_option maxRecDepth 20000
set_option linter.unusedSimpArgs false
set_option linter.unusedVariables false
attribute [local irreducible] smB cut sm

theorem rwhole_c (n : Int) (m : Mem) : Gives Tryd.prog 11 [.int .i64 n] m (.agg [.int .i64 n, .int .i64 1]) := by
  refine Gives_in Tryd.func11 rfl Tryd.ntmps11 Tryd.results11 (by kernel_rfl) (by simp) rfl fun Q hQ => ?_
  (repeat' (first | (refine sx ?_ ?_ <;> intro h <;> first | (exfalso; omega) | skip) | refine ny ?_ | refine WA_block ?_))
  all_goals (refine r_es hQ ?_; try with_reducible rfl)
end Go.Proofs.YtihbeoplchiikaaDoor
