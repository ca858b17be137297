/- contracts: events in their order -/
import Derived.Test.YtihbeoplchiikaaDoorYE
import Derived.Test.YtihbeoplchiikaaDoorGD
set_option linter.unusedSimpArgs false
set_option linter.unusedVariables false
namespace Go.Proofs.YtihbeoplchiikaaDoor
open Go.RowKit
attribute [local irreducible] WA WOs WDs WAn qThen qBlock tput
set_option maxHeartbeats 1000000
set_option maxRecDepth 20000
set_option linter.unusedSimpArgs false
set_option linter.unusedVariables false
attribute [local irreducible] smB cut sm

theorem cor_c (x y : Int) (M : Mem) (k : Nat) (st : Sta) (hk : M[k]? = some (.cells st 3 1 [[.int .i64 x], [.int .i64 y]])) : Gives Tryd.prog 25 [.sl k 2] M (.int .i64 (if x ≠ 0 then x else y)) := by
  have hkl := lend_get2 hk
  refine Gives_in Tryd.func25 rfl Tryd.ntmps25 Tryd.results25 (by kernel_rfl) (by simp) rfl fun Q hQ => ?_
  (have FX := hkl; repeat' (first | (refine sx ?_ ?_ <;> intro h <;> first | (exfalso; omega) | skip) | refine ny ?_ | refine WA_block ?_))
  refine WA_rounds 3 ?_
  (have FX := hkl; repeat' (first | (refine sx ?_ ?_ <;> intro h <;> first | (exfalso; omega) | skip) | refine ny ?_ | refine WA_block ?_))
  all_goals (try (exfalso; omega))
  all_goals ((refine r_es hQ ?_; try with_reducible rfl))
  all_goals (refine congrArg (V.int .i64) ?_; (repeat (first | rw [if_pos (by first | assumption | omega | grind)] | rw [if_neg (by first | assumption | omega | grind)])); try omega)
end Go.Proofs.YtihbeoplchiikaaDoor
