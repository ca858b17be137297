import Derived.Test.YteogokmbedmkjaaG15
import Derived.Test.YteogokmbedmkjaaG19
namespace Go.Proofs.Yteogokmbedmkjaa
open Go.RowKit
attribute [local irreducible] WA WOs WDs WAn qThen qBlock tput
set_option maxHeartbeats 1000000
set_option maxRecDepth 20000
set_option linter.unusedSimpArgs false
set_option linter.unusedVariables false
theorem heights_law (a b c d e t w : Int) (m : Mem) : Gives Try.prog 7 [.agg [.int .i64 a, .int .i64 b, .int .i64 c, .int .i64 d, .int .i64 e], .int .i64 t, .int .i64 w] m (.bool true) := by
  by_cases hk : bearOk a b c d e
  · have hif : (if bearOk a b c d e then (0 : Int) else 2) = 0 := if_pos hk
    obtain ⟨n, r, p0, p1⟩ := heights a b c d e t w hk
    refine Gives_in Try.func7 rfl Try.ntmps7 Try.results7 (by kernel_rfl) (by simp) rfl fun Q hQ => ?_
    (have FX := hif; repeat' (first | refine s_tp ?_ | refine s_tn ?_ | ((first | refine WOs_splitD (fun h => ?_) (fun h => ?_) | refine WOs_splitN (fun h => ?_) (fun h => ?_) | refine WDs_splitD (fun h => ?_) (fun h => ?_) | refine WDs_splitN (fun h => ?_) (fun h => ?_)) <;> first | (exfalso; omega) | skip) | (refine g_op ?_; first | (refine g_call ?_; refine g_args ?_; first | (refine s_fn (awake_c _) ?_ <;> try first | omega | assumption) | (refine s_fn (p0 _) ?_ <;> try first | omega | assumption) | (refine s_fn (p1 _) ?_ <;> try first | omega | assumption) | (refine s_fn (rcheckbearing_c _ _ _ _ _ _) ?_ <;> try first | omega | assumption) | fail) | refine s_mv ?_ | refine s_as ?_ | refine s_bin ?_ | refine s_ld ?_ | refine s_ia ?_ | refine s_fa ?_ | refine s_fd ?_ | refine s_ix ?_ | refine s_un ?_ | refine s_op ?_) | refine WA_seq' ?_ | refine qT_WA ?_ | refine WA_region ?_ | refine WOs_nil ?_ | (refine g_c ?_; first | refine c_T ?_ | refine c_F ?_) | (refine g_gd ?_; first | refine s_yes ?_ | refine s_no ?_ | refine s_noU ?_) | refine WA_skip ?_ | refine WA_ret ?_ | refine WA_exit ?_ | refine qT_ret ?_ | refine qT_exit ?_ | refine qB_exit ?_ | refine qB_other rfl ?_ | refine qB_normal ?_ | refine qB_ret ?_ | refine WA_block ?_ | refine qT_WAn ?_ | refine WAn_step ?_ | refine qT_normal ?_))
    all_goals (refine r_es hQ ?_; try with_reducible rfl)
  · have hif : (if bearOk a b c d e then (0 : Int) else 2) = 2 := if_neg hk
    have p0 := least_A a b c d e t w hk
    have p1 := p0
    refine Gives_in Try.func7 rfl Try.ntmps7 Try.results7 (by kernel_rfl) (by simp) rfl fun Q hQ => ?_
    (have FX := hif; repeat' (first | refine s_tp ?_ | refine s_tn ?_ | ((first | refine WOs_splitD (fun h => ?_) (fun h => ?_) | refine WOs_splitN (fun h => ?_) (fun h => ?_) | refine WDs_splitD (fun h => ?_) (fun h => ?_) | refine WDs_splitN (fun h => ?_) (fun h => ?_)) <;> first | (exfalso; omega) | skip) | (refine g_op ?_; first | (refine g_call ?_; refine g_args ?_; first | (refine s_fn (awake_c _) ?_ <;> try first | omega | assumption) | (refine s_fn (p0 _) ?_ <;> try first | omega | assumption) | (refine s_fn (p1 _) ?_ <;> try first | omega | assumption) | (refine s_fn (rcheckbearing_c _ _ _ _ _ _) ?_ <;> try first | omega | assumption) | fail) | refine s_mv ?_ | refine s_as ?_ | refine s_bin ?_ | refine s_ld ?_ | refine s_ia ?_ | refine s_fa ?_ | refine s_fd ?_ | refine s_ix ?_ | refine s_un ?_ | refine s_op ?_) | refine WA_seq' ?_ | refine qT_WA ?_ | refine WA_region ?_ | refine WOs_nil ?_ | (refine g_c ?_; first | refine c_T ?_ | refine c_F ?_) | (refine g_gd ?_; first | refine s_yes ?_ | refine s_no ?_ | refine s_noU ?_) | refine WA_skip ?_ | refine WA_ret ?_ | refine WA_exit ?_ | refine qT_ret ?_ | refine qT_exit ?_ | refine qB_exit ?_ | refine qB_other rfl ?_ | refine qB_normal ?_ | refine qB_ret ?_ | refine WA_block ?_ | refine qT_WAn ?_ | refine WAn_step ?_ | refine qT_normal ?_))
    all_goals (refine r_es hQ ?_; try with_reducible rfl)
end Go.Proofs.Yteogokmbedmkjaa
