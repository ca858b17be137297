import Derived.Test.YteogokmbedmkjaaG14
import Derived.Test.YteogokmbedmkjaaG8
namespace Go.Proofs.Yteogokmbedmkjaa
open Go.RowKit
attribute [local irreducible] WA WOs WDs WAn qThen qBlock tput
set_option maxHeartbeats 1000000
set_option maxRecDepth 20000
set_option linter.unusedSimpArgs false
set_option linter.unusedVariables false
theorem aw1 (m : Mem) : Gives Try.prog 18 [.agg [.int .i64 1000, .int .i64 1000], .agg [.int .i64 (0), .int .i64 (0), .int .i64 (0)], .agg [.int .i64 (100), .int .i64 (100), .int .i64 (0)]] m (.tup [.agg [.int .i64 707, .int .i64 708, .int .i64 707, .int .i64 708, .int .i64 0, .int .i64 0], .int .i64 0]) := by
  have h := ppull_ok 1000 1000 0 0 0 100 100 0 100 100 0 100 100 0 14142 14143 (by omega) (by unfold Plc; omega) (by unfold Plc; omega) rfl rfl rfl (by unfold Plc; omega) (by omega) (by decide) (by decide) (by decide) (by unfold IsRoot; omega) (by decide) m
  have e1 : compLo 1000 1000 100 14142 14143 = 707 := by decide +kernel
  have e2 : compHi 1000 1000 100 14142 14143 = 708 := by decide +kernel
  have e3 : compLo 1000 1000 0 14142 14143 = 0 := by decide +kernel
  have e4 : compHi 1000 1000 0 14142 14143 = 0 := by decide +kernel
  rw [e1, e2, e3, e4] at h
  exact h
theorem aw2 (m : Mem) : Gives Try.prog 21 [.lst [[.int .i64 0], [.int .i64 100], [.int .i64 300]], .lst [[.int .i64 50, .int .i64 60], [.int .i64 200, .int .i64 90], [.int .i64 300, .int .i64 10]]] m (.tup [.lst [[.int .i64 30, .int .i64 1], [.int .i64 75, .int .i64 1], [.int .i64 55, .int .i64 1]], .int .i64 0]) := by
  have h := distr_ok [0, 100, 300] [(50, 60), (200, 90), (300, 10)] (by decide) (by decide) (by decide +kernel) (by decide +kernel) m
  have e : distr [0, 100, 300] [(50, 60), (200, 90), (300, 10)] = [(30, 1), (75, 1), (55, 1)] := by decide +kernel
  rw [e] at h
  exact h
theorem aw3 (m : Mem) : Gives Try.prog 29 [.agg [.int .i64 0, .int .i64 100, .int .i64 0, .int .i64 10000, .int .i64 5000], .int .i64 70000] m (.tup [.agg [.int .i64 2100, .int .i64 1], .int .i64 0]) := by
  have h := downbearing_ok 0 100 0 10000 5000 70000 (by unfold bearOk; omega) (by omega) m
  have e : lowF (70000 * ((100 - 0) * 5000 + (100 - 0) * 10000)) (10000 * 5000) = (2100, 1) := by decide +kernel
  rw [e] at h
  exact h
theorem aw4 (m : Mem) : Gives Try.prog 27 [.lst [[.int .i64 30, .int .i64 1], [.int .i64 75, .int .i64 1], [.int .i64 55, .int .i64 1]], .lst [[.int .i64 30, .int .i64 1], [.int .i64 75, .int .i64 1], [.int .i64 55, .int .i64 1]]] m (.bool true) :=
  fracs_c [(30, 1), (75, 1), (55, 1)] [(30, 1), (75, 1), (55, 1)] (by decide) (by decide) m
theorem awake_c (m : Mem) : Gives Try.prog 17 [] m (.bool true) := by
  refine Gives_in Try.func17 rfl Try.ntmps17 Try.results17 (by kernel_rfl) (by simp) rfl fun Q hQ => ?_
  (repeat' (first | refine s_tp ?_ | refine s_tn ?_ | ((first | refine WOs_splitD (fun h => ?_) (fun h => ?_) | refine WOs_splitN (fun h => ?_) (fun h => ?_) | refine WDs_splitD (fun h => ?_) (fun h => ?_) | refine WDs_splitN (fun h => ?_) (fun h => ?_)) <;> first | (exfalso; omega) | skip) | (refine g_op ?_; first | (refine g_call ?_; refine g_args ?_; first | (refine s_fn (aw1 _) ?_ <;> try first | omega | assumption) | (refine s_fn (aw3 _) ?_ <;> try first | omega | assumption) | fail) | refine s_mv ?_ | refine s_as ?_ | refine s_bin ?_ | refine s_ld ?_ | refine s_ia ?_ | refine s_fa ?_ | refine s_fd ?_ | refine s_ix ?_ | refine s_un ?_ | refine s_op ?_) | refine WA_seq' ?_ | refine qT_WA ?_ | refine WA_region ?_ | refine WOs_nil ?_ | (refine g_c ?_; first | refine c_T ?_ | refine c_F ?_) | (refine g_gd ?_; first | refine s_yes ?_ | refine s_no ?_ | refine s_noU ?_) | refine WA_skip ?_ | refine WA_ret ?_ | refine WA_exit ?_ | refine qT_ret ?_ | refine qT_exit ?_ | refine qB_exit ?_ | refine qB_other rfl ?_ | refine qB_normal ?_ | refine qB_ret ?_ | refine WA_block ?_ | refine qT_WAn ?_ | refine WAn_step ?_ | refine qT_normal ?_))
  refine g_op ?_
  refine g_call ?_
  refine g_args ?_
  refine s_fz2 (B := lend m) 1 0 2 1 (aw2 _) ?_
  (repeat' (first | refine s_tp ?_ | refine s_tn ?_ | ((first | refine WOs_splitD (fun h => ?_) (fun h => ?_) | refine WOs_splitN (fun h => ?_) (fun h => ?_) | refine WDs_splitD (fun h => ?_) (fun h => ?_) | refine WDs_splitN (fun h => ?_) (fun h => ?_)) <;> first | (exfalso; omega) | skip) | (refine g_op ?_; first | (refine g_call ?_; refine g_args ?_; first | (refine s_fn (aw1 _) ?_ <;> try first | omega | assumption) | (refine s_fn (aw3 _) ?_ <;> try first | omega | assumption) | fail) | refine s_mv ?_ | refine s_as ?_ | refine s_bin ?_ | refine s_ld ?_ | refine s_ia ?_ | refine s_fa ?_ | refine s_fd ?_ | refine s_ix ?_ | refine s_un ?_ | refine s_op ?_) | refine WA_seq' ?_ | refine qT_WA ?_ | refine WA_region ?_ | refine WOs_nil ?_ | (refine g_c ?_; first | refine c_T ?_ | refine c_F ?_) | (refine g_gd ?_; first | refine s_yes ?_ | refine s_no ?_ | refine s_noU ?_) | refine WA_skip ?_ | refine WA_ret ?_ | refine WA_exit ?_ | refine qT_ret ?_ | refine qT_exit ?_ | refine qB_exit ?_ | refine qB_other rfl ?_ | refine qB_normal ?_ | refine qB_ret ?_ | refine WA_block ?_ | refine qT_WAn ?_ | refine WAn_step ?_ | refine qT_normal ?_))
  refine g_op ?_
  refine g_call ?_
  refine g_args ?_
  refine s_fz1 (B := lend m) 4 1 (aw4 _) ?_
  (repeat' (first | refine s_tp ?_ | refine s_tn ?_ | ((first | refine WOs_splitD (fun h => ?_) (fun h => ?_) | refine WOs_splitN (fun h => ?_) (fun h => ?_) | refine WDs_splitD (fun h => ?_) (fun h => ?_) | refine WDs_splitN (fun h => ?_) (fun h => ?_)) <;> first | (exfalso; omega) | skip) | (refine g_op ?_; first | (refine g_call ?_; refine g_args ?_; first | (refine s_fn (aw1 _) ?_ <;> try first | omega | assumption) | (refine s_fn (aw3 _) ?_ <;> try first | omega | assumption) | fail) | refine s_mv ?_ | refine s_as ?_ | refine s_bin ?_ | refine s_ld ?_ | refine s_ia ?_ | refine s_fa ?_ | refine s_fd ?_ | refine s_ix ?_ | refine s_un ?_ | refine s_op ?_) | refine WA_seq' ?_ | refine qT_WA ?_ | refine WA_region ?_ | refine WOs_nil ?_ | (refine g_c ?_; first | refine c_T ?_ | refine c_F ?_) | (refine g_gd ?_; first | refine s_yes ?_ | refine s_no ?_ | refine s_noU ?_) | refine WA_skip ?_ | refine WA_ret ?_ | refine WA_exit ?_ | refine qT_ret ?_ | refine qT_exit ?_ | refine qB_exit ?_ | refine qB_other rfl ?_ | refine qB_normal ?_ | refine qB_ret ?_ | refine WA_block ?_ | refine qT_WAn ?_ | refine WAn_step ?_ | refine qT_normal ?_))
  (refine r_es hQ ?_; try with_reducible rfl)
end Go.Proofs.Yteogokmbedmkjaa
