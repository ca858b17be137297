import Derived.Test.YteogokmbedmkjaaProg
import Derived.Test.YteogokmbedmkjaaYC
import Derived.Test.YteogokmbedmkjaaG5
namespace Go.Proofs.Yteogokmbedmkjaa
open Go.RowKit
attribute [local irreducible] WA WOs WDs WAn qThen qBlock tput
set_option maxHeartbeats 1000000
set_option maxRecDepth 20000
set_option linter.unusedSimpArgs false
set_option linter.unusedVariables false
theorem cdiv_bd {n d : Int} (h0 : 0 < d) (h1 : 0 ≤ n) : 0 ≤ cdiv n d ∧ cdiv n d ≤ n := by
  unfold cdiv
  have a1 : -n ≤ -n / d := (Int.le_ediv_iff_mul_le h0).2 (by
    have : n * 1 ≤ n * d := Int.mul_le_mul_of_nonneg_left (show (1 : Int) ≤ d from h0) h1
    rw [Int.neg_mul]; omega)
  have a2 : -n / d ≤ 0 := Int.le_of_lt_add_one (by
    have := Int.ediv_lt_of_lt_mul h0 (show -n < (0 + 1) * d by omega)
    omega)
  omega
theorem cdiv_zero {d : Int} : cdiv 0 d = 0 := by simp [cdiv]
def compLo (lo hi c slo shi : Int) : Int := if c < 0 then -(cdiv (100 * hi * (-c)) slo) else 100 * lo * c / shi
def compHi (lo hi c slo shi : Int) : Int := if c < 0 then -(100 * lo * (-c) / shi) else cdiv (100 * hi * c) slo
theorem mul_bd {x c : Int} (h0 : 0 ≤ x) (h1 : x ≤ 10000000000) (k0 : 0 ≤ c) (k1 : c ≤ 1000000) : 0 ≤ 100 * x * c ∧ 100 * x * c ≤ 1000000000000000000 := by
  refine ⟨Int.mul_nonneg (by omega) k0, ?_⟩
  calc 100 * x * c ≤ 1000000000000 * c := Int.mul_le_mul_of_nonneg_right (by omega) k0
    _ ≤ 1000000000000 * 1000000 := Int.mul_le_mul_of_nonneg_left k1 (by omega)
    _ ≤ _ := by omega
theorem component_pos (lo hi c slo shi : Int) (h1 : 0 ≤ lo ∧ lo ≤ 10000000000) (h2 : 0 ≤ hi ∧ hi ≤ 10000000000) (hc : 0 ≤ c ∧ c ≤ 1000000) (hs : 0 < slo) (hs' : 0 < shi) (m : Mem) :
    Gives Try.prog 82 [.agg [.int .i64 lo, .int .i64 hi], .int .i64 c, .agg [.int .i64 slo, .int .i64 shi]] m (.agg [.int .i64 (100 * lo * c / shi), .int .i64 (cdiv (100 * hi * c) slo)]) := by
  obtain ⟨a1, a2⟩ := mul_bd h1.1 h1.2 hc.1 hc.2
  obtain ⟨b1, b2⟩ := mul_bd h2.1 h2.2 hc.1 hc.2
  refine Gives_in Try.func82 rfl Try.ntmps82 Try.results82 (by kernel_rfl) (by simp) rfl fun Q hQ => ?_
  (repeat' (first | refine s_tp ?_ | refine s_tn ?_ | refine d_tp ?_ | refine d_tn ?_ | ((first | refine WOs_splitD (fun h => ?_) (fun h => ?_) | refine WOs_splitN (fun h => ?_) (fun h => ?_) | refine WDs_splitD (fun h => ?_) (fun h => ?_) | refine WDs_splitN (fun h => ?_) (fun h => ?_)) <;> first | (exfalso; omega) | skip) | (refine g_op ?_; first | (refine g_call ?_; refine g_args ?_; first | (refine s_fn (bfloor_c _ _ ?_ ?_ ?_ _) ?_ <;> try first | omega | assumption) | (refine s_fn (bceil_c _ _ ?_ ?_ ?_ _) ?_ <;> try first | omega | assumption) | fail) | refine s_mv ?_ | refine s_as ?_ | refine s_bin ?_ | refine s_ld ?_ | refine s_ia ?_ | refine s_fa ?_ | refine s_fd ?_ | refine s_ix ?_ | refine s_un ?_ | refine s_op ?_) | refine WA_seq' ?_ | refine qT_WA ?_ | refine WA_region ?_ | (refine d_raw (id := 6) ?_; refine ⟨fun i => if i == 17 then .w else if i == 1 || i == 6 || i == 7 || i == 9 || i == 14 || i == 15 || i == 16 then .q else .p, [.one 0, .one 1, .one 2, .one 3, .one 4, .one 5, .one 6, .one 7, .one 8, .one 9, .one 10, .one 11, .one 12, .one 13, .one 14, .one 15, .one 16, .one 17], by kernel_rfl, ?_⟩) | refine WDs_nil ?_ | refine d_gPP cl_nil mkP mkP ?_ | refine d_gPc mkP ?_ | refine d_gPPc mkP mkP ?_ | refine grp_nil ?_ | (refine grp_cons (fun _ => bfloor_c _ _ ?_ ?_ ?_ _) ?_ <;> try first | omega | assumption) | (refine grp_cons (fun _ => bceil_c _ _ ?_ ?_ ?_ _) ?_ <;> try first | omega | assumption) | refine d_gSS cl_nil mkS mkS ?_ | (refine g_d ?_; first | (refine d_args ?_; first | (refine d_fn (bfloor_c _ _ ?_ ?_ ?_ _) ?_ <;> try first | omega | assumption) | (refine d_fn (bceil_c _ _ ?_ ?_ ?_ _) ?_ <;> try first | omega | assumption) | fail) | (refine d_fnY (bfloor_c _ _ ?_ ?_ ?_ _) ?_ <;> try first | omega | assumption) | (refine d_fnY (bceil_c _ _ ?_ ?_ ?_ _) ?_ <;> try first | omega | assumption) | refine d_op ?_ | refine d_yes ?_ | refine d_no ?_ | refine d_noU ?_) | refine WOs_nil ?_ | (refine g_c ?_; first | refine c_T ?_ | refine c_F ?_) | (refine g_gd ?_; first | refine s_yes ?_ | refine s_no ?_ | refine s_noU ?_) | refine WA_skip ?_ | refine WA_ret ?_ | refine WA_exit ?_ | refine qT_ret ?_ | refine qT_exit ?_ | refine qB_exit ?_ | refine qB_other rfl ?_ | refine qB_normal ?_ | refine qB_ret ?_ | refine WA_block ?_ | refine qT_WAn ?_ | refine WAn_step ?_ | refine qT_normal ?_))
  · (refine r_es hQ ?_; try with_reducible rfl)
    have : c = 0 := by omega
    subst this
    simp [cdiv_zero]
  · skip
    (repeat' (first | refine s_tp ?_ | refine s_tn ?_ | refine d_tp ?_ | refine d_tn ?_ | ((first | refine WOs_splitD (fun h => ?_) (fun h => ?_) | refine WOs_splitN (fun h => ?_) (fun h => ?_) | refine WDs_splitD (fun h => ?_) (fun h => ?_) | refine WDs_splitN (fun h => ?_) (fun h => ?_)) <;> first | (exfalso; omega) | skip) | (refine g_op ?_; first | (refine g_call ?_; refine g_args ?_; first | (refine s_fn (bfloor_c _ _ ?_ ?_ ?_ _) ?_ <;> try first | omega | assumption) | (refine s_fn (bceil_c _ _ ?_ ?_ ?_ _) ?_ <;> try first | omega | assumption) | fail) | refine s_mv ?_ | refine s_as ?_ | refine s_bin ?_ | refine s_ld ?_ | refine s_ia ?_ | refine s_fa ?_ | refine s_fd ?_ | refine s_ix ?_ | refine s_un ?_ | refine s_op ?_) | refine WA_seq' ?_ | refine qT_WA ?_ | refine WA_region ?_ | (refine d_raw (id := 6) ?_; refine ⟨fun i => if i == 17 then .w else if i == 1 || i == 6 || i == 7 || i == 9 || i == 14 || i == 15 || i == 16 then .q else .p, [.one 0, .one 1, .one 2, .one 3, .one 4, .one 5, .one 6, .one 7, .one 8, .one 9, .one 10, .one 11, .one 12, .one 13, .one 14, .one 15, .one 16, .one 17], by kernel_rfl, ?_⟩) | refine WDs_nil ?_ | refine d_gPP cl_nil mkP mkP ?_ | refine d_gPc mkP ?_ | refine d_gPPc mkP mkP ?_ | refine grp_nil ?_ | (refine grp_cons (fun _ => bfloor_c _ _ ?_ ?_ ?_ _) ?_ <;> try first | omega | assumption) | (refine grp_cons (fun _ => bceil_c _ _ ?_ ?_ ?_ _) ?_ <;> try first | omega | assumption) | refine d_gSS cl_nil mkS mkS ?_ | (refine g_d ?_; first | (refine d_args ?_; first | (refine d_fn (bfloor_c _ _ ?_ ?_ ?_ _) ?_ <;> try first | omega | assumption) | (refine d_fn (bceil_c _ _ ?_ ?_ ?_ _) ?_ <;> try first | omega | assumption) | fail) | (refine d_fnY (bfloor_c _ _ ?_ ?_ ?_ _) ?_ <;> try first | omega | assumption) | (refine d_fnY (bceil_c _ _ ?_ ?_ ?_ _) ?_ <;> try first | omega | assumption) | refine d_op ?_ | refine d_yes ?_ | refine d_no ?_ | refine d_noU ?_) | refine WOs_nil ?_ | (refine g_c ?_; first | refine c_T ?_ | refine c_F ?_) | (refine g_gd ?_; first | refine s_yes ?_ | refine s_no ?_ | refine s_noU ?_) | refine WA_skip ?_ | refine WA_ret ?_ | refine WA_exit ?_ | refine qT_ret ?_ | refine qT_exit ?_ | refine qB_exit ?_ | refine qB_other rfl ?_ | refine qB_normal ?_ | refine qB_ret ?_ | refine WA_block ?_ | refine qT_WAn ?_ | refine WAn_step ?_ | refine qT_normal ?_))
    (refine r_es hQ ?_; try with_reducible rfl)
theorem component_c (lo hi c slo shi : Int) (h1 : 0 ≤ lo ∧ lo ≤ 10000000000) (h2 : 0 ≤ hi ∧ hi ≤ 10000000000) (hc : -1000000 ≤ c ∧ c ≤ 1000000) (hs : 0 < slo) (hs' : 0 < shi) (m : Mem) :
    Gives Try.prog 82 [.agg [.int .i64 lo, .int .i64 hi], .int .i64 c, .agg [.int .i64 slo, .int .i64 shi]] m (.agg [.int .i64 (compLo lo hi c slo shi), .int .i64 (compHi lo hi c slo shi)]) := by
  unfold compLo compHi
  rcases Int.lt_or_le c 0 with h | h
  · rw [if_pos h, if_pos h]
    have hc' : 0 ≤ -c ∧ -c ≤ 1000000 := by omega
    obtain ⟨a1, a2⟩ := mul_bd h1.1 h1.2 hc'.1 hc'.2
    obtain ⟨b1, b2⟩ := mul_bd h2.1 h2.2 hc'.1 hc'.2
    have q1 := ediv_bd (n := 100 * lo * (-c)) hs' (by omega) (by omega)
    have q2 := cdiv_bd (n := 100 * hi * (-c)) hs b1
    refine Gives_in Try.func82 rfl Try.ntmps82 Try.results82 (by kernel_rfl) (by simp) rfl fun Q hQ => ?_
    (repeat' (first | refine s_tp ?_ | refine s_tn ?_ | refine d_tp ?_ | refine d_tn ?_ | ((first | refine WOs_splitD (fun h => ?_) (fun h => ?_) | refine WOs_splitN (fun h => ?_) (fun h => ?_) | refine WDs_splitD (fun h => ?_) (fun h => ?_) | refine WDs_splitN (fun h => ?_) (fun h => ?_)) <;> first | (exfalso; omega) | skip) | (refine g_op ?_; first | (refine g_call ?_; refine g_args ?_; first | (refine s_fn (component_pos _ _ _ _ _ ?_ ?_ ?_ ?_ ?_ _) ?_ <;> try first | omega | assumption) | fail) | refine s_mv ?_ | refine s_as ?_ | refine s_bin ?_ | refine s_ld ?_ | refine s_ia ?_ | refine s_fa ?_ | refine s_fd ?_ | refine s_ix ?_ | refine s_un ?_ | refine s_op ?_) | refine WA_seq' ?_ | refine qT_WA ?_ | refine WA_region ?_ | (refine d_raw (id := 6) ?_; refine ⟨fun i => if i == 17 then .w else if i == 1 || i == 6 || i == 7 || i == 9 || i == 14 || i == 15 || i == 16 then .q else .p, [.one 0, .one 1, .one 2, .one 3, .one 4, .one 5, .one 6, .one 7, .one 8, .one 9, .one 10, .one 11, .one 12, .one 13, .one 14, .one 15, .one 16, .one 17], by kernel_rfl, ?_⟩) | refine WDs_nil ?_ | refine d_gPP cl_nil mkP mkP ?_ | refine d_gPc mkP ?_ | refine d_gPPc mkP mkP ?_ | refine grp_nil ?_ | (refine grp_cons (fun _ => component_pos _ _ _ _ _ ?_ ?_ ?_ ?_ ?_ _) ?_ <;> try first | omega | assumption) | refine d_gSS cl_nil mkS mkS ?_ | (refine g_d ?_; first | (refine d_args ?_; first | (refine d_fn (component_pos _ _ _ _ _ ?_ ?_ ?_ ?_ ?_ _) ?_ <;> try first | omega | assumption) | fail) | (refine d_fnY (component_pos _ _ _ _ _ ?_ ?_ ?_ ?_ ?_ _) ?_ <;> try first | omega | assumption) | refine d_op ?_ | refine d_yes ?_ | refine d_no ?_ | refine d_noU ?_) | refine WOs_nil ?_ | (refine g_c ?_; first | refine c_T ?_ | refine c_F ?_) | (refine g_gd ?_; first | refine s_yes ?_ | refine s_no ?_ | refine s_noU ?_) | refine WA_skip ?_ | refine WA_ret ?_ | refine WA_exit ?_ | refine qT_ret ?_ | refine qT_exit ?_ | refine qB_exit ?_ | refine qB_other rfl ?_ | refine qB_normal ?_ | refine qB_ret ?_ | refine WA_block ?_ | refine qT_WAn ?_ | refine WAn_step ?_ | refine qT_normal ?_))
    (refine r_es hQ ?_; try with_reducible rfl)
  · rw [if_neg (by omega), if_neg (by omega)]
    exact component_pos lo hi c slo shi h1 h2 ⟨h, hc.2⟩ hs hs' m
end Go.Proofs.Yteogokmbedmkjaa
