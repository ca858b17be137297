import Derived.Test.YteogokmbedmkjaaG14
namespace Go.Proofs.Yteogokmbedmkjaa
open Go.RowKit
attribute [local irreducible] WA WOs WDs WAn qThen qBlock tput
set_option maxHeartbeats 1000000
set_option maxRecDepth 20000
set_option linter.unusedSimpArgs false
set_option linter.unusedVariables false
theorem rsteep_c (a b c d e : Int) (h : bearOk a b c d e) (m : Mem) : Gives Try.prog 89 [.agg [.int .i64 a, .int .i64 b, .int .i64 c, .int .i64 d, .int .i64 e]] m (.int .i64 ((b - a) * e + (b - c) * d)) := by
  unfold bearOk at h
  obtain ⟨h1, h2, h3, h4, h5⟩ := h
  have m1 := mulT (x := b - a) (y := e) (by omega) (by omega)
  have m2 := mulT (x := b - c) (y := d) (by omega) (by omega)
  refine Gives_in Try.func89 rfl Try.ntmps89 Try.results89 (by kernel_rfl) (by simp) rfl fun Q hQ => ?_
  (repeat' (first | refine s_tp ?_ | refine s_tn ?_ | ((first | refine WOs_splitD (fun h => ?_) (fun h => ?_) | refine WOs_splitN (fun h => ?_) (fun h => ?_) | refine WDs_splitD (fun h => ?_) (fun h => ?_) | refine WDs_splitN (fun h => ?_) (fun h => ?_)) <;> first | (exfalso; omega) | skip) | (refine g_op ?_; first | (refine g_call ?_; refine g_args ?_; first | fail) | refine s_mv ?_ | refine s_as ?_ | refine s_bin ?_ | refine s_ld ?_ | refine s_ia ?_ | refine s_fa ?_ | refine s_fd ?_ | refine s_ix ?_ | refine s_un ?_ | refine s_op ?_) | refine WA_seq' ?_ | refine qT_WA ?_ | refine WA_region ?_ | refine WOs_nil ?_ | (refine g_c ?_; first | refine c_T ?_ | refine c_F ?_) | (refine g_gd ?_; first | refine s_yes ?_ | refine s_no ?_ | refine s_noU ?_) | refine WA_skip ?_ | refine WA_ret ?_ | refine WA_exit ?_ | refine qT_ret ?_ | refine qT_exit ?_ | refine qB_exit ?_ | refine qB_other rfl ?_ | refine qB_normal ?_ | refine qB_ret ?_ | refine WA_block ?_ | refine qT_WAn ?_ | refine WAn_step ?_ | refine qT_normal ?_))
  (refine r_es hQ ?_; try with_reducible rfl)
theorem rcheckbearing_c (a b c d e : Int) (m : Mem) : Gives Try.prog 30 [.agg [.int .i64 a, .int .i64 b, .int .i64 c, .int .i64 d, .int .i64 e]] m (.int .i64 (if bearOk a b c d e then 0 else 2)) := by
  by_cases hok : bearOk a b c d e
  all_goals
    simp only [hok, if_true, if_false]
    unfold bearOk at hok
    refine Gives_in Try.func30 rfl Try.ntmps30 Try.results30 (by kernel_rfl) (by simp) rfl fun Q hQ => ?_
    (repeat' (first | refine s_tp ?_ | refine s_tn ?_ | ((first | refine WOs_splitD (fun h => ?_) (fun h => ?_) | refine WOs_splitN (fun h => ?_) (fun h => ?_) | refine WDs_splitD (fun h => ?_) (fun h => ?_) | refine WDs_splitN (fun h => ?_) (fun h => ?_)) <;> first | (exfalso; omega) | skip) | (refine g_op ?_; first | (refine g_call ?_; refine g_args ?_; first | (refine s_fn (size_c _ _ _ _ ?_ ?_ _) ?_ <;> try first | omega | assumption) | (refine s_fn (bwithin_c _ _ _ _) ?_ <;> try first | omega | assumption) | fail) | refine s_mv ?_ | refine s_as ?_ | refine s_bin ?_ | refine s_ld ?_ | refine s_ia ?_ | refine s_fa ?_ | refine s_fd ?_ | refine s_ix ?_ | refine s_un ?_ | refine s_op ?_) | refine WA_seq' ?_ | refine qT_WA ?_ | refine WA_region ?_ | refine WOs_nil ?_ | (refine g_c ?_; first | refine c_T ?_ | refine c_F ?_) | (refine g_gd ?_; first | refine s_yes ?_ | refine s_no ?_ | refine s_noU ?_) | refine WA_skip ?_ | refine WA_ret ?_ | refine WA_exit ?_ | refine qT_ret ?_ | refine qT_exit ?_ | refine qB_exit ?_ | refine qB_other rfl ?_ | refine qB_normal ?_ | refine qB_ret ?_ | refine WA_block ?_ | refine qT_WAn ?_ | refine WAn_step ?_ | refine qT_normal ?_))
    all_goals (refine r_es hQ ?_; try with_reducible rfl)
theorem rdownbearing_ok (a b c d e t : Int) (hk : bearOk a b c d e) (ht : 0 ≤ t ∧ t ≤ 10000000) (m : Mem) : Gives Try.prog 33 [.agg [.int .i64 a, .int .i64 b, .int .i64 c, .int .i64 d, .int .i64 e], .int .i64 t] m (.agg [.int .i64 (lowF (t * ((b - a) * e + (b - c) * d)) (d * e)).1, .int .i64 (lowF (t * ((b - a) * e + (b - c) * d)) (d * e)).2]) := by
  have hk' := hk
  unfold bearOk at hk'
  obtain ⟨h1, h2, h3, h4, h5⟩ := hk'
  have m1 := mulT (x := b - a) (y := e) (by omega) (by omega)
  have m2 := mulT (x := b - c) (y := d) (by omega) (by omega)
  have m3 := mulT3 h4 h5
  have m4 := mulT4 (x := t) (y := (b - a) * e + (b - c) * d) ht (by omega)
  unfold lowF
  refine Gives_in Try.func33 rfl Try.ntmps33 Try.results33 (by kernel_rfl) (by simp) rfl fun Q hQ => ?_
  (repeat' (first | refine s_tp ?_ | refine s_tn ?_ | refine d_tp ?_ | refine d_tn ?_ | ((first | refine WOs_splitD (fun h => ?_) (fun h => ?_) | refine WOs_splitN (fun h => ?_) (fun h => ?_) | refine WDs_splitD (fun h => ?_) (fun h => ?_) | refine WDs_splitN (fun h => ?_) (fun h => ?_)) <;> first | (exfalso; omega) | skip) | (refine g_op ?_; first | (refine g_call ?_; refine g_args ?_; first | (refine s_fn (rsteep_c _ _ _ _ _ hk _) ?_ <;> try first | omega | assumption) | (refine s_fn (blowest_c _ _ ?_ ?_ ?_ ?_ _) ?_ <;> try first | omega | assumption) | fail) | refine s_mv ?_ | refine s_as ?_ | refine s_bin ?_ | refine s_ld ?_ | refine s_ia ?_ | refine s_fa ?_ | refine s_fd ?_ | refine s_ix ?_ | refine s_un ?_ | refine s_op ?_) | refine WA_seq' ?_ | refine qT_WA ?_ | refine WA_region ?_ | (refine d_raw (id := 1) ?_; refine ⟨fun i => if i == 10 then .w else if i == 1 || i == 2 || i == 5 || i == 7 || i == 9 then .q else .p, [.one 0, .one 1, .one 2, .one 3, .one 4, .one 5, .one 6, .one 7, .one 8, .one 9, .one 10], by kernel_rfl, ?_⟩) | refine WDs_nil ?_ | refine d_gPP cl_nil mkP mkP ?_ | refine d_gPc mkP ?_ | refine d_gPPc mkP mkP ?_ | refine grp_nil ?_ | (refine grp_cons (fun _ => rsteep_c _ _ _ _ _ hk _) ?_ <;> try first | omega | assumption) | (refine grp_cons (fun _ => blowest_c _ _ ?_ ?_ ?_ ?_ _) ?_ <;> try first | omega | assumption) | refine d_gSS cl_nil mkS mkS ?_ | (refine g_d ?_; first | (refine d_args ?_; first | (refine d_fn (rsteep_c _ _ _ _ _ hk _) ?_ <;> try first | omega | assumption) | (refine d_fn (blowest_c _ _ ?_ ?_ ?_ ?_ _) ?_ <;> try first | omega | assumption) | fail) | (refine d_fnY (rsteep_c _ _ _ _ _ hk _) ?_ <;> try first | omega | assumption) | (refine d_fnY (blowest_c _ _ ?_ ?_ ?_ ?_ _) ?_ <;> try first | omega | assumption) | refine d_op ?_ | refine d_yes ?_ | refine d_no ?_ | refine d_noU ?_) | refine WOs_nil ?_ | (refine g_c ?_; first | refine c_T ?_ | refine c_F ?_) | (refine g_gd ?_; first | refine s_yes ?_ | refine s_no ?_ | refine s_noU ?_) | refine WA_skip ?_ | refine WA_ret ?_ | refine WA_exit ?_ | refine qT_ret ?_ | refine qT_exit ?_ | refine qB_exit ?_ | refine qB_other rfl ?_ | refine qB_normal ?_ | refine qB_ret ?_ | refine WA_block ?_ | refine qT_WAn ?_ | refine WAn_step ?_ | refine qT_normal ?_))
  all_goals (refine r_es hQ ?_; try with_reducible rfl)
theorem low_back {a D : Int} (hD : 1 ≤ D) : (lowF a D).1 * (D / (lowF a D).2) = a ∧ 1 ≤ (lowF a D).2 ∧ (lowF a D).2 ≤ D := by
  have hg : 0 < Int.gcd a D := Int.gcd_pos_iff.2 (Or.inr (by omega))
  obtain ⟨g, hG⟩ : ∃ g : Int, (Int.gcd a D : Int) = g := ⟨_, rfl⟩
  have d1 : (Int.gcd a D : Int) ∣ a := Int.gcd_dvd_left ..
  have d2 : (Int.gcd a D : Int) ∣ D := Int.gcd_dvd_right ..
  unfold lowF
  dsimp only
  rw [hG] at d1 d2 ⊢
  obtain ⟨j, rfl⟩ := d1
  obtain ⟨k, rfl⟩ := d2
  have g0 : g ≠ 0 := by omega
  have gp : 0 < g := by omega
  have k1 : 1 ≤ k := by
    rcases Int.lt_or_le k 1 with h | h
    · have := Int.mul_nonpos_of_nonneg_of_nonpos (a := g) (b := k) (by omega) (by omega)
      omega
    · exact h
  rw [Int.mul_tdiv_cancel_left j g0, Int.mul_ediv_cancel_left k g0, Int.mul_ediv_cancel g (by omega)]
  refine ⟨Int.mul_comm _ _, k1, ?_⟩
  have := Int.mul_le_mul_of_nonneg_right (a := 1) (b := g) (c := k) (by omega) (by omega)
  omega
end Go.Proofs.Yteogokmbedmkjaa
