import Derived.Test.YteogokmbedmkjaaG17
namespace Go.Proofs.Yteogokmbedmkjaa
open Go.RowKit
attribute [local irreducible] WA WOs WDs WAn qThen qBlock tput
set_option maxHeartbeats 1000000
set_option maxRecDepth 20000
set_option linter.unusedSimpArgs false
set_option linter.unusedVariables false
theorem mulAB {x y : Int} (A B C : Nat) (hC : A * B = C) (h1 : -(A : Int) ≤ x ∧ x ≤ A) (h2 : -(B : Int) ≤ y ∧ y ≤ B) : -(C : Int) ≤ x * y ∧ x * y ≤ (C : Int) := by
  have e : (x * y).natAbs = x.natAbs * y.natAbs := Int.natAbs_mul x y
  have : x.natAbs * y.natAbs ≤ A * B := Nat.mul_le_mul (by omega) (by omega)
  rw [hC] at this
  omega
theorem cdiv_le {N D h : Int} (hD : 0 < D) : cdiv N D ≤ h ↔ N ≤ h * D := by
  unfold cdiv
  have k := Int.le_ediv_iff_mul_le (a := -h) (b := -N) hD
  rw [Int.neg_mul] at k
  constructor
  · intro q
    have := k.1 (by omega)
    omega
  · intro q
    have := k.2 (by omega)
    omega
theorem least_A (a b c d e t w : Int) (hk : ¬ bearOk a b c d e) (m : Mem) : Gives Try.prog 36 [.agg [.int .i64 a, .int .i64 b, .int .i64 c, .int .i64 d, .int .i64 e], .int .i64 t, .int .i64 w] m (.tup [.int .i64 0, .int .i64 2]) := by
  have hif : (if bearOk a b c d e then (0 : Int) else 2) = 2 := if_neg hk
  refine Gives_in Try.func36 rfl Try.ntmps36 Try.results36 (by kernel_rfl) (by simp) rfl fun Q hQ => ?_
  (have FX := hif; repeat' (first | refine s_tp ?_ | refine s_tn ?_ | ((first | refine WOs_splitD (fun h => ?_) (fun h => ?_) | refine WOs_splitN (fun h => ?_) (fun h => ?_) | refine WDs_splitD (fun h => ?_) (fun h => ?_) | refine WDs_splitN (fun h => ?_) (fun h => ?_)) <;> first | (exfalso; omega) | skip) | (refine g_op ?_; first | (refine g_call ?_; refine g_args ?_; first | (refine s_fn (checkbearing_c _ _ _ _ _ _) ?_ <;> try first | omega | assumption) | (refine s_fn (pwithin_c _ _ ?_ ?_ _) ?_ <;> try first | omega | assumption) | (refine s_fn (ceil_c _ _ ?_ ?_ ?_ _) ?_ <;> try first | omega | assumption) | fail) | refine s_mv ?_ | refine s_as ?_ | refine s_bin ?_ | refine s_ld ?_ | refine s_ia ?_ | refine s_fa ?_ | refine s_fd ?_ | refine s_ix ?_ | refine s_un ?_ | refine s_op ?_) | refine WA_seq' ?_ | refine qT_WA ?_ | refine WA_region ?_ | refine WOs_nil ?_ | (refine g_c ?_; first | refine c_T ?_ | refine c_F ?_) | (refine g_gd ?_; first | refine s_yes ?_ | refine s_no ?_ | refine s_noU ?_) | refine WA_skip ?_ | refine WA_ret ?_ | refine WA_exit ?_ | refine qT_ret ?_ | refine qT_exit ?_ | refine qB_exit ?_ | refine qB_other rfl ?_ | refine qB_normal ?_ | refine qB_ret ?_ | refine WA_block ?_ | refine qT_WAn ?_ | refine WAn_step ?_ | refine qT_normal ?_))
  all_goals (refine r_es hQ ?_; try with_reducible rfl)
theorem least_B (a b c d e t w : Int) (hk : bearOk a b c d e) (hr : ¬ ((0 ≤ t ∧ t ≤ 10000000) ∧ (-10000000 ≤ w ∧ w ≤ 10000000))) (m : Mem) : Gives Try.prog 36 [.agg [.int .i64 a, .int .i64 b, .int .i64 c, .int .i64 d, .int .i64 e], .int .i64 t, .int .i64 w] m (.tup [.int .i64 0, .int .i64 2]) := by
  have hif : (if bearOk a b c d e then (0 : Int) else 2) = 0 := if_pos hk
  refine Gives_in Try.func36 rfl Try.ntmps36 Try.results36 (by kernel_rfl) (by simp) rfl fun Q hQ => ?_
  (have FX := hif; repeat' (first | refine s_tp ?_ | refine s_tn ?_ | ((first | refine WOs_splitD (fun h => ?_) (fun h => ?_) | refine WOs_splitN (fun h => ?_) (fun h => ?_) | refine WDs_splitD (fun h => ?_) (fun h => ?_) | refine WDs_splitN (fun h => ?_) (fun h => ?_)) <;> first | (exfalso; omega) | skip) | (refine g_op ?_; first | (refine g_call ?_; refine g_args ?_; first | (refine s_fn (checkbearing_c _ _ _ _ _ _) ?_ <;> try first | omega | assumption) | (refine s_fn (pwithin_c _ _ ?_ ?_ _) ?_ <;> try first | omega | assumption) | (refine s_fn (ceil_c _ _ ?_ ?_ ?_ _) ?_ <;> try first | omega | assumption) | fail) | refine s_mv ?_ | refine s_as ?_ | refine s_bin ?_ | refine s_ld ?_ | refine s_ia ?_ | refine s_fa ?_ | refine s_fd ?_ | refine s_ix ?_ | refine s_un ?_ | refine s_op ?_) | refine WA_seq' ?_ | refine qT_WA ?_ | refine WA_region ?_ | refine WOs_nil ?_ | (refine g_c ?_; first | refine c_T ?_ | refine c_F ?_) | (refine g_gd ?_; first | refine s_yes ?_ | refine s_no ?_ | refine s_noU ?_) | refine WA_skip ?_ | refine WA_ret ?_ | refine WA_exit ?_ | refine qT_ret ?_ | refine qT_exit ?_ | refine qB_exit ?_ | refine qB_other rfl ?_ | refine qB_normal ?_ | refine qB_ret ?_ | refine WA_block ?_ | refine qT_WAn ?_ | refine WAn_step ?_ | refine qT_normal ?_))
  all_goals (refine r_es hQ ?_; try with_reducible rfl)
theorem least_C (a b c d e t w : Int) (hk : bearOk a b c d e) (ht : t = 0) (hw : -10000000 ≤ w ∧ w ≤ 10000000) (h0 : 0 < w) (m : Mem) : Gives Try.prog 36 [.agg [.int .i64 a, .int .i64 b, .int .i64 c, .int .i64 d, .int .i64 e], .int .i64 t, .int .i64 w] m (.tup [.int .i64 0, .int .i64 12]) := by
  have hif : (if bearOk a b c d e then (0 : Int) else 2) = 0 := if_pos hk
  refine Gives_in Try.func36 rfl Try.ntmps36 Try.results36 (by kernel_rfl) (by simp) rfl fun Q hQ => ?_
  (have FX := hif; repeat' (first | refine s_tp ?_ | refine s_tn ?_ | ((first | refine WOs_splitD (fun h => ?_) (fun h => ?_) | refine WOs_splitN (fun h => ?_) (fun h => ?_) | refine WDs_splitD (fun h => ?_) (fun h => ?_) | refine WDs_splitN (fun h => ?_) (fun h => ?_)) <;> first | (exfalso; omega) | skip) | (refine g_op ?_; first | (refine g_call ?_; refine g_args ?_; first | (refine s_fn (checkbearing_c _ _ _ _ _ _) ?_ <;> try first | omega | assumption) | (refine s_fn (pwithin_c _ _ ?_ ?_ _) ?_ <;> try first | omega | assumption) | (refine s_fn (ceil_c _ _ ?_ ?_ ?_ _) ?_ <;> try first | omega | assumption) | fail) | refine s_mv ?_ | refine s_as ?_ | refine s_bin ?_ | refine s_ld ?_ | refine s_ia ?_ | refine s_fa ?_ | refine s_fd ?_ | refine s_ix ?_ | refine s_un ?_ | refine s_op ?_) | refine WA_seq' ?_ | refine qT_WA ?_ | refine WA_region ?_ | refine WOs_nil ?_ | (refine g_c ?_; first | refine c_T ?_ | refine c_F ?_) | (refine g_gd ?_; first | refine s_yes ?_ | refine s_no ?_ | refine s_noU ?_) | refine WA_skip ?_ | refine WA_ret ?_ | refine WA_exit ?_ | refine qT_ret ?_ | refine qT_exit ?_ | refine qB_exit ?_ | refine qB_other rfl ?_ | refine qB_normal ?_ | refine qB_ret ?_ | refine WA_block ?_ | refine qT_WAn ?_ | refine WAn_step ?_ | refine qT_normal ?_))
  all_goals (refine r_es hQ ?_; try with_reducible rfl)
theorem least_D (a b c d e t w : Int) (hk : bearOk a b c d e) (ht : t = 0) (hw : -10000000 ≤ w ∧ w ≤ 10000000) (h0 : w ≤ 0) (m : Mem) : Gives Try.prog 36 [.agg [.int .i64 a, .int .i64 b, .int .i64 c, .int .i64 d, .int .i64 e], .int .i64 t, .int .i64 w] m (.tup [.int .i64 (-10000), .int .i64 0]) := by
  have hif : (if bearOk a b c d e then (0 : Int) else 2) = 0 := if_pos hk
  refine Gives_in Try.func36 rfl Try.ntmps36 Try.results36 (by kernel_rfl) (by simp) rfl fun Q hQ => ?_
  (have FX := hif; repeat' (first | refine s_tp ?_ | refine s_tn ?_ | ((first | refine WOs_splitD (fun h => ?_) (fun h => ?_) | refine WOs_splitN (fun h => ?_) (fun h => ?_) | refine WDs_splitD (fun h => ?_) (fun h => ?_) | refine WDs_splitN (fun h => ?_) (fun h => ?_)) <;> first | (exfalso; omega) | skip) | (refine g_op ?_; first | (refine g_call ?_; refine g_args ?_; first | (refine s_fn (checkbearing_c _ _ _ _ _ _) ?_ <;> try first | omega | assumption) | (refine s_fn (pwithin_c _ _ ?_ ?_ _) ?_ <;> try first | omega | assumption) | (refine s_fn (ceil_c _ _ ?_ ?_ ?_ _) ?_ <;> try first | omega | assumption) | fail) | refine s_mv ?_ | refine s_as ?_ | refine s_bin ?_ | refine s_ld ?_ | refine s_ia ?_ | refine s_fa ?_ | refine s_fd ?_ | refine s_ix ?_ | refine s_un ?_ | refine s_op ?_) | refine WA_seq' ?_ | refine qT_WA ?_ | refine WA_region ?_ | refine WOs_nil ?_ | (refine g_c ?_; first | refine c_T ?_ | refine c_F ?_) | (refine g_gd ?_; first | refine s_yes ?_ | refine s_no ?_ | refine s_noU ?_) | refine WA_skip ?_ | refine WA_ret ?_ | refine WA_exit ?_ | refine qT_ret ?_ | refine qT_exit ?_ | refine qB_exit ?_ | refine qB_other rfl ?_ | refine qB_normal ?_ | refine qB_ret ?_ | refine WA_block ?_ | refine qT_WAn ?_ | refine WAn_step ?_ | refine qT_normal ?_))
  all_goals (refine r_es hQ ?_; try with_reducible rfl)
theorem least_E (a b c d e t w n : Int) (hk : bearOk a b c d e) (ht : 0 < t ∧ t ≤ 10000000) (hw : -10000000 ≤ w ∧ w ≤ 10000000) (hn : cdiv (w * d * e + t * (a * e + c * d)) (t * (d + e)) = n) (m : Mem) : Gives Try.prog 36 [.agg [.int .i64 a, .int .i64 b, .int .i64 c, .int .i64 d, .int .i64 e], .int .i64 t, .int .i64 w] m (.tup [.int .i64 (if 10000 < n then 0 else if -10000 > n then -10000 else n), .int .i64 (if 10000 < n then 12 else 0)]) := by
  subst hn
  have hif : (if bearOk a b c d e then (0 : Int) else 2) = 0 := if_pos hk
  have hk' := hk
  unfold bearOk at hk'
  obtain ⟨h1, h2, h3, h4, h5⟩ := hk'
  have m1 := mulAB (x := a) (y := e) 10000 300000 3000000000 rfl (by omega) (by omega)
  have m2 := mulAB (x := c) (y := d) 10000 300000 3000000000 rfl (by omega) (by omega)
  have m3 := mulAB (x := t) (y := a * e + c * d) 10000000 6000000000 60000000000000000 rfl (by omega) (by omega)
  have m4 := mulAB (x := w) (y := d) 10000000 300000 3000000000000 rfl (by omega) (by omega)
  have m5 := mulAB (x := w * d) (y := e) 3000000000000 300000 900000000000000000 rfl (by omega) (by omega)
  have m6 := mulAB (x := t) (y := d + e) 10000000 600000 6000000000000 rfl (by omega) (by omega)
  have m7 : 0 < t * (d + e) := Int.mul_pos ht.1 (by omega)
  by_cases hn2 : 10000 < cdiv (w * d * e + t * (a * e + c * d)) (t * (d + e))
  all_goals
    simp only [hn2, if_true, if_false]
    refine Gives_in Try.func36 rfl Try.ntmps36 Try.results36 (by kernel_rfl) (by simp) rfl fun Q hQ => ?_
    (have FX := hif; repeat' (first | refine s_tp ?_ | refine s_tn ?_ | ((first | refine WOs_splitD (fun h => ?_) (fun h => ?_) | refine WOs_splitN (fun h => ?_) (fun h => ?_) | refine WDs_splitD (fun h => ?_) (fun h => ?_) | refine WDs_splitN (fun h => ?_) (fun h => ?_)) <;> first | (exfalso; omega) | skip) | (refine g_op ?_; first | (refine g_call ?_; refine g_args ?_; first | (refine s_fn (checkbearing_c _ _ _ _ _ _) ?_ <;> try first | omega | assumption) | (refine s_fn (pwithin_c _ _ ?_ ?_ _) ?_ <;> try first | omega | assumption) | (refine s_fn (ceil_c _ _ ?_ ?_ ?_ _) ?_ <;> try first | omega | assumption) | fail) | refine s_mv ?_ | refine s_as ?_ | refine s_bin ?_ | refine s_ld ?_ | refine s_ia ?_ | refine s_fa ?_ | refine s_fd ?_ | refine s_ix ?_ | refine s_un ?_ | refine s_op ?_) | refine WA_seq' ?_ | refine qT_WA ?_ | refine WA_region ?_ | refine WOs_nil ?_ | (refine g_c ?_; first | refine c_T ?_ | refine c_F ?_) | (refine g_gd ?_; first | refine s_yes ?_ | refine s_no ?_ | refine s_noU ?_) | refine WA_skip ?_ | refine WA_ret ?_ | refine WA_exit ?_ | refine qT_ret ?_ | refine qT_exit ?_ | refine qB_exit ?_ | refine qB_other rfl ?_ | refine qB_normal ?_ | refine qB_ret ?_ | refine WA_block ?_ | refine qT_WAn ?_ | refine WAn_step ?_ | refine qT_normal ?_))
    all_goals (refine r_es hQ ?_; try with_reducible rfl)
theorem rleast_B (a b c d e t w : Int) (hr : ¬ ((0 ≤ t ∧ t ≤ 10000000) ∧ (-10000000 ≤ w ∧ w ≤ 10000000))) (m : Mem) : Gives Try.prog 37 [.agg [.int .i64 a, .int .i64 b, .int .i64 c, .int .i64 d, .int .i64 e], .int .i64 t, .int .i64 w] m (.tup [.int .i64 0, .int .i64 2]) := by
  refine Gives_in Try.func37 rfl Try.ntmps37 Try.results37 (by kernel_rfl) (by simp) rfl fun Q hQ => ?_
  (repeat' (first | refine s_tp ?_ | refine s_tn ?_ | refine d_tp ?_ | refine d_tn ?_ | ((first | refine WOs_splitD (fun h => ?_) (fun h => ?_) | refine WOs_splitN (fun h => ?_) (fun h => ?_) | refine WDs_splitD (fun h => ?_) (fun h => ?_) | refine WDs_splitN (fun h => ?_) (fun h => ?_)) <;> first | (exfalso; omega) | skip) | (refine g_op ?_; first | (refine g_call ?_; refine g_args ?_; first | (refine s_fn (bwithin_c _ _ _ _) ?_ <;> try first | omega | assumption) | (refine s_fn (rsteep_c _ _ _ _ _ (by unfold bearOk; omega) _) ?_ <;> try first | omega | assumption) | fail) | refine s_mv ?_ | refine s_as ?_ | refine s_bin ?_ | refine s_ld ?_ | refine s_ia ?_ | refine s_fa ?_ | refine s_fd ?_ | refine s_ix ?_ | refine s_un ?_ | refine s_op ?_) | refine WA_seq' ?_ | refine qT_WA ?_ | refine WA_region ?_ | (refine d_raw (id := 6) ?_; refine ⟨fun i => if i == 1 || i == 2 || i == 6 || i == 9 then .q else .p, [.one 0, .one 1, .one 2, .one 3, .one 4, .one 5, .one 6, .one 7, .one 8, .one 9, .one 10, .one 11], by kernel_rfl, ?_⟩) | refine WDs_nil ?_ | refine d_gPP cl_nil mkP mkP ?_ | refine d_gSS cl_nil mkS mkS ?_ | (refine g_d ?_; first | (refine d_args ?_; first | (refine d_fn (bwithin_c _ _ _ _) ?_ <;> try first | omega | assumption) | (refine d_fn (rsteep_c _ _ _ _ _ (by unfold bearOk; omega) _) ?_ <;> try first | omega | assumption) | fail) | refine d_op ?_ | refine d_yes ?_ | refine d_no ?_ | refine d_noU ?_) | refine WOs_nil ?_ | (refine g_c ?_; first | refine c_T ?_ | refine c_F ?_) | (refine g_gd ?_; first | refine s_yes ?_ | refine s_no ?_ | refine s_noU ?_) | refine WA_skip ?_ | refine WA_ret ?_ | refine WA_exit ?_ | refine qT_ret ?_ | refine qT_exit ?_ | refine qB_exit ?_ | refine qB_other rfl ?_ | refine qB_normal ?_ | refine qB_ret ?_ | refine WA_block ?_ | refine qT_WAn ?_ | refine WAn_step ?_ | refine qT_normal ?_))
  all_goals (refine r_es hQ ?_; try with_reducible rfl)
theorem rleast (a b c d e t w n : Int) (hk : bearOk a b c d e) (ht : 0 ≤ t ∧ t ≤ 10000000) (hw : -10000000 ≤ w ∧ w ≤ 10000000) (hc : ∀ h : Int, -10000 ≤ h → h ≤ 10000 → (w * d * e ≤ t * ((h - a) * e + (h - c) * d) ↔ n ≤ h)) (m : Mem) :
    Gives Try.prog 37 [.agg [.int .i64 a, .int .i64 b, .int .i64 c, .int .i64 d, .int .i64 e], .int .i64 t, .int .i64 w] m (.tup [.int .i64 (if 10000 < n then 0 else if -10000 > n then -10000 else n), .int .i64 (if 10000 < n then 12 else 0)]) := by
  unfold bearOk at hk
  obtain ⟨h1, h2, h3, h4, h5⟩ := hk
  have m4 := mulAB (x := w) (y := d) 10000000 300000 3000000000000 rfl (by omega) (by omega)
  have m5 := mulAB (x := w * d) (y := e) 3000000000000 300000 900000000000000000 rfl (by omega) (by omega)
  refine Gives_in Try.func37 rfl Try.ntmps37 Try.results37 (by kernel_rfl) (by simp) rfl fun Q hQ => ?_
  (repeat' (first | refine s_tp ?_ | refine s_tn ?_ | refine d_tp ?_ | refine d_tn ?_ | ((first | refine WOs_splitD (fun h => ?_) (fun h => ?_) | refine WOs_splitN (fun h => ?_) (fun h => ?_) | refine WDs_splitD (fun h => ?_) (fun h => ?_) | refine WDs_splitN (fun h => ?_) (fun h => ?_)) <;> first | (exfalso; omega) | skip) | (refine g_op ?_; first | (refine g_call ?_; refine g_args ?_; first | (refine s_fn (bwithin_c _ _ _ _) ?_ <;> try first | omega | assumption) | (refine s_fn (rsteep_c _ _ _ _ _ (by unfold bearOk; omega) _) ?_ <;> try first | omega | assumption) | fail) | refine s_mv ?_ | refine s_as ?_ | refine s_bin ?_ | refine s_ld ?_ | refine s_ia ?_ | refine s_fa ?_ | refine s_fd ?_ | refine s_ix ?_ | refine s_un ?_ | refine s_op ?_) | refine WA_seq' ?_ | refine qT_WA ?_ | refine WA_region ?_ | (refine d_raw (id := 6) ?_; refine ⟨fun i => if i == 1 || i == 2 || i == 6 || i == 9 then .q else .p, [.one 0, .one 1, .one 2, .one 3, .one 4, .one 5, .one 6, .one 7, .one 8, .one 9, .one 10, .one 11], by kernel_rfl, ?_⟩) | refine WDs_nil ?_ | refine d_gPP cl_nil mkP mkP ?_ | refine d_gSS cl_nil mkS mkS ?_ | (refine g_d ?_; first | (refine d_args ?_; first | (refine d_fn (bwithin_c _ _ _ _) ?_ <;> try first | omega | assumption) | (refine d_fn (rsteep_c _ _ _ _ _ (by unfold bearOk; omega) _) ?_ <;> try first | omega | assumption) | fail) | refine d_op ?_ | refine d_yes ?_ | refine d_no ?_ | refine d_noU ?_) | refine WOs_nil ?_ | (refine g_c ?_; first | refine c_T ?_ | refine c_F ?_) | (refine g_gd ?_; first | refine s_yes ?_ | refine s_no ?_ | refine s_noU ?_) | refine WA_skip ?_ | refine WA_ret ?_ | refine WA_exit ?_ | refine qT_ret ?_ | refine qT_exit ?_ | refine qB_exit ?_ | refine qB_other rfl ?_ | refine qB_normal ?_ | refine qB_ret ?_ | refine WA_block ?_ | refine qT_WAn ?_ | refine WAn_step ?_ | refine qT_normal ?_))
  refine WA_while (σ := Int) [1, 2, 3] (fun h => [.int .i64 t, .int .i64 w, .ptr (lend m).length 0 0]) (fun h => lend m ++ [.cells .own 50 5 [[.int .i64 a, .int .i64 h, .int .i64 c, .int .i64 d, .int .i64 e]]]) (fun h => -10000 ≤ h ∧ h ≤ 10001 ∧ (h = -10000 ∨ h ≤ n)) (fun h => (10001 - h).natAbs) (-10000) ⟨by omega, by omega, .inl rfl⟩ tv_ rfl ?_
  rintro z ⟨i1, i2, i3⟩ K hK
  simp only [zipT]
  rcases Int.lt_or_le 10000 z with hh | hh
  · (repeat' (first | refine s_tp ?_ | refine s_tn ?_ | refine d_tp ?_ | refine d_tn ?_ | ((first | refine WOs_splitD (fun h => ?_) (fun h => ?_) | refine WOs_splitN (fun h => ?_) (fun h => ?_) | refine WDs_splitD (fun h => ?_) (fun h => ?_) | refine WDs_splitN (fun h => ?_) (fun h => ?_)) <;> first | (exfalso; omega) | skip) | (refine g_op ?_; first | (refine g_call ?_; refine g_args ?_; first | (refine s_fn (bwithin_c _ _ _ _) ?_ <;> try first | omega | assumption) | (refine s_fn (rsteep_c _ _ _ _ _ (by unfold bearOk; omega) _) ?_ <;> try first | omega | assumption) | fail) | refine s_mv ?_ | refine s_as ?_ | refine s_bin ?_ | refine s_ld ?_ | refine s_ia ?_ | refine s_fa ?_ | refine s_fd ?_ | refine s_ix ?_ | refine s_un ?_ | refine s_op ?_) | refine WA_seq' ?_ | refine qT_WA ?_ | refine WA_region ?_ | (refine d_raw (id := 6) ?_; refine ⟨fun i => if i == 1 || i == 2 || i == 6 || i == 9 then .q else .p, [.one 0, .one 1, .one 2, .one 3, .one 4, .one 5, .one 6, .one 7, .one 8, .one 9, .one 10, .one 11], by kernel_rfl, ?_⟩) | refine WDs_nil ?_ | refine d_gPP cl_nil mkP mkP ?_ | refine d_gSS cl_nil mkS mkS ?_ | (refine g_d ?_; first | (refine d_args ?_; first | (refine d_fn (bwithin_c _ _ _ _) ?_ <;> try first | omega | assumption) | (refine d_fn (rsteep_c _ _ _ _ _ (by unfold bearOk; omega) _) ?_ <;> try first | omega | assumption) | fail) | refine d_op ?_ | refine d_yes ?_ | refine d_no ?_ | refine d_noU ?_) | refine WOs_nil ?_ | (refine g_c ?_; first | refine c_T ?_ | refine c_F ?_) | (refine g_gd ?_; first | refine s_yes ?_ | refine s_no ?_ | refine s_noU ?_) | refine WA_skip ?_ | refine WA_ret ?_ | refine WA_exit ?_ | refine qT_ret ?_ | refine qT_exit ?_ | refine qB_exit ?_ | refine qB_other rfl ?_ | refine qB_normal ?_ | refine qB_ret ?_ | refine WA_block ?_ | refine qT_WAn ?_ | refine WAn_step ?_ | refine qT_normal ?_))
    all_goals (refine r_es hQ ?_; try with_reducible rfl)
    all_goals (have hn : 10000 < n := by omega)
    all_goals (simp [hn])
  · have hS := hc z i1 hh
    have m1 := mulT (x := z - a) (y := e) (by omega) (by omega)
    have m2 := mulT (x := z - c) (y := d) (by omega) (by omega)
    have m6 := mulT4 (x := t) (y := (z - a) * e + (z - c) * d) ht (by omega)
    by_cases hcond : w * d * e ≤ t * ((z - a) * e + (z - c) * d)
    · have hn := hS.1 hcond
      (repeat' (first | refine s_tp ?_ | refine s_tn ?_ | refine d_tp ?_ | refine d_tn ?_ | ((first | refine WOs_splitD (fun h => ?_) (fun h => ?_) | refine WOs_splitN (fun h => ?_) (fun h => ?_) | refine WDs_splitD (fun h => ?_) (fun h => ?_) | refine WDs_splitN (fun h => ?_) (fun h => ?_)) <;> first | (exfalso; omega) | skip) | (refine g_op ?_; first | (refine g_call ?_; refine g_args ?_; first | (refine s_fn (bwithin_c _ _ _ _) ?_ <;> try first | omega | assumption) | (refine s_fn (rsteep_c _ _ _ _ _ (by unfold bearOk; omega) _) ?_ <;> try first | omega | assumption) | fail) | refine s_mv ?_ | refine s_as ?_ | refine s_bin ?_ | refine s_ld ?_ | refine s_ia ?_ | refine s_fa ?_ | refine s_fd ?_ | refine s_ix ?_ | refine s_un ?_ | refine s_op ?_) | refine WA_seq' ?_ | refine qT_WA ?_ | refine WA_region ?_ | (refine d_raw (id := 6) ?_; refine ⟨fun i => if i == 1 || i == 2 || i == 6 || i == 9 then .q else .p, [.one 0, .one 1, .one 2, .one 3, .one 4, .one 5, .one 6, .one 7, .one 8, .one 9, .one 10, .one 11], by kernel_rfl, ?_⟩) | refine WDs_nil ?_ | refine d_gPP cl_nil mkP mkP ?_ | refine d_gSS cl_nil mkS mkS ?_ | (refine g_d ?_; first | (refine d_args ?_; first | (refine d_fn (bwithin_c _ _ _ _) ?_ <;> try first | omega | assumption) | (refine d_fn (rsteep_c _ _ _ _ _ (by unfold bearOk; omega) _) ?_ <;> try first | omega | assumption) | fail) | refine d_op ?_ | refine d_yes ?_ | refine d_no ?_ | refine d_noU ?_) | refine WOs_nil ?_ | (refine g_c ?_; first | refine c_T ?_ | refine c_F ?_) | (refine g_gd ?_; first | refine s_yes ?_ | refine s_no ?_ | refine s_noU ?_) | refine WA_skip ?_ | refine WA_ret ?_ | refine WA_exit ?_ | refine qT_ret ?_ | refine qT_exit ?_ | refine qB_exit ?_ | refine qB_other rfl ?_ | refine qB_normal ?_ | refine qB_ret ?_ | refine WA_block ?_ | refine qT_WAn ?_ | refine WAn_step ?_ | refine qT_normal ?_))
      all_goals (refine r_es hQ ?_; try with_reducible rfl)
      all_goals (have hn2 : ¬ 10000 < n := by omega)
      all_goals (have hn3 : (if -10000 > n then -10000 else n) = z := by split <;> omega)
      all_goals (simp [hn2, hn3])
    · have hn : ¬ n ≤ z := fun q => hcond (hS.2 q)
      (repeat' (first | refine s_tp ?_ | refine s_tn ?_ | refine d_tp ?_ | refine d_tn ?_ | ((first | refine WOs_splitD (fun h => ?_) (fun h => ?_) | refine WOs_splitN (fun h => ?_) (fun h => ?_) | refine WDs_splitD (fun h => ?_) (fun h => ?_) | refine WDs_splitN (fun h => ?_) (fun h => ?_)) <;> first | (exfalso; omega) | skip) | (refine g_op ?_; first | (refine g_call ?_; refine g_args ?_; first | (refine s_fn (bwithin_c _ _ _ _) ?_ <;> try first | omega | assumption) | (refine s_fn (rsteep_c _ _ _ _ _ (by unfold bearOk; omega) _) ?_ <;> try first | omega | assumption) | fail) | refine s_mv ?_ | refine s_as ?_ | refine s_bin ?_ | refine s_ld ?_ | refine s_ia ?_ | refine s_fa ?_ | refine s_fd ?_ | refine s_ix ?_ | refine s_un ?_ | refine s_op ?_) | refine WA_seq' ?_ | refine qT_WA ?_ | refine WA_region ?_ | (refine d_raw (id := 6) ?_; refine ⟨fun i => if i == 1 || i == 2 || i == 6 || i == 9 then .q else .p, [.one 0, .one 1, .one 2, .one 3, .one 4, .one 5, .one 6, .one 7, .one 8, .one 9, .one 10, .one 11], by kernel_rfl, ?_⟩) | refine WDs_nil ?_ | refine d_gPP cl_nil mkP mkP ?_ | refine d_gSS cl_nil mkS mkS ?_ | (refine g_d ?_; first | (refine d_args ?_; first | (refine d_fn (bwithin_c _ _ _ _) ?_ <;> try first | omega | assumption) | (refine d_fn (rsteep_c _ _ _ _ _ (by unfold bearOk; omega) _) ?_ <;> try first | omega | assumption) | fail) | refine d_op ?_ | refine d_yes ?_ | refine d_no ?_ | refine d_noU ?_) | refine WOs_nil ?_ | (refine g_c ?_; first | refine c_T ?_ | refine c_F ?_) | (refine g_gd ?_; first | refine s_yes ?_ | refine s_no ?_ | refine s_noU ?_) | refine WA_skip ?_ | refine WA_ret ?_ | refine WA_exit ?_ | refine qT_ret ?_ | refine qT_exit ?_ | refine qB_exit ?_ | refine qB_other rfl ?_ | refine qB_normal ?_ | refine qB_ret ?_ | refine WA_block ?_ | refine qT_WAn ?_ | refine WAn_step ?_ | refine qT_normal ?_))
      all_goals (refine next_ hK (z + 1) ⟨by omega, by omega, .inr (by omega)⟩ (by omega))
theorem heights (a b c d e t w : Int) (hk : bearOk a b c d e) : ∃ n r : Int, (∀ m, Gives Try.prog 36 [.agg [.int .i64 a, .int .i64 b, .int .i64 c, .int .i64 d, .int .i64 e], .int .i64 t, .int .i64 w] m (.tup [.int .i64 n, .int .i64 r])) ∧ (∀ m, Gives Try.prog 37 [.agg [.int .i64 a, .int .i64 b, .int .i64 c, .int .i64 d, .int .i64 e], .int .i64 t, .int .i64 w] m (.tup [.int .i64 n, .int .i64 r])) := by
  by_cases hr : (0 ≤ t ∧ t ≤ 10000000) ∧ (-10000000 ≤ w ∧ w ≤ 10000000)
  rotate_left
  · exact ⟨0, 2, least_B a b c d e t w hk hr, rleast_B a b c d e t w hr⟩
  obtain ⟨ht, hw⟩ := hr
  have hk' := hk
  unfold bearOk at hk'
  obtain ⟨h1, h2, h3, h4, h5⟩ := hk'
  by_cases t0 : t = 0
  · have hde : 0 < d * e := Int.mul_pos (by omega) (by omega)
    have e0 : w * d * e = w * (d * e) := Int.mul_assoc _ _ _
    by_cases w0 : 0 < w
    · refine ⟨0, 12, least_C a b c d e t w hk t0 hw w0, fun m => ?_⟩
      have k : 0 < w * (d * e) := Int.mul_pos w0 hde
      have := rleast a b c d e t w 10001 hk ht hw (fun h q1 q2 => by rw [t0, Int.zero_mul]; omega) m
      simpa using this
    · refine ⟨-10000, 0, least_D a b c d e t w hk t0 hw (by omega), fun m => ?_⟩
      have k : w * (d * e) ≤ 0 := Int.mul_nonpos_of_nonpos_of_nonneg (by omega) (by omega)
      have := rleast a b c d e t w (-10000) hk ht hw (fun h q1 q2 => by rw [t0, Int.zero_mul]; omega) m
      simpa using this
  · have hD : 0 < t * (d + e) := Int.mul_pos (by omega) (by omega)
    obtain ⟨n, hn⟩ : ∃ n, cdiv (w * d * e + t * (a * e + c * d)) (t * (d + e)) = n := ⟨_, rfl⟩
    refine ⟨_, _, least_E a b c d e t w n hk (by omega) hw hn, rleast a b c d e t w n hk ht hw (fun h q1 q2 => ?_)⟩
    rw [← hn, cdiv_le hD]
    have e1 : (h - a) * e + (h - c) * d = h * (d + e) - (a * e + c * d) := by
      rw [Int.sub_mul, Int.sub_mul, Int.mul_add]; omega
    have e2 : t * ((h - a) * e + (h - c) * d) = h * (t * (d + e)) - t * (a * e + c * d) := by
      rw [e1, Int.mul_sub, Int.mul_left_comm]
    omega
end Go.Proofs.Yteogokmbedmkjaa
