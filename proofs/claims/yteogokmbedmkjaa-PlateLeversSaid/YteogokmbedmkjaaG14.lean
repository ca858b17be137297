import Derived.Test.YteogokmbedmkjaaG13
import Derived.Test.YteogokmbedmkjaaG5
namespace Go.Proofs.Yteogokmbedmkjaa
open Go.RowKit
attribute [local irreducible] WA WOs WDs WAn qThen qBlock tput
set_option maxHeartbeats 1000000
set_option maxRecDepth 20000
set_option linter.unusedSimpArgs false
set_option linter.unusedVariables false
theorem frsV_get {l : List (Int × Int)} {i : Nat} (h : i < l.length) : (frsV l)[i]? = some [.int .i64 l[i].1, .int .i64 l[i].2] := by simp [frsV, h]
theorem frsV_length {l : List (Int × Int)} : (frsV l).length = l.length := by simp [frsV]
theorem fracs_c (a b : List (Int × Int)) (h1 : a.length ≤ 1000000) (h2 : b.length ≤ 1000000) (m : Mem) : Gives Try.prog 27 [.lst (frsV a), .lst (frsV b)] m (.bool (decide (a = b))) := by
  have hla := frsV_length (l := a)
  have hlb := frsV_length (l := b)
  have hga := hla
  have hgb := hlb
  by_cases hl : a.length = b.length
  · generalize hE : decide (a = b) = E
    refine Gives_in Try.func27 rfl Try.ntmps27 Try.results27 (by kernel_rfl) (by simp) rfl fun Q hQ => ?_
    (have FX := And.intro hla (And.intro hlb (And.intro hga hgb)); repeat' (first | refine s_tp ?_ | refine s_tn ?_ | refine d_tp ?_ | refine d_tn ?_ | ((first | refine WOs_splitD (fun h => ?_) (fun h => ?_) | refine WOs_splitN (fun h => ?_) (fun h => ?_) | refine WDs_splitD (fun h => ?_) (fun h => ?_) | refine WDs_splitN (fun h => ?_) (fun h => ?_)) <;> first | (exfalso; omega) | skip) | (refine g_op ?_; first | (refine g_call ?_; refine g_args ?_; first | fail) | refine s_mv ?_ | refine s_as ?_ | refine s_bin ?_ | refine s_ld ?_ | refine s_ia ?_ | refine s_fa ?_ | refine s_fd ?_ | refine s_ix ?_ | refine s_un ?_ | refine s_op ?_) | refine WA_seq' ?_ | refine qT_WA ?_ | refine WA_region ?_ | (refine d_raw (id := 6) ?_; refine ⟨fun i => if i == 3 || i == 7 || i == 8 then .q else .p, [.one 0, .one 1, .one 2, .one 3, .one 4, .one 5, .one 6, .one 7, .one 8], by kernel_rfl, ?_⟩) | refine WDs_nil ?_ | refine d_gPP cl_nil mkP mkP ?_ | refine d_gPc mkP ?_ | refine d_gPPc mkP mkP ?_ | refine grp_nil ?_ | refine d_gSS cl_nil mkS mkS ?_ | (refine g_d ?_; first | (refine d_args ?_; first | fail) | refine d_op ?_ | refine d_yes ?_ | refine d_no ?_ | refine d_noU ?_) | refine WOs_nil ?_ | (refine g_c ?_; first | refine c_T ?_ | refine c_F ?_) | (refine g_gd ?_; first | refine s_yes ?_ | refine s_no ?_ | refine s_noU ?_) | refine WA_skip ?_ | refine WA_ret ?_ | refine WA_exit ?_ | refine qT_ret ?_ | refine qT_exit ?_ | refine qB_exit ?_ | refine qB_other rfl ?_ | refine qB_normal ?_ | refine qB_ret ?_ | refine WA_block ?_ | refine qT_WAn ?_ | refine WAn_step ?_ | refine qT_normal ?_))
    refine WA_while (σ := Nat) [0, 1, 5] (fun i => [.lst (frsV a), .lst (frsV b), .int .i64 i]) (fun _ => lend m ++ []) (fun i => i ≤ a.length ∧ ∀ j (h : j < a.length) (h' : j < b.length), j < i → a[j] = b[j]) (fun i => a.length - i) 0 ⟨Nat.zero_le _, fun j h1 h2 h3 => absurd h3 (Nat.not_lt_zero _)⟩ tv_ rfl ?_
    rintro i ⟨hi1, hi2⟩ K hK
    rcases Nat.lt_or_ge i a.length with hi | hi
    · have hga := frsV_get hi
      have hgb := frsV_get (l := b) (i := i) (by omega)
      simp only [zipT]
      clear FX
      (have FX := And.intro hla (And.intro hlb (And.intro hga hgb)); repeat' (first | refine s_tp ?_ | refine s_tn ?_ | refine d_tp ?_ | refine d_tn ?_ | ((first | refine WOs_splitD (fun h => ?_) (fun h => ?_) | refine WOs_splitN (fun h => ?_) (fun h => ?_) | refine WDs_splitD (fun h => ?_) (fun h => ?_) | refine WDs_splitN (fun h => ?_) (fun h => ?_)) <;> first | (exfalso; omega) | skip) | (refine g_op ?_; first | (refine g_call ?_; refine g_args ?_; first | fail) | refine s_mv ?_ | refine s_as ?_ | refine s_bin ?_ | refine s_ld ?_ | refine s_ia ?_ | refine s_fa ?_ | refine s_fd ?_ | refine s_ix ?_ | refine s_un ?_ | refine s_op ?_) | refine WA_seq' ?_ | refine qT_WA ?_ | refine WA_region ?_ | (refine d_raw (id := 6) ?_; refine ⟨fun i => if i == 3 || i == 7 || i == 8 then .q else .p, [.one 0, .one 1, .one 2, .one 3, .one 4, .one 5, .one 6, .one 7, .one 8], by kernel_rfl, ?_⟩) | refine WDs_nil ?_ | refine d_gPP cl_nil mkP mkP ?_ | refine d_gPc mkP ?_ | refine d_gPPc mkP mkP ?_ | refine grp_nil ?_ | refine d_gSS cl_nil mkS mkS ?_ | (refine g_d ?_; first | (refine d_args ?_; first | fail) | refine d_op ?_ | refine d_yes ?_ | refine d_no ?_ | refine d_noU ?_) | refine WOs_nil ?_ | (refine g_c ?_; first | refine c_T ?_ | refine c_F ?_) | (refine g_gd ?_; first | refine s_yes ?_ | refine s_no ?_ | refine s_noU ?_) | refine WA_skip ?_ | refine WA_ret ?_ | refine WA_exit ?_ | refine qT_ret ?_ | refine qT_exit ?_ | refine qB_exit ?_ | refine qB_other rfl ?_ | refine qB_normal ?_ | refine qB_ret ?_ | refine WA_block ?_ | refine qT_WAn ?_ | refine WAn_step ?_ | refine qT_normal ?_))
      · (refine r_es hQ ?_; try with_reducible rfl)
        rename_i hne
        rw [← hE]
        simp only [V.bool.injEq]
        symm
        rw [decide_eq_false_iff_not]
        intro e
        subst e
        simp at h
      · refine next_ hK (i + 1) ⟨hi, fun j h1 h2 h3 => ?_⟩ (by omega)
        rcases Nat.lt_or_ge j i with q | q
        · exact hi2 j h1 h2 q
        · have : j = i := by omega
          subst this
          have hb : j < b.length := h2
          exact Prod.ext (by omega) (by omega)
    · simp only [zipT]
      clear FX
      (have FX := And.intro hla (And.intro hlb (And.intro hga hgb)); repeat' (first | refine s_tp ?_ | refine s_tn ?_ | refine d_tp ?_ | refine d_tn ?_ | ((first | refine WOs_splitD (fun h => ?_) (fun h => ?_) | refine WOs_splitN (fun h => ?_) (fun h => ?_) | refine WDs_splitD (fun h => ?_) (fun h => ?_) | refine WDs_splitN (fun h => ?_) (fun h => ?_)) <;> first | (exfalso; omega) | skip) | (refine g_op ?_; first | (refine g_call ?_; refine g_args ?_; first | fail) | refine s_mv ?_ | refine s_as ?_ | refine s_bin ?_ | refine s_ld ?_ | refine s_ia ?_ | refine s_fa ?_ | refine s_fd ?_ | refine s_ix ?_ | refine s_un ?_ | refine s_op ?_) | refine WA_seq' ?_ | refine qT_WA ?_ | refine WA_region ?_ | (refine d_raw (id := 6) ?_; refine ⟨fun i => if i == 3 || i == 7 || i == 8 then .q else .p, [.one 0, .one 1, .one 2, .one 3, .one 4, .one 5, .one 6, .one 7, .one 8], by kernel_rfl, ?_⟩) | refine WDs_nil ?_ | refine d_gPP cl_nil mkP mkP ?_ | refine d_gPc mkP ?_ | refine d_gPPc mkP mkP ?_ | refine grp_nil ?_ | refine d_gSS cl_nil mkS mkS ?_ | (refine g_d ?_; first | (refine d_args ?_; first | fail) | refine d_op ?_ | refine d_yes ?_ | refine d_no ?_ | refine d_noU ?_) | refine WOs_nil ?_ | (refine g_c ?_; first | refine c_T ?_ | refine c_F ?_) | (refine g_gd ?_; first | refine s_yes ?_ | refine s_no ?_ | refine s_noU ?_) | refine WA_skip ?_ | refine WA_ret ?_ | refine WA_exit ?_ | refine qT_ret ?_ | refine qT_exit ?_ | refine qB_exit ?_ | refine qB_other rfl ?_ | refine qB_normal ?_ | refine qB_ret ?_ | refine WA_block ?_ | refine qT_WAn ?_ | refine WAn_step ?_ | refine qT_normal ?_))
      (refine r_es hQ ?_; try with_reducible rfl)
      rw [← hE]
      simp only [V.bool.injEq]
      symm
      rw [decide_eq_true_iff]
      apply List.ext_getElem hl
      intro j h1 h2
      exact hi2 j h1 h2 (by omega)
  · have hne : ¬ a = b := fun e => hl (by rw [e])
    simp only [hne, decide_false]
    refine Gives_in Try.func27 rfl Try.ntmps27 Try.results27 (by kernel_rfl) (by simp) rfl fun Q hQ => ?_
    (have FX := And.intro hla (And.intro hlb (And.intro hga hgb)); repeat' (first | refine s_tp ?_ | refine s_tn ?_ | refine d_tp ?_ | refine d_tn ?_ | ((first | refine WOs_splitD (fun h => ?_) (fun h => ?_) | refine WOs_splitN (fun h => ?_) (fun h => ?_) | refine WDs_splitD (fun h => ?_) (fun h => ?_) | refine WDs_splitN (fun h => ?_) (fun h => ?_)) <;> first | (exfalso; omega) | skip) | (refine g_op ?_; first | (refine g_call ?_; refine g_args ?_; first | fail) | refine s_mv ?_ | refine s_as ?_ | refine s_bin ?_ | refine s_ld ?_ | refine s_ia ?_ | refine s_fa ?_ | refine s_fd ?_ | refine s_ix ?_ | refine s_un ?_ | refine s_op ?_) | refine WA_seq' ?_ | refine qT_WA ?_ | refine WA_region ?_ | (refine d_raw (id := 6) ?_; refine ⟨fun i => if i == 3 || i == 7 || i == 8 then .q else .p, [.one 0, .one 1, .one 2, .one 3, .one 4, .one 5, .one 6, .one 7, .one 8], by kernel_rfl, ?_⟩) | refine WDs_nil ?_ | refine d_gPP cl_nil mkP mkP ?_ | refine d_gPc mkP ?_ | refine d_gPPc mkP mkP ?_ | refine grp_nil ?_ | refine d_gSS cl_nil mkS mkS ?_ | (refine g_d ?_; first | (refine d_args ?_; first | fail) | refine d_op ?_ | refine d_yes ?_ | refine d_no ?_ | refine d_noU ?_) | refine WOs_nil ?_ | (refine g_c ?_; first | refine c_T ?_ | refine c_F ?_) | (refine g_gd ?_; first | refine s_yes ?_ | refine s_no ?_ | refine s_noU ?_) | refine WA_skip ?_ | refine WA_ret ?_ | refine WA_exit ?_ | refine qT_ret ?_ | refine qT_exit ?_ | refine qB_exit ?_ | refine qB_other rfl ?_ | refine qB_normal ?_ | refine qB_ret ?_ | refine WA_block ?_ | refine qT_WAn ?_ | refine WAn_step ?_ | refine qT_normal ?_))
    (refine r_es hQ ?_; try with_reducible rfl)
theorem bend_c (a b c d e : Int) (h : bearOk a b c d e) (m : Mem) : Gives Try.prog 88 [.agg [.int .i64 a, .int .i64 b, .int .i64 c, .int .i64 d, .int .i64 e]] m (.tup [.int .i64 ((b - a) * e + (b - c) * d), .int .i64 (d * e)]) := by
  unfold bearOk at h
  obtain ⟨h1, h2, h3, h4, h5⟩ := h
  have m1 := mulT (x := b - a) (y := e) (by omega) (by omega)
  have m2 := mulT (x := b - c) (y := d) (by omega) (by omega)
  have m3 := mulT3 h4 h5
  refine Gives_in Try.func88 rfl Try.ntmps88 Try.results88 (by kernel_rfl) (by simp) rfl fun Q hQ => ?_
  (repeat' (first | refine s_tp ?_ | refine s_tn ?_ | refine d_tp ?_ | refine d_tn ?_ | ((first | refine WOs_splitD (fun h => ?_) (fun h => ?_) | refine WOs_splitN (fun h => ?_) (fun h => ?_) | refine WDs_splitD (fun h => ?_) (fun h => ?_) | refine WDs_splitN (fun h => ?_) (fun h => ?_)) <;> first | (exfalso; omega) | skip) | (refine g_op ?_; first | (refine g_call ?_; refine g_args ?_; first | fail) | refine s_mv ?_ | refine s_as ?_ | refine s_bin ?_ | refine s_ld ?_ | refine s_ia ?_ | refine s_fa ?_ | refine s_fd ?_ | refine s_ix ?_ | refine s_un ?_ | refine s_op ?_) | refine WA_seq' ?_ | refine qT_WA ?_ | refine WA_region ?_ | (refine d_raw (id := 1) ?_; refine ⟨fun i => if i == 1 || i == 3 || i == 6 || i == 9 || i == 11 || i == 14 || i == 18 || i == 20 then .q else .p, [.one 0, .one 1, .one 2, .one 3, .one 4, .one 5, .one 6, .one 7, .one 8, .one 9, .one 10, .one 11, .one 12, .one 13, .one 14, .one 15, .one 16, .one 17, .one 18, .one 19, .one 20, .one 21, .one 22, .one 23], by kernel_rfl, ?_⟩) | refine WDs_nil ?_ | refine d_gPP cl_nil mkP mkP ?_ | refine d_gPc mkP ?_ | refine d_gPPc mkP mkP ?_ | refine grp_nil ?_ | refine d_gSS cl_nil mkS mkS ?_ | (refine g_d ?_; first | (refine d_args ?_; first | fail) | refine d_op ?_ | refine d_yes ?_ | refine d_no ?_ | refine d_noU ?_) | refine WOs_nil ?_ | (refine g_c ?_; first | refine c_T ?_ | refine c_F ?_) | (refine g_gd ?_; first | refine s_yes ?_ | refine s_no ?_ | refine s_noU ?_) | refine WA_skip ?_ | refine WA_ret ?_ | refine WA_exit ?_ | refine qT_ret ?_ | refine qT_exit ?_ | refine qB_exit ?_ | refine qB_other rfl ?_ | refine qB_normal ?_ | refine qB_ret ?_ | refine WA_block ?_ | refine qT_WAn ?_ | refine WAn_step ?_ | refine qT_normal ?_))
  (refine r_es hQ ?_; try with_reducible rfl)
theorem downbearing_bad1 (a b c d e t : Int) (hk : ¬ bearOk a b c d e) (m : Mem) : Gives Try.prog 29 [.agg [.int .i64 a, .int .i64 b, .int .i64 c, .int .i64 d, .int .i64 e], .int .i64 t] m (.tup [.agg [.int .i64 0, .int .i64 0], .int .i64 2]) := by
  have hif : (if bearOk a b c d e then (0 : Int) else 2) = 2 := if_neg hk
  refine Gives_in Try.func29 rfl Try.ntmps29 Try.results29 (by kernel_rfl) (by simp) rfl fun Q hQ => ?_
  (have FX := hif; repeat' (first | refine s_tp ?_ | refine s_tn ?_ | ((first | refine WOs_splitD (fun h => ?_) (fun h => ?_) | refine WOs_splitN (fun h => ?_) (fun h => ?_) | refine WDs_splitD (fun h => ?_) (fun h => ?_) | refine WDs_splitN (fun h => ?_) (fun h => ?_)) <;> first | (exfalso; omega) | skip) | (refine g_op ?_; first | (refine g_call ?_; refine g_args ?_; first | (refine s_fn (checkbearing_c _ _ _ _ _ _) ?_ <;> try first | omega | assumption) | (refine s_fn (bend_c _ _ _ _ _ hk _) ?_ <;> try first | omega | assumption) | (refine s_fn (lowest_c _ _ ?_ ?_ ?_ ?_ _) ?_ <;> try first | omega | assumption) | fail) | refine s_mv ?_ | refine s_as ?_ | refine s_bin ?_ | refine s_ld ?_ | refine s_ia ?_ | refine s_fa ?_ | refine s_fd ?_ | refine s_ix ?_ | refine s_un ?_ | refine s_op ?_) | refine WA_seq' ?_ | refine qT_WA ?_ | refine WA_region ?_ | refine WOs_nil ?_ | (refine g_c ?_; first | refine c_T ?_ | refine c_F ?_) | (refine g_gd ?_; first | refine s_yes ?_ | refine s_no ?_ | refine s_noU ?_) | refine WA_skip ?_ | refine WA_ret ?_ | refine WA_exit ?_ | refine qT_ret ?_ | refine qT_exit ?_ | refine qB_exit ?_ | refine qB_other rfl ?_ | refine qB_normal ?_ | refine qB_ret ?_ | refine WA_block ?_ | refine qT_WAn ?_ | refine WAn_step ?_ | refine qT_normal ?_))
  all_goals (refine r_es hQ ?_; try with_reducible rfl)
theorem downbearing_bad2 (a b c d e t : Int) (hk : bearOk a b c d e) (ht : ¬ (0 ≤ t ∧ t ≤ 10000000)) (m : Mem) : Gives Try.prog 29 [.agg [.int .i64 a, .int .i64 b, .int .i64 c, .int .i64 d, .int .i64 e], .int .i64 t] m (.tup [.agg [.int .i64 0, .int .i64 0], .int .i64 2]) := by
  have hif : (if bearOk a b c d e then (0 : Int) else 2) = 0 := if_pos hk
  refine Gives_in Try.func29 rfl Try.ntmps29 Try.results29 (by kernel_rfl) (by simp) rfl fun Q hQ => ?_
  (have FX := hif; repeat' (first | refine s_tp ?_ | refine s_tn ?_ | ((first | refine WOs_splitD (fun h => ?_) (fun h => ?_) | refine WOs_splitN (fun h => ?_) (fun h => ?_) | refine WDs_splitD (fun h => ?_) (fun h => ?_) | refine WDs_splitN (fun h => ?_) (fun h => ?_)) <;> first | (exfalso; omega) | skip) | (refine g_op ?_; first | (refine g_call ?_; refine g_args ?_; first | (refine s_fn (checkbearing_c _ _ _ _ _ _) ?_ <;> try first | omega | assumption) | (refine s_fn (bend_c _ _ _ _ _ hk _) ?_ <;> try first | omega | assumption) | (refine s_fn (lowest_c _ _ ?_ ?_ ?_ ?_ _) ?_ <;> try first | omega | assumption) | fail) | refine s_mv ?_ | refine s_as ?_ | refine s_bin ?_ | refine s_ld ?_ | refine s_ia ?_ | refine s_fa ?_ | refine s_fd ?_ | refine s_ix ?_ | refine s_un ?_ | refine s_op ?_) | refine WA_seq' ?_ | refine qT_WA ?_ | refine WA_region ?_ | refine WOs_nil ?_ | (refine g_c ?_; first | refine c_T ?_ | refine c_F ?_) | (refine g_gd ?_; first | refine s_yes ?_ | refine s_no ?_ | refine s_noU ?_) | refine WA_skip ?_ | refine WA_ret ?_ | refine WA_exit ?_ | refine qT_ret ?_ | refine qT_exit ?_ | refine qB_exit ?_ | refine qB_other rfl ?_ | refine qB_normal ?_ | refine qB_ret ?_ | refine WA_block ?_ | refine qT_WAn ?_ | refine WAn_step ?_ | refine qT_normal ?_))
  all_goals (refine r_es hQ ?_; try with_reducible rfl)
theorem downbearing_ok (a b c d e t : Int) (hk : bearOk a b c d e) (ht : 0 ≤ t ∧ t ≤ 10000000) (m : Mem) : Gives Try.prog 29 [.agg [.int .i64 a, .int .i64 b, .int .i64 c, .int .i64 d, .int .i64 e], .int .i64 t] m (.tup [.agg [.int .i64 (lowF (t * ((b - a) * e + (b - c) * d)) (d * e)).1, .int .i64 (lowF (t * ((b - a) * e + (b - c) * d)) (d * e)).2], .int .i64 0]) := by
  have hif : (if bearOk a b c d e then (0 : Int) else 2) = 0 := if_pos hk
  have hk' := hk
  unfold bearOk at hk'
  obtain ⟨h1, h2, h3, h4, h5⟩ := hk'
  have m1 := mulT (x := b - a) (y := e) (by omega) (by omega)
  have m2 := mulT (x := b - c) (y := d) (by omega) (by omega)
  have m3 := mulT3 h4 h5
  have m4 := mulT4 (x := t) (y := (b - a) * e + (b - c) * d) ht (by omega)
  unfold lowF
  refine Gives_in Try.func29 rfl Try.ntmps29 Try.results29 (by kernel_rfl) (by simp) rfl fun Q hQ => ?_
  (have FX := hif; repeat' (first | refine s_tp ?_ | refine s_tn ?_ | ((first | refine WOs_splitD (fun h => ?_) (fun h => ?_) | refine WOs_splitN (fun h => ?_) (fun h => ?_) | refine WDs_splitD (fun h => ?_) (fun h => ?_) | refine WDs_splitN (fun h => ?_) (fun h => ?_)) <;> first | (exfalso; omega) | skip) | (refine g_op ?_; first | (refine g_call ?_; refine g_args ?_; first | (refine s_fn (checkbearing_c _ _ _ _ _ _) ?_ <;> try first | omega | assumption) | (refine s_fn (bend_c _ _ _ _ _ hk _) ?_ <;> try first | omega | assumption) | (refine s_fn (lowest_c _ _ ?_ ?_ ?_ ?_ _) ?_ <;> try first | omega | assumption) | fail) | refine s_mv ?_ | refine s_as ?_ | refine s_bin ?_ | refine s_ld ?_ | refine s_ia ?_ | refine s_fa ?_ | refine s_fd ?_ | refine s_ix ?_ | refine s_un ?_ | refine s_op ?_) | refine WA_seq' ?_ | refine qT_WA ?_ | refine WA_region ?_ | refine WOs_nil ?_ | (refine g_c ?_; first | refine c_T ?_ | refine c_F ?_) | (refine g_gd ?_; first | refine s_yes ?_ | refine s_no ?_ | refine s_noU ?_) | refine WA_skip ?_ | refine WA_ret ?_ | refine WA_exit ?_ | refine qT_ret ?_ | refine qT_exit ?_ | refine qB_exit ?_ | refine qB_other rfl ?_ | refine qB_normal ?_ | refine qB_ret ?_ | refine WA_block ?_ | refine qT_WAn ?_ | refine WAn_step ?_ | refine qT_normal ?_))
  all_goals (refine r_es hQ ?_; try with_reducible rfl)
end Go.Proofs.Yteogokmbedmkjaa
