import Derived.Test.YteogokmbedmkjaaG25
namespace Go.Proofs.Yteogokmbedmkjaa
open Go.RowKit
attribute [local irreducible] WA WOs WDs WAn qThen qBlock tput
set_option maxHeartbeats 1000000
set_option maxRecDepth 20000
set_option linter.unusedSimpArgs false
set_option linter.unusedVariables false
def sumF (f : Int × Int → Int) (ls : List (Int × Int)) (k : Nat) : Int := ((ls.take k).map f).sum
theorem sumF_succ {f : Int × Int → Int} {ls : List (Int × Int)} {k : Nat} (h : k < ls.length) : sumF f ls (k + 1) = sumF f ls k + f ls[k] := by
  unfold sumF
  rw [List.take_succ_eq_append_getElem h, List.map_append, List.sum_append]
  simp
theorem sumF_bd {f : Int × Int → Int} {ls : List (Int × Int)} {M : Int} (hM : 0 ≤ M) (hf : ∀ p ∈ ls, -M ≤ f p ∧ f p ≤ M) : ∀ k, k ≤ ls.length → -(k * M) ≤ sumF f ls k ∧ sumF f ls k ≤ k * M
  | 0, _ => by simp [sumF]
  | k + 1, h => by
    have := sumF_bd hM hf k (by omega)
    have q := hf _ (List.getElem_mem (by omega : k < ls.length))
    rw [sumF_succ (by omega)]
    have e : ((k + 1 : Nat) : Int) * M = k * M + M := by rw [Int.natCast_add, Int.add_mul]; simp
    rw [e]
    omega
theorem rfirst_c (a b w : Int) (ls : List (Int × Int)) (hl : ls.length ≤ 100) (hb : -20000 ≤ b ∧ b ≤ 20000) (hok : ∀ p ∈ ls, (-20000 ≤ p.1 ∧ p.1 ≤ 20000) ∧ (-1000000 ≤ p.2 ∧ p.2 ≤ 1000000)) (m : Mem) : Gives Try.prog 97 [.agg [.int .i64 a, .int .i64 b, .int .i64 w], .lst (ldsV ls)] m (.int .i64 (sumF (fun p => p.2 * (b - p.1)) ls ls.length)) := by
  have hla := ldsV_length (ls := ls)
  have hga := hla
  have hbd := sumF_bd (f := fun p => p.2 * (b - p.1)) (ls := ls) (M := 40000000000) (by omega) (fun p hp => mulW (hok p hp).2 (by have := (hok p hp).1; omega))
  refine Gives_in Try.func97 rfl Try.ntmps97 Try.results97 (by kernel_rfl) (by simp) rfl fun Q hQ => ?_
  (have FX := And.intro hla hga; repeat' (first | refine s_tp ?_ | refine s_tn ?_ | refine d_tp ?_ | refine d_tn ?_ | ((first | refine WOs_splitD (fun h => ?_) (fun h => ?_) | refine WOs_splitN (fun h => ?_) (fun h => ?_) | refine WDs_splitD (fun h => ?_) (fun h => ?_) | refine WDs_splitN (fun h => ?_) (fun h => ?_)) <;> first | (exfalso; omega) | skip) | (refine g_op ?_; first | (refine g_call ?_; refine g_args ?_; first | fail) | refine s_mv ?_ | refine s_as ?_ | refine s_bin ?_ | refine s_ld ?_ | refine s_ia ?_ | refine s_fa ?_ | refine s_fd ?_ | refine s_ix ?_ | refine s_un ?_ | refine s_op ?_) | refine WA_seq' ?_ | refine qT_WA ?_ | refine WA_region ?_ | (refine d_raw (id := 5) ?_; refine ⟨fun i => if i == 5 || i == 7 || i == 12 then .q else .p, [.one 0, .one 1, .one 2, .one 3, .one 4, .one 5, .one 6, .one 7, .one 8, .one 9, .one 10, .one 11, .one 12, .one 13, .one 14, .one 15, .one 16], by kernel_rfl, ?_⟩) | refine WDs_nil ?_ | refine d_gPP cl_nil mkP mkP ?_ | refine d_gPc mkP ?_ | refine d_gPPc mkP mkP ?_ | refine grp_nil ?_ | refine d_gSS cl_nil mkS mkS ?_ | (refine g_d ?_; first | (refine d_args ?_; first | fail) | refine d_op ?_ | refine d_yes ?_ | refine d_no ?_ | refine d_noU ?_) | refine WOs_nil ?_ | (refine g_c ?_; first | refine c_T ?_ | refine c_F ?_) | (refine g_gd ?_; first | refine s_yes ?_ | refine s_no ?_ | refine s_noU ?_) | refine WA_skip ?_ | refine WA_ret ?_ | refine WA_exit ?_ | refine qT_ret ?_ | refine qT_exit ?_ | refine qB_exit ?_ | refine qB_other rfl ?_ | refine qB_normal ?_ | refine qB_ret ?_ | refine WA_block ?_ | refine qT_WAn ?_ | refine WAn_step ?_ | refine qT_normal ?_))
  refine WA_while (σ := Nat) [1, 2, 5, 6] (fun i => [.lst (ldsV ls), .ptr (lend m).length 0 0, .int .i64 (sumF (fun p => p.2 * (b - p.1)) ls i), .int .i64 i]) (fun _ => lend m ++ [.cells .own 81 3 [[.int .i64 a, .int .i64 b, .int .i64 w]]]) (fun i => i ≤ ls.length) (fun i => ls.length - i) 0 (Nat.zero_le _) tv_ rfl ?_
  intro i hi1 K2 hL
  rcases Nat.lt_or_ge i ls.length with hi' | hi'
  · have hga := ldsV_get hi'
    have h1 := hbd i (by omega)
    have h2 := hbd (i + 1) (by omega)
    have h3 := mulW (hok _ (List.getElem_mem hi')).2 (d := b - ls[i].1) (by have := (hok _ (List.getElem_mem hi')).1; omega)
    have h4 := (hok _ (List.getElem_mem hi')).1
    have e := sumF_succ (f := fun p => p.2 * (b - p.1)) hi'
    try dsimp only at e
    simp only [zipT]
    clear FX
    (have FX := And.intro hla hga; repeat' (first | refine s_tp ?_ | refine s_tn ?_ | refine d_tp ?_ | refine d_tn ?_ | ((first | refine WOs_splitD (fun h => ?_) (fun h => ?_) | refine WOs_splitN (fun h => ?_) (fun h => ?_) | refine WDs_splitD (fun h => ?_) (fun h => ?_) | refine WDs_splitN (fun h => ?_) (fun h => ?_)) <;> first | (exfalso; omega) | skip) | (refine g_op ?_; first | (refine g_call ?_; refine g_args ?_; first | fail) | refine s_mv ?_ | refine s_as ?_ | refine s_bin ?_ | refine s_ld ?_ | refine s_ia ?_ | refine s_fa ?_ | refine s_fd ?_ | refine s_ix ?_ | refine s_un ?_ | refine s_op ?_) | refine WA_seq' ?_ | refine qT_WA ?_ | refine WA_region ?_ | (refine d_raw (id := 5) ?_; refine ⟨fun i => if i == 5 || i == 7 || i == 12 then .q else .p, [.one 0, .one 1, .one 2, .one 3, .one 4, .one 5, .one 6, .one 7, .one 8, .one 9, .one 10, .one 11, .one 12, .one 13, .one 14, .one 15, .one 16], by kernel_rfl, ?_⟩) | refine WDs_nil ?_ | refine d_gPP cl_nil mkP mkP ?_ | refine d_gPc mkP ?_ | refine d_gPPc mkP mkP ?_ | refine grp_nil ?_ | refine d_gSS cl_nil mkS mkS ?_ | (refine g_d ?_; first | (refine d_args ?_; first | fail) | refine d_op ?_ | refine d_yes ?_ | refine d_no ?_ | refine d_noU ?_) | refine WOs_nil ?_ | (refine g_c ?_; first | refine c_T ?_ | refine c_F ?_) | (refine g_gd ?_; first | refine s_yes ?_ | refine s_no ?_ | refine s_noU ?_) | refine WA_skip ?_ | refine WA_ret ?_ | refine WA_exit ?_ | refine qT_ret ?_ | refine qT_exit ?_ | refine qB_exit ?_ | refine qB_other rfl ?_ | refine qB_normal ?_ | refine qB_ret ?_ | refine WA_block ?_ | refine qT_WAn ?_ | refine WAn_step ?_ | refine qT_normal ?_))
    all_goals (rw [← e]; refine next_ hL (i + 1) hi' (by omega))
  · have e : i = ls.length := by omega
    subst e
    simp only [zipT]
    clear FX
    (have FX := And.intro hla hga; repeat' (first | refine s_tp ?_ | refine s_tn ?_ | refine d_tp ?_ | refine d_tn ?_ | ((first | refine WOs_splitD (fun h => ?_) (fun h => ?_) | refine WOs_splitN (fun h => ?_) (fun h => ?_) | refine WDs_splitD (fun h => ?_) (fun h => ?_) | refine WDs_splitN (fun h => ?_) (fun h => ?_)) <;> first | (exfalso; omega) | skip) | (refine g_op ?_; first | (refine g_call ?_; refine g_args ?_; first | fail) | refine s_mv ?_ | refine s_as ?_ | refine s_bin ?_ | refine s_ld ?_ | refine s_ia ?_ | refine s_fa ?_ | refine s_fd ?_ | refine s_ix ?_ | refine s_un ?_ | refine s_op ?_) | refine WA_seq' ?_ | refine qT_WA ?_ | refine WA_region ?_ | (refine d_raw (id := 5) ?_; refine ⟨fun i => if i == 5 || i == 7 || i == 12 then .q else .p, [.one 0, .one 1, .one 2, .one 3, .one 4, .one 5, .one 6, .one 7, .one 8, .one 9, .one 10, .one 11, .one 12, .one 13, .one 14, .one 15, .one 16], by kernel_rfl, ?_⟩) | refine WDs_nil ?_ | refine d_gPP cl_nil mkP mkP ?_ | refine d_gPc mkP ?_ | refine d_gPPc mkP mkP ?_ | refine grp_nil ?_ | refine d_gSS cl_nil mkS mkS ?_ | (refine g_d ?_; first | (refine d_args ?_; first | fail) | refine d_op ?_ | refine d_yes ?_ | refine d_no ?_ | refine d_noU ?_) | refine WOs_nil ?_ | (refine g_c ?_; first | refine c_T ?_ | refine c_F ?_) | (refine g_gd ?_; first | refine s_yes ?_ | refine s_no ?_ | refine s_noU ?_) | refine WA_skip ?_ | refine WA_ret ?_ | refine WA_exit ?_ | refine qT_ret ?_ | refine qT_exit ?_ | refine qB_exit ?_ | refine qB_other rfl ?_ | refine qB_normal ?_ | refine qB_ret ?_ | refine WA_block ?_ | refine qT_WAn ?_ | refine WAn_step ?_ | refine qT_normal ?_))
    all_goals (refine r_es hQ ?_; try with_reducible rfl)
end Go.Proofs.Yteogokmbedmkjaa
