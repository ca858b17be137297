import Derived.Test.YteogokmbedmkjaaG14
import Derived.Test.YteogokmbedmkjaaYC
namespace Go.Proofs.Yteogokmbedmkjaa
open Go.RowKit
attribute [local irreducible] WA WOs WDs WAn qThen qBlock tput
set_option maxHeartbeats 1000000
set_option maxRecDepth 20000
set_option linter.unusedSimpArgs false
set_option linter.unusedVariables false
theorem intsV_all (xs : List Int) : ((intsV xs).all fun e => e.length == 1) = true := by simp [intsV]
theorem ldsV_all (ls : List (Int × Int)) : ((ldsV ls).all fun e => e.length == 2) = true := by simp [ldsV]
theorem copyints_c (xs : List Int) (hl : xs.length ≤ 1000000) (m : Mem) : Gives Try.prog 22 [.lst (intsV xs)] m (.lst (intsV xs)) := by
  have hla := intsV_length (xs := xs)
  have hall := intsV_all xs
  refine CallA_in Try.func22 rfl Try.ntmps22 Try.results22 (by kernel_rfl) (by simp) fun Q hQ => ?_
  (have FX := And.intro hla hall; repeat' (first | refine s_tp ?_ | refine s_tn ?_ | ((first | refine WOs_splitD (fun h => ?_) (fun h => ?_) | refine WOs_splitN (fun h => ?_) (fun h => ?_) | refine WDs_splitD (fun h => ?_) (fun h => ?_) | refine WDs_splitN (fun h => ?_) (fun h => ?_)) <;> first | (exfalso; omega) | skip) | (refine g_op ?_; first | (refine g_call ?_; refine g_args ?_; first | fail) | refine s_mv ?_ | refine s_as ?_ | refine s_bin ?_ | refine s_ld ?_ | refine s_ia ?_ | refine s_fa ?_ | refine s_fd ?_ | refine s_ix ?_ | refine s_un ?_ | refine s_op ?_) | refine WA_seq' ?_ | refine qT_WA ?_ | refine WA_region ?_ | refine WOs_nil ?_ | (refine g_c ?_; first | refine c_T ?_ | refine c_F ?_) | (refine g_gd ?_; first | refine s_yes ?_ | refine s_no ?_ | refine s_noU ?_) | refine WA_skip ?_ | refine WA_ret ?_ | refine WA_exit ?_ | refine qT_ret ?_ | refine qT_exit ?_ | refine qB_exit ?_ | refine qB_other rfl ?_ | refine qB_normal ?_ | refine qB_ret ?_ | refine WA_block ?_ | refine qT_WAn ?_ | refine WAn_step ?_ | refine qT_normal ?_))
  refine r_esA hQ ?_
  refine fin_sl (B := lend m) (D := []) (j := 1) (by simp) rfl (by omega) ?_ ?_
  · rw [List.take_of_length_le (by omega)]
    exact intsV_plain xs
  · rw [List.take_of_length_le (by omega)]
    exact ⟨rfl, rfl⟩
theorem loads_c (ls : List (Int × Int)) (hl : ls.length ≤ 1000000) (m : Mem) : Gives Try.prog 23 [.lst (ldsV ls)] m (.lst (ldsV ls)) := by
  have hla := ldsV_length (ls := ls)
  have hall := ldsV_all ls
  refine CallA_in Try.func23 rfl Try.ntmps23 Try.results23 (by kernel_rfl) (by simp) fun Q hQ => ?_
  (have FX := And.intro hla hall; repeat' (first | refine s_tp ?_ | refine s_tn ?_ | ((first | refine WOs_splitD (fun h => ?_) (fun h => ?_) | refine WOs_splitN (fun h => ?_) (fun h => ?_) | refine WDs_splitD (fun h => ?_) (fun h => ?_) | refine WDs_splitN (fun h => ?_) (fun h => ?_)) <;> first | (exfalso; omega) | skip) | (refine g_op ?_; first | (refine g_call ?_; refine g_args ?_; first | fail) | refine s_mv ?_ | refine s_as ?_ | refine s_bin ?_ | refine s_ld ?_ | refine s_ia ?_ | refine s_fa ?_ | refine s_fd ?_ | refine s_ix ?_ | refine s_un ?_ | refine s_op ?_) | refine WA_seq' ?_ | refine qT_WA ?_ | refine WA_region ?_ | refine WOs_nil ?_ | (refine g_c ?_; first | refine c_T ?_ | refine c_F ?_) | (refine g_gd ?_; first | refine s_yes ?_ | refine s_no ?_ | refine s_noU ?_) | refine WA_skip ?_ | refine WA_ret ?_ | refine WA_exit ?_ | refine qT_ret ?_ | refine qT_exit ?_ | refine qB_exit ?_ | refine qB_other rfl ?_ | refine qB_normal ?_ | refine qB_ret ?_ | refine WA_block ?_ | refine qT_WAn ?_ | refine WAn_step ?_ | refine qT_normal ?_))
  refine r_esA hQ ?_
  refine fin_sl (B := lend m) (D := []) (j := 1) (by simp) rfl (by omega) ?_ ?_
  · rw [List.take_of_length_le (by omega)]
    exact ldsV_plain ls
  · rw [List.take_of_length_le (by omega)]
    exact ⟨rfl, rfl⟩
end Go.Proofs.Yteogokmbedmkjaa
