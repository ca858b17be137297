import Derived.Test.YteogokmbedmkjaaProg
import Derived.Test.YteogokmbedmkjaaYC
import Derived.Test.YteogokmbedmkjaaG9
namespace Go.Proofs.Yteogokmbedmkjaa
open Go.RowKit
attribute [local irreducible] WA WOs WDs WAn qThen qBlock tput
set_option maxHeartbeats 1000000
set_option maxRecDepth 20000
set_option linter.unusedSimpArgs false
set_option linter.unusedVariables false
def chkB : Option Int → List Int → Int
  | _, [] => 0
  | p, x :: r => if ¬ (-20000 ≤ x ∧ x ≤ 20000) then 2 else if (p.elim false fun q => decide (x ≤ q)) = true then 9 else chkB (some x) r
def barsErr (xs : List Int) : Int := if xs.length < 2 ∨ 20 < xs.length then 10 else chkB none xs
def prevAt (xs : List Int) : Nat → Option Int
  | 0 => none
  | k + 1 => xs[k]?
theorem drop_cons {xs : List Int} {i : Nat} (h : i < xs.length) : xs.drop i = xs[i] :: xs.drop (i + 1) := List.drop_eq_getElem_cons h
theorem checkbars_c (xs : List Int) (hlen' : xs.length ≤ 1000000) (m : Mem) : Gives Try.prog 25 [.lst (intsV xs)] m (.int .i64 (barsErr xs)) := by
  have hlen := intsV_length (xs := xs)
  have hget := hlen
  have hget' := hlen
  have hi1 := hlen
  by_cases hb : xs.length < 2 ∨ 20 < xs.length
  · unfold barsErr
    rw [if_pos hb]
    refine Gives_in Try.func25 rfl Try.ntmps25 Try.results25 (by kernel_rfl) (by simp) rfl fun Q hQ => ?_
    (have FX := And.intro hlen (And.intro hget (And.intro hget' hi1)); repeat' (first | refine s_tp ?_ | refine s_tn ?_ | ((first | refine WOs_splitD (fun h => ?_) (fun h => ?_) | refine WOs_splitN (fun h => ?_) (fun h => ?_) | refine WDs_splitD (fun h => ?_) (fun h => ?_) | refine WDs_splitN (fun h => ?_) (fun h => ?_)) <;> first | (exfalso; omega) | skip) | (refine g_op ?_; first | (refine g_call ?_; refine g_args ?_; first | (refine s_fn (pwithin_c _ _ ?_ ?_ _) ?_ <;> try first | omega | assumption) | fail) | refine s_mv ?_ | refine s_as ?_ | refine s_bin ?_ | refine s_ld ?_ | refine s_ia ?_ | refine s_fa ?_ | refine s_fd ?_ | refine s_ix ?_ | refine s_un ?_ | refine s_op ?_) | refine WA_seq' ?_ | refine qT_WA ?_ | refine WA_region ?_ | refine WOs_nil ?_ | (refine g_c ?_; first | refine c_T ?_ | refine c_F ?_) | (refine g_gd ?_; first | refine s_yes ?_ | refine s_no ?_ | refine s_noU ?_) | refine WA_skip ?_ | refine WA_ret ?_ | refine WA_exit ?_ | refine qT_ret ?_ | refine qT_exit ?_ | refine qB_exit ?_ | refine qB_other rfl ?_ | refine qB_normal ?_ | refine qB_ret ?_ | refine WA_block ?_ | refine qT_WAn ?_ | refine WAn_step ?_ | refine qT_normal ?_))
    all_goals (refine r_es hQ ?_; try with_reducible rfl)
  unfold barsErr
  rw [if_neg hb]
  generalize hE : chkB none xs = E
  refine Gives_in Try.func25 rfl Try.ntmps25 Try.results25 (by kernel_rfl) (by simp) rfl fun Q hQ => ?_
  (have FX := And.intro hlen (And.intro hget (And.intro hget' hi1)); repeat' (first | refine s_tp ?_ | refine s_tn ?_ | ((first | refine WOs_splitD (fun h => ?_) (fun h => ?_) | refine WOs_splitN (fun h => ?_) (fun h => ?_) | refine WDs_splitD (fun h => ?_) (fun h => ?_) | refine WDs_splitN (fun h => ?_) (fun h => ?_)) <;> first | (exfalso; omega) | skip) | (refine g_op ?_; first | (refine g_call ?_; refine g_args ?_; first | (refine s_fn (pwithin_c _ _ ?_ ?_ _) ?_ <;> try first | omega | assumption) | fail) | refine s_mv ?_ | refine s_as ?_ | refine s_bin ?_ | refine s_ld ?_ | refine s_ia ?_ | refine s_fa ?_ | refine s_fd ?_ | refine s_ix ?_ | refine s_un ?_ | refine s_op ?_) | refine WA_seq' ?_ | refine qT_WA ?_ | refine WA_region ?_ | refine WOs_nil ?_ | (refine g_c ?_; first | refine c_T ?_ | refine c_F ?_) | (refine g_gd ?_; first | refine s_yes ?_ | refine s_no ?_ | refine s_noU ?_) | refine WA_skip ?_ | refine WA_ret ?_ | refine WA_exit ?_ | refine qT_ret ?_ | refine qT_exit ?_ | refine qB_exit ?_ | refine qB_other rfl ?_ | refine qB_normal ?_ | refine qB_ret ?_ | refine WA_block ?_ | refine qT_WAn ?_ | refine WAn_step ?_ | refine qT_normal ?_))
  refine WA_while (σ := Nat) [0, 13, 14, 15] (fun i => [.lst (intsV xs), .lst (intsV xs), .int .i64 xs.length, .int .i64 i]) (fun _ => lend m ++ []) (fun i => i ≤ xs.length ∧ chkB (prevAt xs i) (xs.drop i) = E) (fun i => xs.length - i) 0 ⟨Nat.zero_le _, hE⟩ tv_ rfl ?_
  rintro i ⟨hi1', hi2⟩ L hL
  rcases Nat.lt_or_ge i xs.length with hi | hi
  · have hget := intsV_get hi
    rw [drop_cons hi] at hi2
    cases i with
    | zero =>
      simp only [prevAt, chkB] at hi2
      simp only [zipT]
      (have FX := And.intro hlen (And.intro hget (And.intro hget' hi1)); repeat' (first | refine s_tp ?_ | refine s_tn ?_ | ((first | refine WOs_splitD (fun h => ?_) (fun h => ?_) | refine WOs_splitN (fun h => ?_) (fun h => ?_) | refine WDs_splitD (fun h => ?_) (fun h => ?_) | refine WDs_splitN (fun h => ?_) (fun h => ?_)) <;> first | (exfalso; omega) | skip) | (refine g_op ?_; first | (refine g_call ?_; refine g_args ?_; first | (refine s_fn (pwithin_c _ _ ?_ ?_ _) ?_ <;> try first | omega | assumption) | fail) | refine s_mv ?_ | refine s_as ?_ | refine s_bin ?_ | refine s_ld ?_ | refine s_ia ?_ | refine s_fa ?_ | refine s_fd ?_ | refine s_ix ?_ | refine s_un ?_ | refine s_op ?_) | refine WA_seq' ?_ | refine qT_WA ?_ | refine WA_region ?_ | refine WOs_nil ?_ | (refine g_c ?_; first | refine c_T ?_ | refine c_F ?_) | (refine g_gd ?_; first | refine s_yes ?_ | refine s_no ?_ | refine s_noU ?_) | refine WA_skip ?_ | refine WA_ret ?_ | refine WA_exit ?_ | refine qT_ret ?_ | refine qT_exit ?_ | refine qB_exit ?_ | refine qB_other rfl ?_ | refine qB_normal ?_ | refine qB_ret ?_ | refine WA_block ?_ | refine qT_WAn ?_ | refine WAn_step ?_ | refine qT_normal ?_))
      all_goals first | ((refine r_es hQ ?_; try with_reducible rfl); rw [← hi2]; simp [*]; done) | (refine next_ hL 1 ⟨hi, ?_⟩ (by omega); rw [← hi2]; simp [prevAt, *]; done)
    | succ k =>
      have hk : k < xs.length := by omega
      have hget' := intsV_get hk
      have hi1 : (((k + 1 : Nat) : Int) - 1).toNat = k := by omega
      simp only [prevAt, chkB, List.getElem?_eq_getElem hk] at hi2
      simp only [zipT]
      (have FX := And.intro hlen (And.intro hget (And.intro hget' hi1)); repeat' (first | refine s_tp ?_ | refine s_tn ?_ | ((first | refine WOs_splitD (fun h => ?_) (fun h => ?_) | refine WOs_splitN (fun h => ?_) (fun h => ?_) | refine WDs_splitD (fun h => ?_) (fun h => ?_) | refine WDs_splitN (fun h => ?_) (fun h => ?_)) <;> first | (exfalso; omega) | skip) | (refine g_op ?_; first | (refine g_call ?_; refine g_args ?_; first | (refine s_fn (pwithin_c _ _ ?_ ?_ _) ?_ <;> try first | omega | assumption) | fail) | refine s_mv ?_ | refine s_as ?_ | refine s_bin ?_ | refine s_ld ?_ | refine s_ia ?_ | refine s_fa ?_ | refine s_fd ?_ | refine s_ix ?_ | refine s_un ?_ | refine s_op ?_) | refine WA_seq' ?_ | refine qT_WA ?_ | refine WA_region ?_ | refine WOs_nil ?_ | (refine g_c ?_; first | refine c_T ?_ | refine c_F ?_) | (refine g_gd ?_; first | refine s_yes ?_ | refine s_no ?_ | refine s_noU ?_) | refine WA_skip ?_ | refine WA_ret ?_ | refine WA_exit ?_ | refine qT_ret ?_ | refine qT_exit ?_ | refine qB_exit ?_ | refine qB_other rfl ?_ | refine qB_normal ?_ | refine qB_ret ?_ | refine WA_block ?_ | refine qT_WAn ?_ | refine WAn_step ?_ | refine qT_normal ?_))
      all_goals first | ((refine r_es hQ ?_; try with_reducible rfl); rw [← hi2]; simp [*]; done) | (refine next_ hL (k + 1 + 1) ⟨hi, ?_⟩ (by omega); rw [← hi2]; simp [prevAt, *]; done)
  · simp only [zipT]
    (have FX := And.intro hlen (And.intro hget (And.intro hget' hi1)); repeat' (first | refine s_tp ?_ | refine s_tn ?_ | ((first | refine WOs_splitD (fun h => ?_) (fun h => ?_) | refine WOs_splitN (fun h => ?_) (fun h => ?_) | refine WDs_splitD (fun h => ?_) (fun h => ?_) | refine WDs_splitN (fun h => ?_) (fun h => ?_)) <;> first | (exfalso; omega) | skip) | (refine g_op ?_; first | (refine g_call ?_; refine g_args ?_; first | (refine s_fn (pwithin_c _ _ ?_ ?_ _) ?_ <;> try first | omega | assumption) | fail) | refine s_mv ?_ | refine s_as ?_ | refine s_bin ?_ | refine s_ld ?_ | refine s_ia ?_ | refine s_fa ?_ | refine s_fd ?_ | refine s_ix ?_ | refine s_un ?_ | refine s_op ?_) | refine WA_seq' ?_ | refine qT_WA ?_ | refine WA_region ?_ | refine WOs_nil ?_ | (refine g_c ?_; first | refine c_T ?_ | refine c_F ?_) | (refine g_gd ?_; first | refine s_yes ?_ | refine s_no ?_ | refine s_noU ?_) | refine WA_skip ?_ | refine WA_ret ?_ | refine WA_exit ?_ | refine qT_ret ?_ | refine qT_exit ?_ | refine qB_exit ?_ | refine qB_other rfl ?_ | refine qB_normal ?_ | refine qB_ret ?_ | refine WA_block ?_ | refine qT_WAn ?_ | refine WAn_step ?_ | refine qT_normal ?_))
    (refine r_es hQ ?_; try with_reducible rfl)
    rw [List.drop_eq_nil_of_le hi] at hi2
    rw [← hi2]
    cases i <;> rfl
end Go.Proofs.Yteogokmbedmkjaa
