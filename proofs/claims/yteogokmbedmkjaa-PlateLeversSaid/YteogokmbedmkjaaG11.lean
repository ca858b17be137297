import Derived.Test.YteogokmbedmkjaaProg
import Derived.Test.YteogokmbedmkjaaYC
import Derived.Test.YteogokmbedmkjaaG10
namespace Go.Proofs.Yteogokmbedmkjaa
open Go.RowKit
attribute [local irreducible] WA WOs WDs WAn qThen qBlock tput
set_option maxHeartbeats 1000000
set_option maxRecDepth 20000
set_option linter.unusedSimpArgs false
set_option linter.unusedVariables false
def ldsV (ls : List (Int × Int)) : List (List V) := ls.map fun p => [V.int .i64 p.1, V.int .i64 p.2]
theorem ldsV_get {ls : List (Int × Int)} {i : Nat} (h : i < ls.length) : (ldsV ls)[i]? = some [.int .i64 ls[i].1, .int .i64 ls[i].2] := by simp [ldsV, h]
theorem ldsV_length {ls : List (Int × Int)} : (ldsV ls).length = ls.length := by simp [ldsV]
theorem ldsV_plain : ∀ ls : List (Int × Int), plainLL (ldsV ls) = true
  | [] => rfl
  | p :: ls => by
    have := ldsV_plain ls
    simpa [ldsV, plainLL, plainL, V.plain] using this
def loadOk (lo hi : Int) (p : Int × Int) : Prop := (lo ≤ p.1 ∧ p.1 ≤ hi) ∧ (-1000000 ≤ p.2 ∧ p.2 ≤ 1000000)
instance (lo hi : Int) (p : Int × Int) : Decidable (loadOk lo hi p) := by unfold loadOk; exact inferInstance
def loadsErr (lo hi : Int) (ls : List (Int × Int)) : Int := if 100 < ls.length then 8 else if ∀ p ∈ ls, loadOk lo hi p then 0 else 2
theorem checkloads_c (ls : List (Int × Int)) (lo hi : Int) (hl : ls.length ≤ 1000000) (m : Mem) : Gives Try.prog 83 [.lst (ldsV ls), .int .i64 lo, .int .i64 hi] m (.int .i64 (loadsErr lo hi ls)) := by
  have hlen := ldsV_length (ls := ls)
  have hget := hlen
  unfold loadsErr
  by_cases hb : 100 < ls.length
  · rw [if_pos hb]
    refine Gives_in Try.func83 rfl Try.ntmps83 Try.results83 (by kernel_rfl) (by simp) rfl fun Q hQ => ?_
    (have FX := And.intro hlen hget; repeat' (first | refine s_tp ?_ | refine s_tn ?_ | ((first | refine WOs_splitD (fun h => ?_) (fun h => ?_) | refine WOs_splitN (fun h => ?_) (fun h => ?_) | refine WDs_splitD (fun h => ?_) (fun h => ?_) | refine WDs_splitN (fun h => ?_) (fun h => ?_)) <;> first | (exfalso; omega) | skip) | (refine g_op ?_; first | (refine g_call ?_; refine g_args ?_; first | (refine s_fn (pwithin_c _ _ ?_ ?_ _) ?_ <;> try first | omega | assumption) | fail) | refine s_mv ?_ | refine s_as ?_ | refine s_bin ?_ | refine s_ld ?_ | refine s_ia ?_ | refine s_fa ?_ | refine s_fd ?_ | refine s_ix ?_ | refine s_un ?_ | refine s_op ?_) | refine WA_seq' ?_ | refine qT_WA ?_ | refine WA_region ?_ | refine WOs_nil ?_ | (refine g_c ?_; first | refine c_T ?_ | refine c_F ?_) | (refine g_gd ?_; first | refine s_yes ?_ | refine s_no ?_ | refine s_noU ?_) | refine WA_skip ?_ | refine WA_ret ?_ | refine WA_exit ?_ | refine qT_ret ?_ | refine qT_exit ?_ | refine qB_exit ?_ | refine qB_other rfl ?_ | refine qB_normal ?_ | refine qB_ret ?_ | refine WA_block ?_ | refine qT_WAn ?_ | refine WAn_step ?_ | refine qT_normal ?_))
    all_goals (refine r_es hQ ?_; try with_reducible rfl)
  rw [if_neg hb]
  generalize hE : (if ∀ p ∈ ls, loadOk lo hi p then (0 : Int) else 2) = E
  refine Gives_in Try.func83 rfl Try.ntmps83 Try.results83 (by kernel_rfl) (by simp) rfl fun Q hQ => ?_
  (have FX := And.intro hlen hget; repeat' (first | refine s_tp ?_ | refine s_tn ?_ | ((first | refine WOs_splitD (fun h => ?_) (fun h => ?_) | refine WOs_splitN (fun h => ?_) (fun h => ?_) | refine WDs_splitD (fun h => ?_) (fun h => ?_) | refine WDs_splitN (fun h => ?_) (fun h => ?_)) <;> first | (exfalso; omega) | skip) | (refine g_op ?_; first | (refine g_call ?_; refine g_args ?_; first | (refine s_fn (pwithin_c _ _ ?_ ?_ _) ?_ <;> try first | omega | assumption) | fail) | refine s_mv ?_ | refine s_as ?_ | refine s_bin ?_ | refine s_ld ?_ | refine s_ia ?_ | refine s_fa ?_ | refine s_fd ?_ | refine s_ix ?_ | refine s_un ?_ | refine s_op ?_) | refine WA_seq' ?_ | refine qT_WA ?_ | refine WA_region ?_ | refine WOs_nil ?_ | (refine g_c ?_; first | refine c_T ?_ | refine c_F ?_) | (refine g_gd ?_; first | refine s_yes ?_ | refine s_no ?_ | refine s_noU ?_) | refine WA_skip ?_ | refine WA_ret ?_ | refine WA_exit ?_ | refine qT_ret ?_ | refine qT_exit ?_ | refine qB_exit ?_ | refine qB_other rfl ?_ | refine qB_normal ?_ | refine qB_ret ?_ | refine WA_block ?_ | refine qT_WAn ?_ | refine WAn_step ?_ | refine qT_normal ?_))
  refine WA_whileL (σ := Nat) (L := m) [1, 2, 12, 13, 14] (fun i => [.int .i64 lo, .int .i64 hi, .lst (ldsV ls), .int .i64 ls.length, .int .i64 i]) (fun _ => []) 0 (fun i => i ≤ ls.length ∧ ∀ j (h : j < ls.length), j < i → loadOk lo hi ls[j]) (fun i => ls.length - i) 0 ⟨Nat.zero_le _, fun j h1 h2 => absurd h2 (Nat.not_lt_zero _)⟩ tv_ rfl (fun _ => rfl) ?_ (fun _ => rfl) ?_
  · intro s v hv
    simp only [List.mem_cons, List.not_mem_nil, or_false] at hv
    rcases hv with rfl | rfl | rfl | rfl | rfl
    all_goals first | rfl | exact ldsV_plain ls
  rintro i ⟨hi1, hi2⟩ K2 hL
  rcases Nat.lt_or_ge i ls.length with hi' | hi'
  · have hget := ldsV_get hi'
    simp only [zipT]
    (have FX := And.intro hlen hget; repeat' (first | refine s_tp ?_ | refine s_tn ?_ | ((first | refine WOs_splitD (fun h => ?_) (fun h => ?_) | refine WOs_splitN (fun h => ?_) (fun h => ?_) | refine WDs_splitD (fun h => ?_) (fun h => ?_) | refine WDs_splitN (fun h => ?_) (fun h => ?_)) <;> first | (exfalso; omega) | skip) | (refine g_op ?_; first | (refine g_call ?_; refine g_args ?_; first | (refine s_fn (pwithin_c _ _ ?_ ?_ _) ?_ <;> try first | omega | assumption) | fail) | refine s_mv ?_ | refine s_as ?_ | refine s_bin ?_ | refine s_ld ?_ | refine s_ia ?_ | refine s_fa ?_ | refine s_fd ?_ | refine s_ix ?_ | refine s_un ?_ | refine s_op ?_) | refine WA_seq' ?_ | refine qT_WA ?_ | refine WA_region ?_ | refine WOs_nil ?_ | (refine g_c ?_; first | refine c_T ?_ | refine c_F ?_) | (refine g_gd ?_; first | refine s_yes ?_ | refine s_no ?_ | refine s_noU ?_) | refine WA_skip ?_ | refine WA_ret ?_ | refine WA_exit ?_ | refine qT_ret ?_ | refine qT_exit ?_ | refine qB_exit ?_ | refine qB_other rfl ?_ | refine qB_normal ?_ | refine qB_ret ?_ | refine WA_block ?_ | refine qT_WAn ?_ | refine WAn_step ?_ | refine qT_normal ?_))
    all_goals first
      | ((refine r_es hQ ?_; try with_reducible rfl); rw [← hE, if_neg]; intro h0; have h1 := h0 _ (List.getElem_mem hi'); unfold loadOk at h1; omega)
      | (refine nextL_ hL (i + 1) ⟨hi', fun j h1 h2 => ?_⟩ (by omega); rcases Nat.lt_or_ge j i with q | q; exact hi2 j h1 q; (have : j = i := by omega); subst this; unfold loadOk; omega)
  · simp only [zipT]
    (have FX := And.intro hlen hget; repeat' (first | refine s_tp ?_ | refine s_tn ?_ | ((first | refine WOs_splitD (fun h => ?_) (fun h => ?_) | refine WOs_splitN (fun h => ?_) (fun h => ?_) | refine WDs_splitD (fun h => ?_) (fun h => ?_) | refine WDs_splitN (fun h => ?_) (fun h => ?_)) <;> first | (exfalso; omega) | skip) | (refine g_op ?_; first | (refine g_call ?_; refine g_args ?_; first | (refine s_fn (pwithin_c _ _ ?_ ?_ _) ?_ <;> try first | omega | assumption) | fail) | refine s_mv ?_ | refine s_as ?_ | refine s_bin ?_ | refine s_ld ?_ | refine s_ia ?_ | refine s_fa ?_ | refine s_fd ?_ | refine s_ix ?_ | refine s_un ?_ | refine s_op ?_) | refine WA_seq' ?_ | refine qT_WA ?_ | refine WA_region ?_ | refine WOs_nil ?_ | (refine g_c ?_; first | refine c_T ?_ | refine c_F ?_) | (refine g_gd ?_; first | refine s_yes ?_ | refine s_no ?_ | refine s_noU ?_) | refine WA_skip ?_ | refine WA_ret ?_ | refine WA_exit ?_ | refine qT_ret ?_ | refine qT_exit ?_ | refine qB_exit ?_ | refine qB_other rfl ?_ | refine qB_normal ?_ | refine qB_ret ?_ | refine WA_block ?_ | refine qT_WAn ?_ | refine WAn_step ?_ | refine qT_normal ?_))
    (refine r_es hQ ?_; try with_reducible rfl)
    rw [← hE, if_pos]
    intro p hp
    obtain ⟨j, hj, rfl⟩ := List.getElem_of_mem hp
    exact hi2 j hj (by omega)
end Go.Proofs.Yteogokmbedmkjaa
