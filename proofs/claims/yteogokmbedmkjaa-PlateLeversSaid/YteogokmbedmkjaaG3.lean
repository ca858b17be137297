import Derived.Test.YteogokmbedmkjaaProg
import Derived.Test.YteogokmbedmkjaaYC
import Derived.Test.YteogokmbedmkjaaG2
import Derived.Test.YteogokmbedmkjaaK1
namespace Go.Proofs.Yteogokmbedmkjaa
open Go.RowKit
attribute [local irreducible] WA WOs WDs WAn qThen qBlock tput
set_option maxHeartbeats 1000000
set_option maxRecDepth 20000
set_option linter.unusedSimpArgs false
set_option linter.unusedVariables false
theorem mul64_c (x y : Int) (hx0 : 0 ≤ x) (hx : x ≤ 18446744073709551615) (hy0 : 0 ≤ y) (hy : y ≤ 18446744073709551615) (m : Mem) :
    Gives Try.prog 127 [.int .u64 x, .int .u64 y] m (.tup [.int .u64 (x * y / 18446744073709551616), .int .u64 (x * y % 18446744073709551616)]) := by
  obtain ⟨a, rfl⟩ := Int.eq_ofNat_of_zero_le hx0
  obtain ⟨b, rfl⟩ := Int.eq_ofNat_of_zero_le hy0
  refine Gives_of_calls (by kernel_rfl) rfl rfl fun w => ?_
  refine (mul64_calls a b (by omega) (by omega) w).mono ?_
  rintro e w' ⟨rfl, rfl⟩
  refine ⟨?_, Below.refl _ _⟩
  simp [V.real, realL]
theorem pow2_c (x n : Int) (h0 : 0 ≤ x) (h1 : x ≤ 1000000000000000000) (h2 : 0 ≤ n) (h3 : n ≤ 1000000000000000000) (m : Mem) : Gives Try.prog 122 [.int .i64 x, .int .i64 2, .int .i64 n] m (.bool (decide (x * x ≤ n))) := by
  have hq0 : 0 ≤ x * x := Int.mul_nonneg h0 h0
  have hq1 : x ≤ x * x ∨ x = 0 := by
    rcases Int.lt_or_le 0 x with h | h
    · left
      have h5 : (1 : Int) ≤ x := h
      have := Int.mul_le_mul_of_nonneg_left h5 h0
      omega
    · right; omega
  have hm : x % 18446744073709551616 = x := by omega
  refine Gives_in Try.func122 rfl Try.ntmps122 Try.results122 (by kernel_rfl) (by simp) rfl fun Q hQ => ?_
  (repeat' (first | refine s_tp ?_ | refine s_tn ?_ | ((first | refine WOs_splitD (fun h => ?_) (fun h => ?_) | refine WOs_splitN (fun h => ?_) (fun h => ?_) | refine WDs_splitD (fun h => ?_) (fun h => ?_) | refine WDs_splitN (fun h => ?_) (fun h => ?_)) <;> first | (exfalso; omega) | skip) | (refine g_op ?_; first | (refine g_call ?_; refine g_args ?_; first | (refine s_fn (mul64_c _ _ ?_ ?_ ?_ ?_ _) ?_ <;> try first | omega | assumption) | fail) | refine s_mv ?_ | refine s_as ?_ | refine s_bin ?_ | refine s_ld ?_ | refine s_ia ?_ | refine s_fa ?_ | refine s_fd ?_ | refine s_ix ?_ | refine s_un ?_ | refine s_op ?_) | refine WA_seq' ?_ | refine qT_WA ?_ | refine WA_region ?_ | refine WOs_nil ?_ | (refine g_c ?_; first | refine c_T ?_ | refine c_F ?_) | (refine g_gd ?_; first | refine s_yes ?_ | refine s_no ?_ | refine s_noU ?_) | refine WA_skip ?_ | refine WA_ret ?_ | refine WA_exit ?_ | refine qT_ret ?_ | refine qT_exit ?_ | refine qB_exit ?_ | refine qB_other rfl ?_ | refine qB_normal ?_ | refine qB_ret ?_ | refine WA_block ?_ | refine qT_WAn ?_ | refine WAn_step ?_ | refine qT_normal ?_))
  refine WA_rounds 3 ?_
  (repeat' (first | refine s_tp ?_ | refine s_tn ?_ | ((first | refine WOs_splitD (fun h => ?_) (fun h => ?_) | refine WOs_splitN (fun h => ?_) (fun h => ?_) | refine WDs_splitD (fun h => ?_) (fun h => ?_) | refine WDs_splitN (fun h => ?_) (fun h => ?_)) <;> first | (exfalso; omega) | skip) | (refine g_op ?_; first | (refine g_call ?_; refine g_args ?_; first | (refine s_fn (mul64_c _ _ ?_ ?_ ?_ ?_ _) ?_ <;> try first | omega | assumption) | fail) | refine s_mv ?_ | refine s_as ?_ | refine s_bin ?_ | refine s_ld ?_ | refine s_ia ?_ | refine s_fa ?_ | refine s_fd ?_ | refine s_ix ?_ | refine s_un ?_ | refine s_op ?_) | refine WA_seq' ?_ | refine qT_WA ?_ | refine WA_region ?_ | refine WOs_nil ?_ | (refine g_c ?_; first | refine c_T ?_ | refine c_F ?_) | (refine g_gd ?_; first | refine s_yes ?_ | refine s_no ?_ | refine s_noU ?_) | refine WA_skip ?_ | refine WA_ret ?_ | refine WA_exit ?_ | refine qT_ret ?_ | refine qT_exit ?_ | refine qB_exit ?_ | refine qB_other rfl ?_ | refine qB_normal ?_ | refine qB_ret ?_ | refine WA_block ?_ | refine qT_WAn ?_ | refine WAn_step ?_ | refine qT_normal ?_))
  all_goals ((refine r_es hQ ?_; try with_reducible rfl); simp only [hm] at *; simp; omega)
def IsRoot (n r : Int) : Prop := 0 ≤ r ∧ r * r ≤ n ∧ n < (r + 1) * (r + 1)
theorem root_uniq {n r s : Int} (h : IsRoot n r) (k : IsRoot n s) : r = s := by
  obtain ⟨h1, h2, h3⟩ := h
  obtain ⟨k1, k2, k3⟩ := k
  apply Int.le_antisymm
  · apply Int.le_of_not_gt
    intro hlt
    have : (s + 1) * (s + 1) ≤ r * r := Int.mul_le_mul (by omega) (by omega) (by omega) h1
    omega
  · apply Int.le_of_not_gt
    intro hlt
    have : (r + 1) * (r + 1) ≤ s * s := Int.mul_le_mul (by omega) (by omega) (by omega) k1
    omega
theorem root_c (n r : Int) (h0 : 0 ≤ n) (h1 : n ≤ 1000000000000000000) (hr : IsRoot n r) (m : Mem) : Gives Try.prog 109 [.int .i64 n, .int .i64 2] m (.tup [.int .i64 r, .int .i64 0]) := by
  refine Gives_in Try.func109 rfl Try.ntmps109 Try.results109 (by kernel_rfl) (by simp) rfl fun Q hQ => ?_
  (repeat' (first | refine s_tp ?_ | refine s_tn ?_ | ((first | refine WOs_splitD (fun h => ?_) (fun h => ?_) | refine WOs_splitN (fun h => ?_) (fun h => ?_) | refine WDs_splitD (fun h => ?_) (fun h => ?_) | refine WDs_splitN (fun h => ?_) (fun h => ?_)) <;> first | (exfalso; omega) | skip) | (refine g_op ?_; first | (refine g_call ?_; refine g_args ?_; first | (refine s_fn (nwithin_c _ _ _ _) ?_ <;> try first | omega | assumption) | (refine s_fn (pow2_c _ _ ?_ ?_ ?_ ?_ _) ?_ <;> try first | omega | assumption) | fail) | refine s_mv ?_ | refine s_as ?_ | refine s_bin ?_ | refine s_ld ?_ | refine s_ia ?_ | refine s_fa ?_ | refine s_fd ?_ | refine s_ix ?_ | refine s_un ?_ | refine s_op ?_) | refine WA_seq' ?_ | refine qT_WA ?_ | refine WA_region ?_ | refine WOs_nil ?_ | (refine g_c ?_; first | refine c_T ?_ | refine c_F ?_) | (refine g_gd ?_; first | refine s_yes ?_ | refine s_no ?_ | refine s_noU ?_) | refine WA_skip ?_ | refine WA_ret ?_ | refine WA_exit ?_ | refine qT_ret ?_ | refine qT_exit ?_ | refine qB_exit ?_ | refine qB_other rfl ?_ | refine qB_normal ?_ | refine qB_ret ?_ | refine WA_block ?_ | refine qT_WAn ?_ | refine WAn_step ?_ | refine qT_normal ?_))
  refine WA_while (σ := Int × Int) [0, 1, 6, 7] (fun s => [.int .i64 n, .int .i64 2, .int .i64 s.1, .int .i64 s.2]) (fun _ => lend m ++ []) (fun s => 0 ≤ s.1 ∧ s.1 ≤ s.2 ∧ s.2 ≤ n ∧ s.1 * s.1 ≤ n ∧ n < (s.2 + 1) * (s.2 + 1)) (fun s => (s.2 - s.1).natAbs) (0, n) ?_ tv_ rfl ?_
  · have : (n + 1) * (1 : Int) ≤ (n + 1) * (n + 1) := Int.mul_le_mul_of_nonneg_left (by omega) (by omega)
    refine ⟨?_, ?_, ?_, ?_, ?_⟩ <;> dsimp only <;> omega
  rintro ⟨lo, hi⟩ ⟨i1, i2, i3, i4, i5⟩ L hL
  dsimp only at i1 i2 i3 i4 i5
  simp only [zipT]
  (repeat' (first | refine s_tp ?_ | refine s_tn ?_ | ((first | refine WOs_splitD (fun h => ?_) (fun h => ?_) | refine WOs_splitN (fun h => ?_) (fun h => ?_) | refine WDs_splitD (fun h => ?_) (fun h => ?_) | refine WDs_splitN (fun h => ?_) (fun h => ?_)) <;> first | (exfalso; omega) | skip) | (refine g_op ?_; first | (refine g_call ?_; refine g_args ?_; first | (refine s_fn (nwithin_c _ _ _ _) ?_ <;> try first | omega | assumption) | (refine s_fn (pow2_c _ _ ?_ ?_ ?_ ?_ _) ?_ <;> try first | omega | assumption) | fail) | refine s_mv ?_ | refine s_as ?_ | refine s_bin ?_ | refine s_ld ?_ | refine s_ia ?_ | refine s_fa ?_ | refine s_fd ?_ | refine s_ix ?_ | refine s_un ?_ | refine s_op ?_) | refine WA_seq' ?_ | refine qT_WA ?_ | refine WA_region ?_ | refine WOs_nil ?_ | (refine g_c ?_; first | refine c_T ?_ | refine c_F ?_) | (refine g_gd ?_; first | refine s_yes ?_ | refine s_no ?_ | refine s_noU ?_) | refine WA_skip ?_ | refine WA_ret ?_ | refine WA_exit ?_ | refine qT_ret ?_ | refine qT_exit ?_ | refine qB_exit ?_ | refine qB_other rfl ?_ | refine qB_normal ?_ | refine qB_ret ?_ | refine WA_block ?_ | refine qT_WAn ?_ | refine WAn_step ?_ | refine qT_normal ?_))
  · refine next_ hL (hi - (hi - lo) / 2, hi) ⟨?_, ?_, ?_, ?_, ?_⟩ ?_ <;> dsimp only <;> omega
  · have e : hi - (hi - lo) / 2 - 1 + 1 = hi - (hi - lo) / 2 := by omega
    refine next_ hL (lo, hi - (hi - lo) / 2 - 1) ⟨?_, ?_, ?_, ?_, ?_⟩ ?_ <;> dsimp only <;> (try rw [e]) <;> omega
  · (refine r_es hQ ?_; try with_reducible rfl)
    have : lo = hi := by omega
    subst this
    rw [root_uniq hr ⟨i1, i4, i5⟩]
end Go.Proofs.Yteogokmbedmkjaa
