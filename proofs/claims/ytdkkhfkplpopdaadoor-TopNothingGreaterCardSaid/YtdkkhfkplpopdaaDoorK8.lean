/- contract: the examples of chapter 1 -/
import Derived.Test.YtdkkhfkplpopdaaDoorK7
set_option linter.unusedSimpArgs false
set_option linter.unusedVariables false
namespace Go.Proofs.YtdkkhfkplpopdaaDoor
open Go.RowKit
attribute [local irreducible] WA WOs WDs WAn qThen qBlock tput
set_option maxHeartbeats 1000000
set_option maxRecDepth 20000
set_option linter.unusedSimpArgs false
set_option linter.unusedVariables false
def exB : List BdR := [⟨0, 1, -2⟩]
theorem exB_slv (m : Mem) : Gives Tryd.prog 12 [.int .i64 2, .lst (bdV exB)] m (.tup [.lst [[.int .i64 0], [.int .i64 (-2)]], .nilsl, .int .i64 0]) := by
  have ho : okBs 2 exB := fun k hk => by
    have : k = 0 := by simp [exB] at hk; omega
    subst this
    decide
  have hm : mosts exB := fun k hk => by
    have : k = 0 := by simp [exB] at hk; omega
    subst this
    decide
  have hz : keepB exB [0, -2] := fun k hk => by
    have : k = 0 := by simp [exB] at hk; omega
    subst this
    decide
  have h := nsolve_c 2 exB (by decide) (by decide) (by decide) ho hm [0, -2] hz m
  have e : slvR exB 2 (2 - 1) = [0, -2] := by decide
  rw [e] at h
  exact h

theorem tcounts_c (m : Mem) : Gives Tryd.prog 5 [] m (.bool true) := by
  have hs := fun m => exB_slv m
  have hi := fun m => bints_c [0, -2] [0, -2] (by decide) (by decide) m
  have e1 : bdV exB = [[.int .i64 0, .int .i64 1, .int .i64 (-2)]] := rfl
  have e2 : nsV [0, -2] = [[.int .i64 0], [.int .i64 (-2)]] := rfl
  rw [e1] at hs
  rw [e2, decide_eq_true rfl] at hi
  refine Gives_in Tryd.func5 rfl Tryd.ntmps5 Tryd.results5 (by kernel_rfl) (by simp) rfl fun Q hQ => ?_
  (repeat' (first | (refine sx ?_ ?_ <;> intro h <;> first | (exfalso; omega) | skip) | (refine g_op ?_; refine g_call ?_; refine g_args ?_; (first | refine s_fn (kcomma_c _) ?_ | refine s_fn (ncomma_c _) ?_) <;> try first | omega | assumption) | refine ny ?_ | refine WA_block ?_))
  refine g_op ?_; refine g_call ?_; refine g_args ?_; refine s_fzE (B := lend m) (n := 1) (es := [[.int .i64 0, .int .i64 1, .int .i64 (-2)]]) 1 1 (hs _) ?_ (hn := rfl)
  (repeat' (first | (refine sx ?_ ?_ <;> intro h <;> first | (exfalso; omega) | skip) | (refine g_op ?_; refine g_call ?_; refine g_args ?_; (first | refine s_fn (kcomma_c _) ?_ | refine s_fn (ncomma_c _) ?_) <;> try first | omega | assumption) | refine ny ?_ | refine WA_block ?_))
  refine g_op ?_; refine g_call ?_; refine g_args ?_; refine s_fzE (B := lend m) (n := 2) (es := [[.int .i64 0], [.int .i64 (-2)]]) 2 1 (hi _) ?_ (hn := rfl)
  (repeat' (first | (refine sx ?_ ?_ <;> intro h <;> first | (exfalso; omega) | skip) | (refine g_op ?_; refine g_call ?_; refine g_args ?_; (first | refine s_fn (kcomma_c _) ?_ | refine s_fn (ncomma_c _) ?_) <;> try first | omega | assumption) | refine ny ?_ | refine WA_block ?_))
  all_goals (refine r_es hQ ?_; try with_reducible rfl)
/-- the law TopEnclosuresNest, over contracts -/
theorem rgE_0 {lo hi : Int} : rgE lo hi = 0 ↔ (-1000000000000000 ≤ lo ∧ hi ≤ 1000000000000000 ∧ lo ≤ hi) := by
  unfold rgE
  split <;> (try split) <;> omega
theorem hi_or {D num den t lo : Nat} : hiOf D num den t lo = lo ∨ hiOf D num den t lo = lo + 1 := by
  unfold hiOf
  split
  · exact .inr rfl
  · exact .inl rfl
theorem nenc_w (a b c d : Int) (t : Nat) (lo hi : Nat) (hh : hi = lo ∨ hi = lo + 1) (h : ∀ m, Gives Tryd.prog 8 [ptV a b c d, .int .i64 t] m (encR lo hi)) : ∃ u v w : Int, (∀ m, Gives Tryd.prog 8 [ptV a b c d, .int .i64 t] m (.tup [.agg [.int .i64 u, .int .i64 v], .int .i64 w])) ∧ (w = 0 ∧ u = lo ∧ v = hi ∧ (hi : Int) ≤ 1000000000000000 ∨ w = 8 ∧ u = 0 ∧ v = 0 ∧ (1000000000000000 : Int) < hi) := by
  have h0 := rgE_0 (lo := (lo : Int)) (hi := (hi : Int))
  unfold encR at h
  by_cases hc : rgE (lo : Int) (hi : Int) = 0
  · rw [if_pos hc] at h
    exact ⟨_, _, _, h, .inl ⟨rfl, rfl, rfl, (h0.1 hc).2.1⟩⟩
  · rw [if_neg hc] at h
    refine ⟨_, _, _, h, .inr ⟨rfl, rfl, rfl, ?_⟩⟩
    rcases Int.lt_or_le 1000000000000000 (hi : Int) with q | q
    · exact q
    · exact absurd (h0.2 ⟨by omega, q, by omega⟩) hc

theorem nest_w (a b c d : Int) (m n : Nat) (hm : (1 : Int) ≤ m ∧ (m : Int) ≤ 30000) (hn : (1 : Int) ≤ n ∧ (n : Int) ≤ 30000) (hmn : (0 : Int) ≤ (m : Int) * n ∧ (m : Int) * n ≤ 900000000) (hnear : isNear a b c d) (u1 v1 w1 u2 v2 w2 u3 v3 w3 u4 v4 w4 : Int)
    (ha : ∀ M, Gives Tryd.prog 8 [ptV a b c d, .int .i64 m] M (.tup [.agg [.int .i64 u1, .int .i64 v1], .int .i64 w1]))
    (hb : ∀ M, Gives Tryd.prog 8 [ptV a b c d, .int .i64 n] M (.tup [.agg [.int .i64 u2, .int .i64 v2], .int .i64 w2]))
    (hc : ∀ M, Gives Tryd.prog 8 [ptV a b c d, .int .i64 ((m : Int) * n)] M (.tup [.agg [.int .i64 u3, .int .i64 v3], .int .i64 w3]))
    (hd : ∀ M, Gives Tryd.prog 8 [ptV a b c d, .int .i64 ((m : Int) + n)] M (.tup [.agg [.int .i64 u4, .int .i64 v4], .int .i64 w4]))
    (s1 s2 e : Int) (hpl : ∀ M, Gives Tryd.prog 10 [.agg [.int .i64 u1, .int .i64 v1], .agg [.int .i64 u2, .int .i64 v2]] M (.tup [.agg [.int .i64 s1, .int .i64 s2], .int .i64 e]))
    (hfa : (-1000000000000000 ≤ u1 ∧ u1 ≤ 1000000000000000) ∧ (-1000000000000000 ≤ v1 ∧ v1 ≤ 1000000000000000))
    (hfb : w3 = 0 → w4 = 0 → (0 ≤ u1 * n ∧ u1 * n ≤ 1000000000000000) ∧ (0 ≤ v1 * n ∧ v1 * n ≤ 2000000000000000))
    (hfin : w3 = 0 → w4 = 0 → (w1 = 0 ∧ w2 = 0) ∧ (e = 0 ∨ e = 8) ∧ (e = 0 → u1 * n ≤ u3 ∧ v3 ≤ v1 * n ∧ s1 ≤ u4 ∧ v4 ≤ s2))
    (hbad : (w3 = 0 ∨ w3 = 8) ∧ (w4 = 0 ∨ w4 = 8)) (M : Mem) : Gives Tryd.prog 3 [ptV a b c d, .int .i64 m, .int .i64 n] M (.bool true) := by
  have hnr := fun m => tnear_c a b c d m
  rw [decide_eq_true hnear] at hnr
  refine Gives_in Tryd.func3 rfl Tryd.ntmps3 Tryd.results3 (by kernel_rfl) (by simp) rfl fun Q hQ => ?_
  (have FX := And.intro hmn (And.intro hfa hfb); repeat' (first | (refine sx ?_ ?_ <;> intro h <;> first | (exfalso; omega) | skip) | (refine g_op ?_; refine g_call ?_; refine g_args ?_; (first | refine s_fn (tcounts_c _) ?_ | refine s_fn (hnr _) ?_ | refine s_fn (bwithin_c _ _ _ _) ?_ | refine s_fn (ha _) ?_ | refine s_fn (hb _) ?_ | refine s_fn (hc _) ?_ | refine s_fn (hd _) ?_ | refine s_fn (babs_c _ ?_ ?_ _) ?_ | refine s_fn (hpl _) ?_) <;> try first | omega | assumption) | refine ny ?_ | refine WA_block ?_))
  all_goals (try (exfalso; omega))
  all_goals (refine r_es hQ ?_; try with_reducible rfl)
  all_goals (try (exact congrArg V.bool (decide_eq_true (by omega))))
end Go.Proofs.YtdkkhfkplpopdaaDoor
