/- contracts: fractions -/
import Derived.Test.YtgmlbabnffopdaaGreatC1
set_option linter.unusedSimpArgs false
set_option linter.unusedVariables false
namespace Go.Proofs.YtgmlbabnffopdaaGreat
open Go.RowKit
attribute [local irreducible] WA WOs WDs WAn qThen qBlock tput
set_option maxHeartbeats 1000000
set_option maxRecDepth 20000
set_option linter.unusedSimpArgs false
set_option linter.unusedVariables false
abbrev B64 (n : Int) : Prop := -9223372036854775807 ≤ n ∧ n ≤ 9223372036854775807

theorem acheck_c (n d : Int) (h1 : B64 n) (h2 : B64 d) (m : Mem) : Gives Tryz.prog 41 [.agg [.int .i64 n, .int .i64 d]] m (.int .i64 (frErr n d)) := by
  refine Gives_in Tryz.func41 rfl Tryz.ntmps41 Tryz.results41 (by kernel_rfl) (by simp) rfl fun Q hQ => ?_
  (repeat' (first | (refine sx ?_ ?_ <;> intro h <;> first | (exfalso; omega) | skip) | (refine g_op ?_; refine g_call ?_; refine g_args ?_; (first | refine s_fn (agcd_c _ _ ?_ ?_ ?_ ?_ _) ?_ | refine s_fn (awithin_c _ _ _ _) ?_) <;> try first | omega | assumption) | refine ny ?_ | refine WA_block ?_))
  all_goals ((refine r_es hQ ?_; try with_reducible rfl))
  all_goals (unfold frErr; simp only [V.int.injEq, true_and])
  all_goals first
    | (rw [if_pos (by omega)]; done)
    | (rw [if_neg (by omega)]; first | (rw [if_pos (by omega)]; done) | (rw [if_neg (by omega)]; done))
    | skip

theorem acompare_r (a b c d : Int) (h1 : -1000000000000000000 ≤ a * d ∧ a * d ≤ 1000000000000000000) (h2 : -1000000000000000000 ≤ c * b ∧ c * b ≤ 1000000000000000000) (m : Mem) : Gives Tryz.prog 42 [.agg [.int .i64 a, .int .i64 b], .agg [.int .i64 c, .int .i64 d]] m (.int .i64 (cmpI (a * d) (c * b))) := by
  refine Gives_in Tryz.func42 rfl Tryz.ntmps42 Tryz.results42 (by kernel_rfl) (by simp) rfl fun Q hQ => ?_
  (repeat' (first | (refine sx ?_ ?_ <;> intro h <;> first | (exfalso; omega) | skip) | (refine g_op ?_; refine g_call ?_; refine g_args ?_; (first | refine s_fn (ccompare_c _ _ _) ?_) <;> try first | omega | assumption) | refine ny ?_ | refine WA_block ?_))
  all_goals (refine r_es hQ ?_; try with_reducible rfl)
def cmpQ (p q : Rat) : Int := if p < q then -1 else if q < p then 1 else 0
theorem cmpQ_int (p q : Rat) : cmpI (p.num * q.den) (q.num * p.den) = cmpQ p q := by
  unfold cmpI cmpQ
  by_cases h1 : p < q
  · rw [if_pos h1, if_pos ((cmp_lt p q).2 h1)]
  · rw [if_neg h1, if_neg (fun h => h1 ((cmp_lt p q).1 h))]
    by_cases h2 : q < p
    · rw [if_pos h2, if_pos ((cmp_lt q p).2 h2)]
    · rw [if_neg h2, if_neg (fun h => h2 ((cmp_lt q p).1 h))]
theorem sm_prod {p q : Rat} (hp : sm p) (hq : sm q) : -1000000000000000000 ≤ p.num * (q.den : Int) ∧ p.num * (q.den : Int) ≤ 1000000000000000000 := by
  obtain ⟨a1, a2, a3⟩ := hp
  obtain ⟨b1, b2, b3⟩ := hq
  have := den_pos' q
  exact sm_mul ⟨a1, a2⟩ ⟨by omega, b3⟩
theorem acompare_c (p q : Rat) (hp : sm p) (hq : sm q) (m : Mem) : Gives Tryz.prog 42 [.agg [.int .i64 (Rat.num (p)), .int .i64 ((Rat.den (p) : Nat) : Int)], .agg [.int .i64 (Rat.num (q)), .int .i64 ((Rat.den (q) : Nat) : Int)]] m (.int .i64 (cmpQ p q)) := by
  rw [← cmpQ_int]
  exact acompare_r _ _ _ _ (sm_prod hp hq) (sm_prod hq hp) m
/-- what a fraction brought to lowest terms is bounded by -/
theorem fit_bd {n d : Int} (hd : d ≠ 0) (hn : B64 n) (hd2 : B64 d) : B64 (Rat.divInt n d).num ∧ B64 ((Rat.divInt n d).den : Int) ∧ 1 ≤ (Int.gcd n d : Int) ∧ (Int.gcd n d : Int) ≤ 9223372036854775807 := by
  have hg : 0 < (Int.gcd n d : Int) := by
    have := Int.gcd_pos_iff.2 (Or.inr hd : n ≠ 0 ∨ d ≠ 0)
    omega
  have h1 : (n.tdiv (if d < 0 then -(Int.gcd n d : Int) else Int.gcd n d)).natAbs ≤ n.natAbs := by
    rw [Int.natAbs_tdiv]; exact Nat.div_le_self _ _
  have h2 : (d.tdiv (if d < 0 then -(Int.gcd n d : Int) else Int.gcd n d)).natAbs ≤ d.natAbs := by
    rw [Int.natAbs_tdiv]; exact Nat.div_le_self _ _
  rw [fit_num hd, fit_den hd]
  have h3 : Int.gcd n d ≤ d.natAbs := Nat.le_of_dvd (by omega) (Int.gcd_dvd_natAbs_right n d)
  unfold B64 at *
  omega
end Go.Proofs.YtgmlbabnffopdaaGreat
