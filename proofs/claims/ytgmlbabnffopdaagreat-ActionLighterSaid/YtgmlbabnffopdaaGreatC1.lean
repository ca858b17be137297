/- contracts: numbers -/
import Derived.Test.YtgmlbabnffopdaaGreatYC
import Derived.Test.YtgmlbabnffopdaaGreatYA
set_option linter.unusedSimpArgs false
set_option linter.unusedVariables false
namespace Go.Proofs.YtgmlbabnffopdaaGreat
open Go.RowKit
attribute [local irreducible] WA WOs WDs WAn qThen qBlock tput
set_option maxHeartbeats 1000000
set_option maxRecDepth 20000
set_option linter.unusedSimpArgs false
set_option linter.unusedVariables false
def cmpI (x y : Int) : Int := if x < y then -1 else if y < x then 1 else 0
theorem cmpI_lt {x y : Int} : cmpI x y < 0 ↔ x < y := by unfold cmpI; split <;> (try split) <;> omega
theorem awithin_c (n lo hi : Int) (m : Mem) : Gives Tryz.prog 56 [.int .i64 n, .int .i64 lo, .int .i64 hi] m (.bool (decide (lo ≤ n ∧ n ≤ hi))) := by
  refine Gives_in Tryz.func56 rfl Tryz.ntmps56 Tryz.results56 (by kernel_rfl) (by simp) rfl fun Q hQ => ?_
  (repeat' (first | (refine sx ?_ ?_ <;> intro h <;> first | (exfalso; omega) | skip) | refine ny ?_ | refine WA_block ?_))
  all_goals ((refine r_es hQ ?_; try with_reducible rfl); simp only [V.bool.injEq, decide_eq_true_eq, decide_eq_false_iff_not, eq_comm]; first | omega | (simp; omega) | simp)

theorem bwithin_c (n lo hi : Int) (m : Mem) : Gives Tryz.prog 21 [.int .i64 n, .int .i64 lo, .int .i64 hi] m (.bool (decide (lo ≤ n ∧ n ≤ hi))) := by
  refine Gives_in Tryz.func21 rfl Tryz.ntmps21 Tryz.results21 (by kernel_rfl) (by simp) rfl fun Q hQ => ?_
  (repeat' (first | (refine sx ?_ ?_ <;> intro h <;> first | (exfalso; omega) | skip) | refine ny ?_ | refine WA_block ?_))
  all_goals ((refine r_es hQ ?_; try with_reducible rfl); simp only [V.bool.injEq, decide_eq_true_eq, decide_eq_false_iff_not, eq_comm]; first | omega | (simp; omega) | simp)

theorem awhole_c (n : Int) (m : Mem) : Gives Tryz.prog 43 [.int .i64 n] m (.agg [.int .i64 n, .int .i64 1]) := by
  refine Gives_in Tryz.func43 rfl Tryz.ntmps43 Tryz.results43 (by kernel_rfl) (by simp) rfl fun Q hQ => ?_
  (repeat' (first | (refine sx ?_ ?_ <;> intro h <;> first | (exfalso; omega) | skip) | refine ny ?_ | refine WA_block ?_))
  all_goals (refine r_es hQ ?_; try with_reducible rfl)

theorem cnan_c (n : Int) (m : Mem) : Gives Tryz.prog 82 [.int .i64 n] m (.bool false) := by
  refine Gives_in Tryz.func82 rfl Tryz.ntmps82 Tryz.results82 (by kernel_rfl) (by simp) rfl fun Q hQ => ?_
  (repeat' (first | (refine sx ?_ ?_ <;> intro h <;> first | (exfalso; omega) | skip) | refine ny ?_ | refine WA_block ?_))
  all_goals ((refine r_es hQ ?_; try with_reducible rfl); try simp)

theorem ccompare_c (x y : Int) (m : Mem) : Gives Tryz.prog 66 [.int .i64 x, .int .i64 y] m (.int .i64 (cmpI x y)) := by
  refine Gives_in Tryz.func66 rfl Tryz.ntmps66 Tryz.results66 (by kernel_rfl) (by simp) rfl fun Q hQ => ?_
  (repeat' (first | (refine sx ?_ ?_ <;> intro h <;> first | (exfalso; omega) | skip) | (refine g_op ?_; refine g_call ?_; refine g_args ?_; (first | refine s_fn (cnan_c _ _) ?_) <;> try first | omega | assumption) | refine ny ?_ | refine WA_block ?_))
  all_goals ((refine r_es hQ ?_; try with_reducible rfl); unfold cmpI; simp only [V.int.injEq, true_and]; repeat (first | rw [if_pos (by assumption)] | rw [if_neg (by assumption)]))
theorem uC1_67_2 {N : Nat} {l : List Oper} {t : List (Nat × V)} {m : Mem} {Q : Exit → List (Nat × V) → Mem → Prop} (h : RgN Tryz.prog N l t m Q (fun _ => .p) [.one 0, .one 1, .one 2, .one 3, .one 4, .one 5]) : WA Tryz.prog N (.region 2 l.toArray true) t m Q := d_rgN h
theorem agcd_c (a b : Int) (h1 : -9223372036854775807 ≤ a) (h2 : a ≤ 9223372036854775807) (h3 : -9223372036854775807 ≤ b) (h4 : b ≤ 9223372036854775807) (m : Mem) : Gives Tryz.prog 67 [.int .i64 a, .int .i64 b] m (.int .i64 (Int.gcd a b)) := by
  refine Gives_in Tryz.func67 rfl Tryz.ntmps67 Tryz.results67 (by kernel_rfl) (by simp) rfl fun Q hQ => ?_
  (repeat' (first | (refine sx ?_ ?_ <;> intro h <;> first | (exfalso; omega) | skip) | refine ny ?_ | refine WA_block ?_ | (refine uC1_67_2 ?_; refine ⟨by kernel_rfl, ?_⟩)))
  refine WA_while (σ := Int × Int) [0, 1] (fun s => [.int .i64 s.1, .int .i64 s.2]) (fun _ => lend m ++ []) (fun s => (-9223372036854775807 ≤ s.1 ∧ s.1 ≤ 9223372036854775807) ∧ (-9223372036854775807 ≤ s.2 ∧ s.2 ≤ 9223372036854775807) ∧ Int.gcd s.1 s.2 = Int.gcd a b) (fun s => s.2.natAbs) (a, b) ⟨⟨h1, h2⟩, ⟨h3, h4⟩, rfl⟩ tv_ rfl ?_
  rintro ⟨p, q⟩ ⟨⟨hp1, hp2⟩, ⟨hq1, hq2⟩, hg⟩ L hL
  dsimp only at hp1 hp2 hq1 hq2 hg
  simp only [zipT]
  (repeat' (first | (refine sx ?_ ?_ <;> intro h <;> first | (exfalso; omega) | skip) | refine ny ?_ | refine WA_block ?_ | (refine uC1_67_2 ?_; refine ⟨by kernel_rfl, ?_⟩)))
  · have hm := tmod_bd p q ⟨hp1, hp2⟩ (by assumption)
    exact next_ hL (q, p.tmod q) ⟨⟨hq1, hq2⟩, hm.1, (gcd_tmod p q).trans hg⟩ hm.2
  all_goals ((refine r_es hQ ?_; try with_reducible rfl); have hq0 : q = 0 := by omega)
  all_goals (subst hq0; rw [← hg]; simp; try omega)
end Go.Proofs.YtgmlbabnffopdaaGreat
