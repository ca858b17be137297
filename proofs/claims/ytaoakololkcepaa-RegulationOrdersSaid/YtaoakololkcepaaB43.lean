/- contracts: short plans; plans copied -/
import Derived.Test.YtaoakololkcepaaBP
import Derived.Test.YtaoakololkcepaaB31
set_option linter.unusedSimpArgs false
set_option linter.unusedVariables false
namespace Go.Proofs.Ytaoakololkcepaa
open Go.RowKit
attribute [local irreducible] WA WOs WDs WAn qThen qBlock tput
set_option maxHeartbeats 1000000
set_option maxRecDepth 20000
set_option linter.unusedSimpArgs false
set_option linter.unusedVariables false
set_option maxHeartbeats 4000000
def brief (l : List (List StR)) : Prop := ¬ (10 < l.length ∧ l.length ≤ 50 ∨ 53 < l.length) ∧ ∀ i, i < l.length → (l.getD i []).length ≤ 15
instance (l : List (List StR)) : Decidable (brief l) := inferInstanceAs (Decidable (_ ∧ _))

theorem lbrief_c (l : List (List StR)) (m : Mem) : Gives Try.prog 45 [.lst (plV l)] m (.bool (decide (brief l))) := by
  have hlp := plV_length (l := l)
  have hga := hlp
  have hls := hlp
  by_cases hl : 10 < l.length ∧ l.length ≤ 50 ∨ 53 < l.length
  · rw [decide_eq_false (fun h => h.1 hl)]
    refine Gives_in Try.func45 rfl Try.ntmps45 Try.results45 (by kernel_rfl) (by simp) rfl fun Q hQ => ?_
    (have FX := And.intro hlp (And.intro hga hls); repeat' (first | (refine sx ?_ ?_ <;> intro h <;> first | (exfalso; omega) | skip) | refine ny ?_ | refine WA_block ?_))
    all_goals (try (exfalso; omega))
    all_goals ((refine r_es hQ ?_; try with_reducible rfl))
  · refine Gives_in Try.func45 rfl Try.ntmps45 Try.results45 (by kernel_rfl) (by simp) rfl fun Q hQ => ?_
    (have FX := And.intro hlp (And.intro hga hls); repeat' (first | (refine sx ?_ ?_ <;> intro h <;> first | (exfalso; omega) | skip) | refine ny ?_ | refine WA_block ?_))
    all_goals (try (exfalso; omega))
    all_goals
      refine WA_while (σ := Nat) [0, 3] (fun i => [.lst (plV l), .int .i64 i]) (fun _ => lend m ++ []) (fun i => i ≤ l.length ∧ ∀ j, j < i → (l.getD j []).length ≤ 15) (fun i => l.length - i) 0 ⟨Nat.zero_le _, fun j h => absurd h (Nat.not_lt_zero _)⟩ tv_ rfl ?_
      rintro i ⟨hi1, hi2⟩ K hK
      simp only [zipT]
      clear FX hga hls
      rcases Nat.lt_or_ge i l.length with hi | hi
      · have hga := plV_get hi
        have hls := stsV_length (l := l.getD i [])
        have hbad : ¬ (l.getD i []).length ≤ 15 → decide (brief l) = false := fun h => decide_eq_false fun hh => h (hh.2 i hi)
        have hsu := ext_all (p := fun j => (l.getD j []).length ≤ 15) hi2
        generalize l.getD i [] = p at *
        (have FX := And.intro hlp (And.intro hga hls); repeat' (first | (refine sx ?_ ?_ <;> intro h <;> first | (exfalso; omega) | skip) | refine ny ?_ | refine WA_block ?_))
        all_goals (try (exfalso; omega))
        all_goals try
          ((refine r_es hQ ?_; try with_reducible rfl)
           exact congrArg V.bool (hbad (by omega)).symm)
        all_goals (refine next_ hK (i + 1) ⟨hi, hsu (by omega)⟩ (by omega))
      · obtain rfl : i = l.length := by omega
        have hga := hlp
        have hls := hlp
        (have FX := And.intro hlp (And.intro hga hls); repeat' (first | (refine sx ?_ ?_ <;> intro h <;> first | (exfalso; omega) | skip) | refine ny ?_ | refine WA_block ?_))
        all_goals (try (exfalso; omega))
        all_goals ((refine r_es hQ ?_; try with_reducible rfl))
        all_goals exact congrArg V.bool (decide_eq_true ⟨hl, hi2⟩).symm
end Go.Proofs.Ytaoakololkcepaa
