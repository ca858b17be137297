/- contracts: shallow benches, comparisons of lists, steps -/
import Derived.Test.YtaoakololkcepaaB30
set_option linter.unusedSimpArgs false
set_option linter.unusedVariables false
namespace Go.Proofs.Ytaoakololkcepaa
open Go.RowKit
attribute [local irreducible] WA WOs WDs WAn qThen qBlock tput
set_option maxHeartbeats 1000000
set_option maxRecDepth 20000
set_option linter.unusedSimpArgs false
set_option linter.unusedVariables false
theorem uB31_23_6 {N : Nat} {l : List Oper} {t : List (Nat × V)} {m : Mem} {Q : Exit → List (Nat × V) → Mem → Prop} (h : RgN Try.prog N l t m Q (fun i => if i == 3 || i == 7 then .q else .p) [.one 0, .one 1, .one 2, .one 3, .one 4, .one 5, .one 6, .one 7, .one 8]) : WA Try.prog N (.region 6 l.toArray true) t m Q := d_rgN h
theorem bints_c (l k : List Int) (hl : l.length ≤ 100000) (m : Mem) : Gives Try.prog 23 [.lst (nsV l), .lst (nsV k)] m (.bool (decide (l = k))) := by
  have hln := nsV_length (l := l)
  have hlk := nsV_length (l := k)
  have hga := hln
  have hgb := hln
  refine Gives_in Try.func23 rfl Try.ntmps23 Try.results23 (by kernel_rfl) (by simp) rfl fun Q hQ => ?_
  (have FX := And.intro hln (And.intro hlk (And.intro hga hgb)); repeat' (first | (refine sx ?_ ?_ <;> intro h <;> first | (exfalso; omega) | skip) | refine ny ?_ | refine WA_block ?_ | (refine uB31_23_6 ?_; refine ⟨by kernel_rfl, ?_⟩)))
  all_goals (try (exfalso; omega))
  all_goals try
    ((refine r_es hQ ?_; try with_reducible rfl)
     exact congrArg V.bool (decide_eq_false (fun e => by subst e; omega)).symm)
  have hlb : k.length = l.length := by omega
  refine WA_while (σ := Nat) [0, 1, 5] (fun i => [.lst (nsV l), .lst (nsV k), .int .i64 i]) (fun _ => lend m ++ []) (fun i => i ≤ l.length ∧ ∀ j, j < i → l.getD j 0 = k.getD j 0) (fun i => l.length - i) 0 ⟨Nat.zero_le _, fun j h => absurd h (Nat.not_lt_zero _)⟩ tv_ rfl ?_
  rintro i ⟨hi1, hi2⟩ K hK
  simp only [zipT]
  clear FX hga hgb
  rcases Nat.lt_or_ge i l.length with hi | hi
  · have hga := nsV_get (l := l) (i := i) hi
    have hgb := nsV_get (l := k) (i := i) (by omega)
    have hbad : ¬ l.getD i 0 = k.getD i 0 → decide (l = k) = false := fun h => decide_eq_false fun e => h (by rw [e])
    have hsu := ext_all hi2
    generalize l.getD i 0 = x at *
    generalize k.getD i 0 = y at *
    (have FX := And.intro hln (And.intro hlk (And.intro hga hgb)); repeat' (first | (refine sx ?_ ?_ <;> intro h <;> first | (exfalso; omega) | skip) | refine ny ?_ | refine WA_block ?_ | (refine uB31_23_6 ?_; refine ⟨by kernel_rfl, ?_⟩)))
    all_goals (try (exfalso; omega))
    all_goals try
      ((refine r_es hQ ?_; try with_reducible rfl)
       exact congrArg V.bool (hbad (by omega)).symm)
    all_goals (refine next_ hK (i + 1) ⟨hi, hsu (by omega)⟩ (by omega))
  · obtain rfl : i = l.length := by omega
    have hga := hln
    have hgb := hln
    have he : l = k := List.ext_getElem hlb.symm fun j h1 h2 => by
      have := hi2 j h1
      rwa [List.getD_eq_getElem?_getD, List.getElem?_eq_getElem h1, List.getD_eq_getElem?_getD, List.getElem?_eq_getElem h2] at this
    (have FX := And.intro hln (And.intro hlk (And.intro hga hgb)); repeat' (first | (refine sx ?_ ?_ <;> intro h <;> first | (exfalso; omega) | skip) | refine ny ?_ | refine WA_block ?_ | (refine uB31_23_6 ?_; refine ⟨by kernel_rfl, ?_⟩)))
    all_goals (try (exfalso; omega))
    all_goals ((refine r_es hQ ?_; try with_reducible rfl))
    all_goals exact congrArg V.bool (decide_eq_true he).symm
end Go.Proofs.Ytaoakololkcepaa
