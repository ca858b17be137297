/- contracts: weights and windows of the reference -/
import Derived.Test.YtmigenmibohnkaaGreatC53
set_option linter.unusedSimpArgs false
set_option linter.unusedVariables false
namespace Go.Proofs.YtmigenmibohnkaaGreat
open Go.RowKit
attribute [local irreducible] WA WOs WDs WAn qThen qBlock tput
set_option maxHeartbeats 1000000
set_option maxRecDepth 20000
set_option linter.unusedSimpArgs false
set_option linter.unusedVariables false
attribute [local irreducible] smB cut sm
def wtV (a : ActR) (x : Rat) : V := if (balRA a x).2 = true ∧ (frcRA a x).2 = true then .tup [.agg [.int .i64 ((balRA a x).1 + (frcRA a x).1).num, .int .i64 (((balRA a x).1 + (frcRA a x).1).den : Int), .int .i64 ((balRA a x).1 - (frcRA a x).1).num, .int .i64 (((balRA a x).1 - (frcRA a x).1).den : Int)], .bool (smB ((balRA a x).1 + (frcRA a x).1) && smB ((balRA a x).1 - (frcRA a x).1))] else .tup [.agg [.int .i64 0, .int .i64 0, .int .i64 0, .int .i64 0], .bool false]
theorem balRA_sm {a : ActR} {x : Rat} (h : (balRA a x).2 = true) : sm (balRA a x).1 := by
  unfold balRA at *
  exact ldR_sm (fun h => balR_sm h) h

theorem rweights_c (a : ActR) (ha : Lt a) (h : acErr a = 0) (x : Rat) (hx : sm x) (m : Mem) : Gives Tryz.prog 54 [.agg (actV a), .agg [.int .i64 (Rat.num (x)), .int .i64 ((Rat.den (x) : Nat) : Int)]] m (wtV a x) := by
  have hla := prtsV_length (l := a.parts)
  have hb := fun m => rbalance_c a ha h x hx m
  have hf := fun m => rfriction_c a ha h x hx m
  have hsb := balRA_sm (a := a) (x := x)
  have hsf := frcR_sm (a := a) (x := x) (i := a.parts.length)
  unfold wtV
  unfold frcRA at *
  generalize balRA a x = s at *
  generalize frcR a x a.parts.length = r at *
  obtain ⟨p, b⟩ := s
  obtain ⟨q, c⟩ := r
  dsimp only at *
  unfold actV at hb hf ⊢
  by_cases hg : b = true ∧ c = true
  · obtain ⟨rfl, rfl⟩ := hg
    rw [if_pos ⟨rfl, rfl⟩]
    have h1 := fun m => radd_c p q (hsb rfl) (hsf rfl) m
    have h2 := fun m => rsub_c p q (hsb rfl) (hsf rfl) m
    generalize smB (p + q) = b1 at *
    generalize smB (p - q) = b2 at *
    cases b1 <;> cases b2
    all_goals
      refine Gives_in Tryz.func54 rfl Tryz.ntmps54 Tryz.results54 (by kernel_rfl) (by simp) rfl fun Q hQ => ?_
      (have FX := hla; repeat' (first | (refine sx ?_ ?_ <;> intro h <;> first | (exfalso; omega) | skip) | (refine g_op ?_; refine g_call ?_; refine g_args ?_; (first | refine s_fn (hb _) ?_ | refine s_fn (hf _) ?_ | refine s_fn (h1 _) ?_ | refine s_fn (h2 _) ?_) <;> try first | omega | assumption) | refine ny ?_ | refine WA_block ?_))
      all_goals (try (exfalso; omega))
      all_goals (refine r_es hQ ?_; try with_reducible rfl)
      all_goals rfl
  · rw [if_neg hg]
    cases b <;> cases c
    all_goals try exact absurd ⟨rfl, rfl⟩ hg
    all_goals
      refine Gives_in Tryz.func54 rfl Tryz.ntmps54 Tryz.results54 (by kernel_rfl) (by simp) rfl fun Q hQ => ?_
      (have FX := hla; repeat' (first | (refine sx ?_ ?_ <;> intro h <;> first | (exfalso; omega) | skip) | (refine g_op ?_; refine g_call ?_; refine g_args ?_; (first | refine s_fn (hb _) ?_ | refine s_fn (hf _) ?_) <;> try first | omega | assumption) | refine ny ?_ | refine WA_block ?_))
      all_goals (try (exfalso; omega))
      all_goals (refine r_es hQ ?_; try with_reducible rfl)

theorem rcheckwin_c (dn up : Int) (m : Mem) : Gives Tryz.prog 52 [.agg [.int .i64 dn, .int .i64 up]] m (.int .i64 (winErr dn up)) := by
  have hla : winErr dn up = if ¬ (-100000 ≤ dn ∧ dn ≤ 100000) ∨ ¬ (-100000 ≤ up ∧ up ≤ 100000) then 2 else 0 := rfl
  rw [hla]
  have hla := True.intro
  refine Gives_in Tryz.func52 rfl Tryz.ntmps52 Tryz.results52 (by kernel_rfl) (by simp) rfl fun Q hQ => ?_
  (have FX := hla; repeat' (first | (refine sx ?_ ?_ <;> intro h <;> first | (exfalso; omega) | skip) | (refine g_op ?_; refine g_call ?_; refine g_args ?_; (first | refine s_fn (bwithin_c _ _ _ _) ?_) <;> try first | omega | assumption) | refine ny ?_ | refine WA_block ?_))
  all_goals (try (exfalso; omega))
  all_goals (refine r_es hQ ?_; try with_reducible rfl)
  all_goals (refine congrArg (V.int .i64) ?_; (repeat (first | rw [if_pos (by first | assumption | omega | grind)] | rw [if_neg (by first | assumption | omega | grind)])))
end Go.Proofs.YtmigenmibohnkaaGreat
