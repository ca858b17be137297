/- contracts: the checks of an action's parts -/
import Derived.Test.YtgmlbabnffopdaaGreatYE
import Derived.Test.YtgmlbabnffopdaaGreatC16
set_option linter.unusedSimpArgs false
set_option linter.unusedVariables false
namespace Go.Proofs.YtgmlbabnffopdaaGreat
open Go.RowKit
attribute [local irreducible] WA WOs WDs WAn qThen qBlock tput
set_option maxHeartbeats 1000000
set_option maxRecDepth 20000
set_option linter.unusedSimpArgs false
set_option linter.unusedVariables false
theorem uC17_73_10 {N : Nat} {l : List Oper} {t : List (Nat × V)} {m : Mem} {Q : Exit → List (Nat × V) → Mem → Prop} (h : RgN Tryz.prog N l t m Q (fun i => if i == 5 || i == 12 then .q else .p) [.one 0, .one 1, .one 2, .one 3, .one 4, .one 5, .one 6, .one 7, .one 8, .one 9, .one 10, .one 11, .one 12, .one 13, .one 14, .one 15]) : WA Tryz.prog N (.region 10 l.toArray true) t m Q := d_rgN h
theorem acheckknees_c (l : List Rk) (m : Mem) : Gives Tryz.prog 73 [.lst (rksV l)] m (.int .i64 (knErr l)) := by
  have hla := rksV_length (l := l)
  have hga := hla
  have hgb := hla
  have hti := hla
  by_cases hn : 1 ≤ l.length ∧ l.length ≤ 12
  · refine Gives_in Tryz.func73 rfl Tryz.ntmps73 Tryz.results73 (by kernel_rfl) (by simp) rfl fun Q hQ => ?_
    (have FX := And.intro hla (And.intro hga (And.intro hgb hti)); repeat' (first | (refine sx ?_ ?_ <;> intro h <;> first | (exfalso; omega) | skip) | (refine g_op ?_; refine g_call ?_; refine g_args ?_; (first | refine s_fn (awithin_c _ _ _ _) ?_) <;> try first | omega | assumption) | refine ny ?_ | refine WA_block ?_ | (refine uC17_73_10 ?_; refine ⟨by kernel_rfl, ?_⟩) | ((first | refine grp_cons (fun _ => awithin_c _ _ _ _) ?_) <;> try first | omega | assumption) | (refine g_d ?_; refine d_args ?_; (first | refine d_fn (awithin_c _ _ _ _) ?_ | refine d_fnQ (fun _ => awithin_c _ _ _ _) ?_) <;> try first | omega | assumption) | (refine g_d ?_; (first | refine d_fnY (awithin_c _ _ _ _) ?_) <;> try first | omega | assumption)))
    all_goals (try (exfalso; omega))
    refine WA_whileK (σ := Nat) [0, 9, 10, 11] (fun i => [.lst (rksV l), .lst (rksV l), .int .i64 l.length, .int .i64 i]) (fun _ => []) 0 (fun i => i ≤ l.length ∧ ∀ j, j < i → knErrAt l j = 0) (fun i => l.length - i) 0 ⟨Nat.zero_le _, fun j h => absurd h (Nat.not_lt_zero _)⟩ tv_ rfl (fun _ => rfl) (by intro s s' _ _; simp [conB, conS, V.keeps, V.plain, Blk.flat, flatL, plainL, V.flat]) (by intro s s' _ _; simp [conB, conS, V.keeps, V.plain, Blk.flat, flatL, plainL, V.flat]) ?_
    rintro i ⟨hi1, hi2⟩ K hK
    simp only [zipT]
    clear FX hga hgb hti
    rcases Nat.lt_or_ge i l.length with hi | hi
    · have hga := rksV_get hi
      have hgb := rksV_get (l := l) (i := i - 1) (by omega)
      have hti : ((i : Int) - 1).toNat = i - 1 := by omega
      obtain ⟨⟨⟨a, b⟩, ⟨c, d⟩⟩, hx⟩ : ∃ x, l.getD i rk0 = x := ⟨_, rfl⟩
      obtain ⟨⟨⟨u, u2⟩, ⟨v, v2⟩⟩, hy⟩ : ∃ x, l.getD (i - 1) rk0 = x := ⟨_, rfl⟩
      rw [hx] at hga
      rw [hy] at hgb
      dsimp only [rkV] at hga hgb
      have hat : knErrAt l i = if b ≠ 1 ∨ d ≠ 1 then 3 else if ¬ (-10000 ≤ a ∧ a ≤ 10000) ∨ ¬ (-10000 ≤ c ∧ c ≤ 10000) then 2 else if 0 < i ∧ a ≤ u then 9 else 0 := by unfold knErrAt; rw [hx, hy]
      (have FX := And.intro hla (And.intro hga (And.intro hgb hti)); repeat' (first | (refine sx ?_ ?_ <;> intro h <;> first | (exfalso; omega) | skip) | (refine g_op ?_; refine g_call ?_; refine g_args ?_; (first | refine s_fn (awithin_c _ _ _ _) ?_) <;> try first | omega | assumption) | refine ny ?_ | refine WA_block ?_ | (refine uC17_73_10 ?_; refine ⟨by kernel_rfl, ?_⟩) | ((first | refine grp_cons (fun _ => awithin_c _ _ _ _) ?_) <;> try first | omega | assumption) | (refine g_d ?_; refine d_args ?_; (first | refine d_fn (awithin_c _ _ _ _) ?_ | refine d_fnQ (fun _ => awithin_c _ _ _ _) ?_) <;> try first | omega | assumption) | (refine g_d ?_; (first | refine d_fnY (awithin_c _ _ _ _) ?_) <;> try first | omega | assumption)))
      all_goals (try (exfalso; omega))
      all_goals try
        ((refine r_es hQ ?_; try with_reducible rfl)
         exact congrArg (V.int .i64) (knErr_first hn hi hi2 (by rw [hat]; (repeat (first | rw [if_pos (by first | assumption | omega | grind)] | rw [if_neg (by first | assumption | omega | grind)]))) (by decide)).symm)
      all_goals (refine nextL_ hK (i + 1) ⟨hi, ext_zero hi2 (by rw [hat]; (repeat (first | rw [if_pos (by first | assumption | omega | grind)] | rw [if_neg (by first | assumption | omega | grind)])))⟩ (by omega))
    · have hie : i = l.length := by omega
      subst hie
      have hga := hla
      have hgb := hla
      have hti := hla
      (have FX := And.intro hla (And.intro hga (And.intro hgb hti)); repeat' (first | (refine sx ?_ ?_ <;> intro h <;> first | (exfalso; omega) | skip) | (refine g_op ?_; refine g_call ?_; refine g_args ?_; (first | refine s_fn (awithin_c _ _ _ _) ?_) <;> try first | omega | assumption) | refine ny ?_ | refine WA_block ?_ | (refine uC17_73_10 ?_; refine ⟨by kernel_rfl, ?_⟩) | ((first | refine grp_cons (fun _ => awithin_c _ _ _ _) ?_) <;> try first | omega | assumption) | (refine g_d ?_; refine d_args ?_; (first | refine d_fn (awithin_c _ _ _ _) ?_ | refine d_fnQ (fun _ => awithin_c _ _ _ _) ?_) <;> try first | omega | assumption) | (refine g_d ?_; (first | refine d_fnY (awithin_c _ _ _ _) ?_) <;> try first | omega | assumption)))
      all_goals (try (exfalso; omega))
      all_goals ((refine r_es hQ ?_; try with_reducible rfl))
      all_goals (exact congrArg (V.int .i64) (knErr_none hn hi2).symm)
  · have h10 : knErr l = 10 := by unfold knErr; rw [if_pos hn]
    refine Gives_in Tryz.func73 rfl Tryz.ntmps73 Tryz.results73 (by kernel_rfl) (by simp) rfl fun Q hQ => ?_
    (have FX := And.intro hla (And.intro hga (And.intro hgb hti)); repeat' (first | (refine sx ?_ ?_ <;> intro h <;> first | (exfalso; omega) | skip) | (refine g_op ?_; refine g_call ?_; refine g_args ?_; (first | refine s_fn (awithin_c _ _ _ _) ?_) <;> try first | omega | assumption) | refine ny ?_ | refine WA_block ?_ | (refine uC17_73_10 ?_; refine ⟨by kernel_rfl, ?_⟩) | ((first | refine grp_cons (fun _ => awithin_c _ _ _ _) ?_) <;> try first | omega | assumption) | (refine g_d ?_; refine d_args ?_; (first | refine d_fn (awithin_c _ _ _ _) ?_ | refine d_fnQ (fun _ => awithin_c _ _ _ _) ?_) <;> try first | omega | assumption) | (refine g_d ?_; (first | refine d_fnY (awithin_c _ _ _ _) ?_) <;> try first | omega | assumption)))
    all_goals (try (exfalso; omega))
    all_goals ((refine r_es hQ ?_; try with_reducible rfl))
    all_goals (exact congrArg (V.int .i64) h10.symm)
theorem uC17_38_11 {N : Nat} {l : List Oper} {t : List (Nat × V)} {m : Mem} {Q : Exit → List (Nat × V) → Mem → Prop} (h : RgN Tryz.prog N l t m Q (fun i => if i == 8 || i == 15 then .q else .p) [.one 0, .one 1, .one 2, .one 3, .one 4, .one 5, .one 6, .one 7, .one 8, .one 9, .one 10, .one 11, .one 12, .one 13, .one 14, .one 15, .one 16, .one 17]) : WA Tryz.prog N (.region 11 l.toArray true) t m Q := d_rgN h
theorem rcheckwhole_c (l : List Rk) (m : Mem) : Gives Tryz.prog 38 [.agg [.lst (rksV l)]] m (.int .i64 (knErr l)) := by
  have hla := rksV_length (l := l)
  have hga := hla
  have hgb := hla
  have hti := hla
  by_cases hn : 1 ≤ l.length ∧ l.length ≤ 12
  · refine Gives_in Tryz.func38 rfl Tryz.ntmps38 Tryz.results38 (by kernel_rfl) (by simp) rfl fun Q hQ => ?_
    (have FX := And.intro hla (And.intro hga (And.intro hgb hti)); repeat' (first | (refine sx ?_ ?_ <;> intro h <;> first | (exfalso; omega) | skip) | (refine g_op ?_; refine g_call ?_; refine g_args ?_; (first | refine s_fn (bwithin_c _ _ _ _) ?_) <;> try first | omega | assumption) | refine ny ?_ | refine WA_block ?_ | (refine uC17_38_11 ?_; refine ⟨by kernel_rfl, ?_⟩) | ((first | refine grp_cons (fun _ => bwithin_c _ _ _ _) ?_) <;> try first | omega | assumption) | (refine g_d ?_; refine d_args ?_; (first | refine d_fn (bwithin_c _ _ _ _) ?_ | refine d_fnQ (fun _ => bwithin_c _ _ _ _) ?_) <;> try first | omega | assumption) | (refine g_d ?_; (first | refine d_fnY (bwithin_c _ _ _ _) ?_) <;> try first | omega | assumption)))
    all_goals (try (exfalso; omega))
    refine WA_whileK (σ := Nat) [3, 4] (fun i => [.lst (rksV l), .int .i64 i]) (fun _ => [.cells .own 50 1 [[.lst (rksV l)]]]) 1 (fun i => i ≤ l.length ∧ ∀ j, j < i → knErrAt l j = 0) (fun i => l.length - i) 0 ⟨Nat.zero_le _, fun j h => absurd h (Nat.not_lt_zero _)⟩ tv_ rfl (fun _ => rfl) (by intro s s' _ _; simp [conB, conS, V.keeps, V.plain, Blk.flat, flatL, plainL, V.flat]) (by intro s s' _ _; simp [conB, conS, V.keeps, V.plain, Blk.flat, flatL, plainL, V.flat]) ?_
    rintro i ⟨hi1, hi2⟩ K hK
    simp only [zipT]
    clear FX hga hgb hti
    rcases Nat.lt_or_ge i l.length with hi | hi
    · have hga := rksV_get hi
      have hgb := rksV_get (l := l) (i := i - 1) (by omega)
      have hti : ((i : Int) - 1).toNat = i - 1 := by omega
      obtain ⟨⟨⟨a, b⟩, ⟨c, d⟩⟩, hx⟩ : ∃ x, l.getD i rk0 = x := ⟨_, rfl⟩
      obtain ⟨⟨⟨u, u2⟩, ⟨v, v2⟩⟩, hy⟩ : ∃ x, l.getD (i - 1) rk0 = x := ⟨_, rfl⟩
      rw [hx] at hga
      rw [hy] at hgb
      dsimp only [rkV] at hga hgb
      have hat : knErrAt l i = if b ≠ 1 ∨ d ≠ 1 then 3 else if ¬ (-10000 ≤ a ∧ a ≤ 10000) ∨ ¬ (-10000 ≤ c ∧ c ≤ 10000) then 2 else if 0 < i ∧ a ≤ u then 9 else 0 := by unfold knErrAt; rw [hx, hy]
      (have FX := And.intro hla (And.intro hga (And.intro hgb hti)); repeat' (first | (refine sx ?_ ?_ <;> intro h <;> first | (exfalso; omega) | skip) | (refine g_op ?_; refine g_call ?_; refine g_args ?_; (first | refine s_fn (bwithin_c _ _ _ _) ?_) <;> try first | omega | assumption) | refine ny ?_ | refine WA_block ?_ | (refine uC17_38_11 ?_; refine ⟨by kernel_rfl, ?_⟩) | ((first | refine grp_cons (fun _ => bwithin_c _ _ _ _) ?_) <;> try first | omega | assumption) | (refine g_d ?_; refine d_args ?_; (first | refine d_fn (bwithin_c _ _ _ _) ?_ | refine d_fnQ (fun _ => bwithin_c _ _ _ _) ?_) <;> try first | omega | assumption) | (refine g_d ?_; (first | refine d_fnY (bwithin_c _ _ _ _) ?_) <;> try first | omega | assumption)))
      all_goals (try (exfalso; omega))
      all_goals try
        ((refine r_es hQ ?_; try with_reducible rfl)
         exact congrArg (V.int .i64) (knErr_first hn hi hi2 (by rw [hat]; (repeat (first | rw [if_pos (by first | assumption | omega | grind)] | rw [if_neg (by first | assumption | omega | grind)]))) (by decide)).symm)
      all_goals (refine nextL_ hK (i + 1) ⟨hi, ext_zero hi2 (by rw [hat]; (repeat (first | rw [if_pos (by first | assumption | omega | grind)] | rw [if_neg (by first | assumption | omega | grind)])))⟩ (by omega))
    · have hie : i = l.length := by omega
      subst hie
      have hga := hla
      have hgb := hla
      have hti := hla
      (have FX := And.intro hla (And.intro hga (And.intro hgb hti)); repeat' (first | (refine sx ?_ ?_ <;> intro h <;> first | (exfalso; omega) | skip) | (refine g_op ?_; refine g_call ?_; refine g_args ?_; (first | refine s_fn (bwithin_c _ _ _ _) ?_) <;> try first | omega | assumption) | refine ny ?_ | refine WA_block ?_ | (refine uC17_38_11 ?_; refine ⟨by kernel_rfl, ?_⟩) | ((first | refine grp_cons (fun _ => bwithin_c _ _ _ _) ?_) <;> try first | omega | assumption) | (refine g_d ?_; refine d_args ?_; (first | refine d_fn (bwithin_c _ _ _ _) ?_ | refine d_fnQ (fun _ => bwithin_c _ _ _ _) ?_) <;> try first | omega | assumption) | (refine g_d ?_; (first | refine d_fnY (bwithin_c _ _ _ _) ?_) <;> try first | omega | assumption)))
      all_goals (try (exfalso; omega))
      all_goals ((refine r_es hQ ?_; try with_reducible rfl))
      all_goals (exact congrArg (V.int .i64) (knErr_none hn hi2).symm)
  · have h10 : knErr l = 10 := by unfold knErr; rw [if_pos hn]
    refine Gives_in Tryz.func38 rfl Tryz.ntmps38 Tryz.results38 (by kernel_rfl) (by simp) rfl fun Q hQ => ?_
    (have FX := And.intro hla (And.intro hga (And.intro hgb hti)); repeat' (first | (refine sx ?_ ?_ <;> intro h <;> first | (exfalso; omega) | skip) | (refine g_op ?_; refine g_call ?_; refine g_args ?_; (first | refine s_fn (bwithin_c _ _ _ _) ?_) <;> try first | omega | assumption) | refine ny ?_ | refine WA_block ?_ | (refine uC17_38_11 ?_; refine ⟨by kernel_rfl, ?_⟩) | ((first | refine grp_cons (fun _ => bwithin_c _ _ _ _) ?_) <;> try first | omega | assumption) | (refine g_d ?_; refine d_args ?_; (first | refine d_fn (bwithin_c _ _ _ _) ?_ | refine d_fnQ (fun _ => bwithin_c _ _ _ _) ?_) <;> try first | omega | assumption) | (refine g_d ?_; (first | refine d_fnY (bwithin_c _ _ _ _) ?_) <;> try first | omega | assumption)))
    all_goals (try (exfalso; omega))
    all_goals ((refine r_es hQ ?_; try with_reducible rfl))
    all_goals (exact congrArg (V.int .i64) h10.symm)
end Go.Proofs.YtgmlbabnffopdaaGreat
