/- contracts: effects, order of adjustments -/
import Derived.Test.YtaoakololkcepaaB5
set_option linter.unusedSimpArgs false
set_option linter.unusedVariables false
namespace Go.Proofs.Ytaoakololkcepaa
open Go.RowKit
attribute [local irreducible] WA WOs WDs WAn qThen qBlock tput
set_option maxHeartbeats 1000000
set_option maxRecDepth 20000
set_option linter.unusedSimpArgs false
set_option linter.unusedVariables false

theorem gce1_c (y x : EfR) (M : Mem) (k : Nat) (st : Sta) (hk : M[k]? = some (.cells st 101 2 [[.str x.meas, .int .i64 x.by_]])) : Gives Try.prog 160 [.agg (efV y), .ptr k 0 0] M (.bool (isF x.meas y)) := by
  have hk := lend_get2 hk
  unfold efV isF
  refine Gives_in Try.func160 rfl Try.ntmps160 Try.results160 (by kernel_rfl) (by simp) rfl fun Q hQ => ?_
  (have FX := hk; repeat' (first | (refine sx ?_ ?_ <;> intro h <;> first | (exfalso; omega) | skip) | refine ny ?_ | refine WA_block ?_))
  all_goals ((refine r_es hQ ?_; try with_reducible rfl))
  all_goals (exact congrArg V.bool (by first | rfl | (rw [decide_eq_true (by assumption)]; rfl) | (rw [decide_eq_false (by assumption)]; rfl) | exact (decide_eq_true (by assumption)).symm | exact (decide_eq_false (by assumption)).symm | exact (decide_eq_true (by omega)).symm | exact (decide_eq_false (by omega)).symm))
theorem mget_nm_m {l : List MsR} {s : Txt} : (mget (nmM (mNames l)) s).isSome = decide (0 ≤ fdx (isM s) l) := by rw [mget_nm, fdx_names]

theorem gcheckeffects_c (mm : List MsR) (l : List EfR) (M : Mem) (k : Nat) (st : Sta) (hk : M[k]? = some (.obj st [] (mapφ (nmM (mNames mm))))) : Gives Try.prog 137 [.lst (efsV l), .mp k] M (.int .i64 (efErr mm l)) := by
  have hln := efsV_length (l := l)
  have hga := hln
  have hti := hln
  have hsl := hln
  have hal := hln
  have hko := lend_obj2 hk
  unfold efErr
  refine Gives_in Try.func137 rfl Try.ntmps137 Try.results137 (by kernel_rfl) (by simp) rfl fun Q hQ => ?_
  (have FX := And.intro hln (And.intro hga (And.intro hti (And.intro hsl hal))); repeat' (first | (refine sx ?_ ?_ <;> intro h <;> first | (exfalso; omega) | skip) | (refine g_op ?_; refine g_call ?_; refine g_args ?_; (first | refine s_fn (hcf _ ?_) ?_ | refine s_fn (gsmall_1 1000 (by decide) _ _ _) ?_) <;> try first | omega | assumption) | refine ny ?_ | refine WA_block ?_))
  all_goals (try (exfalso; omega))
  all_goals try
    ((refine r_es hQ ?_; try with_reducible rfl)
     refine congrArg (V.int .i64) ?_
     rw [if_pos (by omega)]
     done)
  have hl12 : l.length ≤ 12 := by omega
  rw [if_neg (by omega)] at hQ
  refine WA_whileK (σ := Nat) (L := M) [0, 1, 12, 13, 14] (fun i => [.lst (efsV l), .mp k, .lst (efsV l), .int .i64 l.length, .int .i64 i]) (fun _ => []) 0 (fun i => i ≤ l.length ∧ ∀ j, j < i → efErrAt mm l j = 0) (fun i => l.length - i) 0 ⟨Nat.zero_le _, fun j h => absurd h (Nat.not_lt_zero _)⟩ tv_ rfl (fun _ => rfl) (by intro s s' _ _; simp [conB, conS, V.keeps, V.plain, Blk.flat, flatL, plainL, V.flat]) (by intro s s' _ _; simp [conB, conS, V.keeps, V.plain, Blk.flat, flatL, plainL, V.flat]) ?_
  rintro i ⟨hi1, hi2⟩ K hK
  simp only [zipT]
  clear FX hga hti hsl hal
  rcases Nat.lt_or_ge i l.length with hi | hi
  · have hga := efsV_get hi
    have hti : ((i : Int) - ((0 : Nat) : Int)).toNat = i := by omega
    have hsl := efsV_take l i
    have hal := fun n h => efsV_all (l := l) (n := n) h
    have hat : efErrAt mm l i = if fdx (isM (l.getD i efz).meas) mm < 0 then 6 else if 0 ≤ fdx (isF (l.getD i efz).meas) (l.take i) then 5 else
      if ¬ (-1000 ≤ (l.getD i efz).by_ ∧ (l.getD i efz).by_ ≤ 1000) then 2 else if (l.getD i efz).by_ = 0 then 11 else 0 := rfl
    have hlt : (l.take i).length ≤ 100000 := by rw [List.length_take]; omega
    have hmg := mget_nm_m (l := mm) (s := (l.getD i efz).meas)
    generalize l.getD i efz = x at *
    obtain ⟨nm, by_⟩ := x
    unfold efV at hga
    dsimp only at hga hat hmg
    have hcf := fun (m : Mem) (k : Nat) (h : ∃ st, m[k]? = some (.cells st 101 2 [[.str nm, .int .i64 by_]])) => cf_efs (l.take i) (isF nm) 160 [.ptr k 0 0] m hlt (fun i hi M hM => h.elim fun st h => (hM.at h).elim fun st h => gce1_c _ ⟨nm, by_⟩ M k st h)
    (have FX := And.intro hln (And.intro hga (And.intro hti (And.intro hsl hal))); repeat' (first | (refine sx ?_ ?_ <;> intro h <;> first | (exfalso; omega) | skip) | (refine g_op ?_; refine g_call ?_; refine g_args ?_; (first | refine s_fn (hcf _ ?_) ?_ | refine s_fn (gsmall_1 1000 (by decide) _ _ _) ?_) <;> try first | omega | assumption) | refine ny ?_ | refine WA_block ?_))
    all_goals (try (exfalso; omega))
    refine s_look (KT := 9) (E := 3) (z := .int .i64 0) (hko _) ?_ rfl lk_ lk_ (by kernel_rfl) (by kernel_rfl) (by kernel_rfl) rfl
    by_cases h1 : 0 ≤ fdx (isM nm) mm
    · rw [decide_eq_true h1] at hmg
      obtain ⟨u, hu⟩ := Option.isSome_iff_exists.1 hmg
      rw [hu]
      simp only [lookV, if_true, Option.getD_some, Option.isSome_some]
      rw [if_neg (by omega)] at hat
      (have FX := And.intro hln (And.intro hga (And.intro hti (And.intro hsl hal))); repeat' (first | (refine sx ?_ ?_ <;> intro h <;> first | (exfalso; omega) | skip) | (refine g_op ?_; refine g_call ?_; refine g_args ?_; (first | refine s_fn (hcf _ _ ?_) ?_ | refine s_fn (gsmall_1 1000 (by decide) _ _ _) ?_) <;> try first | omega | assumption) | refine ny ?_ | refine WA_block ?_))
      all_goals (try (exfalso; omega))
      all_goals try (exact ⟨_, ev_⟩)
      all_goals try
        ((refine r_es hQ ?_; try with_reducible rfl)
         refine congrArg (V.int .i64) (fE_is hi hi2 (hat.trans ?_) (by decide)).symm
         first | (rw [if_pos (by omega)]; done) | (rw [if_neg (by omega), if_pos (by omega)]; done) | (rw [if_neg (by omega), if_neg (by omega), if_pos (by omega)]; done))
      all_goals (refine nextL_ hK (i + 1) ⟨by omega, up_zero hi2 (hat.trans (by rw [if_neg (by omega), if_neg (by omega), if_neg (by omega)]))⟩ (by omega))
    · rw [decide_eq_false h1] at hmg
      have hu : mget (nmM (mNames mm)) nm = none := by simpa using hmg
      rw [hu]
      simp only [lookV, if_true, Option.getD_none, Option.isSome_none]
      rw [if_pos (by omega)] at hat
      (have FX := And.intro hln (And.intro hga (And.intro hti (And.intro hsl hal))); repeat' (first | (refine sx ?_ ?_ <;> intro h <;> first | (exfalso; omega) | skip) | (refine g_op ?_; refine g_call ?_; refine g_args ?_; (first | refine s_fn (hcf _ _ ?_) ?_ | refine s_fn (gsmall_1 1000 (by decide) _ _ _) ?_) <;> try first | omega | assumption) | refine ny ?_ | refine WA_block ?_))
      all_goals (try (exfalso; omega))
      all_goals
        ((refine r_es hQ ?_; try with_reducible rfl)
         exact congrArg (V.int .i64) (fE_is hi hi2 hat (by decide)).symm)
  · obtain rfl : i = l.length := by omega
    have hga := hln
    have hti := hln
    have hsl := hln
    have hal := hln
    have hcf := hln
    (have FX := And.intro hln (And.intro hga (And.intro hti (And.intro hsl hal))); repeat' (first | (refine sx ?_ ?_ <;> intro h <;> first | (exfalso; omega) | skip) | refine ny ?_ | refine WA_block ?_))
    all_goals (try (exfalso; omega))
    all_goals ((refine r_es hQ ?_; try with_reducible rfl))
    all_goals (exact congrArg (V.int .i64) (fE_zero.2 hi2).symm)
end Go.Proofs.Ytaoakololkcepaa
