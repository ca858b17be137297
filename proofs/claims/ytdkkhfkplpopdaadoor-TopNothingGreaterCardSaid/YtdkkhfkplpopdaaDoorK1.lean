/- contracts: numbers, ranges, pitches -/
import Derived.Test.YtdkkhfkplpopdaaDoorYN
import Derived.Test.YtdkkhfkplpopdaaDoorYA
set_option linter.unusedSimpArgs false
set_option linter.unusedVariables false
namespace Go.Proofs.YtdkkhfkplpopdaaDoor
open Go.RowKit
attribute [local irreducible] WA WOs WDs WAn qThen qBlock tput
set_option maxHeartbeats 1000000
set_option maxRecDepth 20000
set_option linter.unusedSimpArgs false
set_option linter.unusedVariables false

theorem nwithin_c (n lo hi : Int) (m : Mem) : Gives Tryd.prog 18 [.int .i64 n, .int .i64 lo, .int .i64 hi] m (.bool (decide (lo ≤ n ∧ n ≤ hi))) := by
  refine Gives_in Tryd.func18 rfl Tryd.ntmps18 Tryd.results18 (by kernel_rfl) (by simp) rfl fun Q hQ => ?_
  (repeat' (first | (refine sx ?_ ?_ <;> intro h <;> first | (exfalso; omega) | skip) | refine ny ?_ | refine WA_block ?_))
  all_goals ((refine r_es hQ ?_; try with_reducible rfl); simp only [V.bool.injEq, decide_eq_true_eq, decide_eq_false_iff_not, eq_comm]; first | omega | (simp; omega) | simp)

theorem bwithin_c (n lo hi : Int) (m : Mem) : Gives Tryd.prog 7 [.int .i64 n, .int .i64 lo, .int .i64 hi] m (.bool (decide (lo ≤ n ∧ n ≤ hi))) := by
  refine Gives_in Tryd.func7 rfl Tryd.ntmps7 Tryd.results7 (by kernel_rfl) (by simp) rfl fun Q hQ => ?_
  (repeat' (first | (refine sx ?_ ?_ <;> intro h <;> first | (exfalso; omega) | skip) | refine ny ?_ | refine WA_block ?_))
  all_goals ((refine r_es hQ ?_; try with_reducible rfl); simp only [V.bool.injEq, decide_eq_true_eq, decide_eq_false_iff_not, eq_comm]; first | omega | (simp; omega) | simp)

theorem babs_c (n : Int) (h1 : -9223372036854775807 ≤ n) (h2 : n ≤ 9223372036854775807) (m : Mem) : Gives Tryd.prog 9 [.int .i64 n] m (.int .i64 (n.natAbs : Int)) := by
  refine Gives_in Tryd.func9 rfl Tryd.ntmps9 Tryd.results9 (by kernel_rfl) (by simp) rfl fun Q hQ => ?_
  (repeat' (first | (refine sx ?_ ?_ <;> intro h <;> first | (exfalso; omega) | skip) | refine ny ?_ | refine WA_block ?_))
  all_goals ((refine r_es hQ ?_; try with_reducible rfl); all_goals (simp only [V.int.injEq, true_and]; omega))
theorem uK1_30_2 {N : Nat} {l : List Oper} {t : List (Nat × V)} {m : Mem} {Q : Exit → List (Nat × V) → Mem → Prop} (h : RgN Tryd.prog N l t m Q (fun _ => .p) [.one 0, .one 1, .one 2, .one 3, .one 4, .one 5]) : WA Tryd.prog N (.region 2 l.toArray true) t m Q := d_rgN h
theorem ngcd_c (a b : Int) (h1 : -9223372036854775807 ≤ a) (h2 : a ≤ 9223372036854775807) (h3 : -9223372036854775807 ≤ b) (h4 : b ≤ 9223372036854775807) (m : Mem) : Gives Tryd.prog 30 [.int .i64 a, .int .i64 b] m (.int .i64 (Int.gcd a b : Int)) := by
  refine Gives_in Tryd.func30 rfl Tryd.ntmps30 Tryd.results30 (by kernel_rfl) (by simp) rfl fun Q hQ => ?_
  (repeat' (first | (refine sx ?_ ?_ <;> intro h <;> first | (exfalso; omega) | skip) | refine ny ?_ | refine WA_block ?_ | (refine uK1_30_2 ?_; refine ⟨by kernel_rfl, ?_⟩)))
  refine WA_while (σ := Int × Int) [0, 1] (fun s => [.int .i64 s.1, .int .i64 s.2]) (fun _ => lend m ++ []) (fun s => (-9223372036854775807 ≤ s.1 ∧ s.1 ≤ 9223372036854775807) ∧ (-9223372036854775807 ≤ s.2 ∧ s.2 ≤ 9223372036854775807) ∧ Int.gcd s.1 s.2 = Int.gcd a b) (fun s => s.2.natAbs) (a, b) ⟨⟨h1, h2⟩, ⟨h3, h4⟩, rfl⟩ tv_ rfl ?_
  rintro ⟨p, q⟩ ⟨⟨hp1, hp2⟩, ⟨hq1, hq2⟩, hg⟩ L hL
  dsimp only at hp1 hp2 hq1 hq2 hg
  simp only [zipT]
  (repeat' (first | (refine sx ?_ ?_ <;> intro h <;> first | (exfalso; omega) | skip) | refine ny ?_ | refine WA_block ?_ | (refine uK1_30_2 ?_; refine ⟨by kernel_rfl, ?_⟩)))
  · have hm := tmod_bd p q ⟨hp1, hp2⟩ (by assumption)
    exact next_ hL (q, p.tmod q) ⟨⟨hq1, hq2⟩, hm.1, (gcd_tmod p q).trans hg⟩ hm.2
  all_goals ((refine r_es hQ ?_; try with_reducible rfl); have hq0 : q = 0 := by omega)
  all_goals (subst hq0; rw [← hg]; simp; try omega)
/-- a range's error -/
def rgE (lo hi : Int) : Int := if (-1000000000000000 ≤ lo ∧ lo ≤ 1000000000000000) ∧ (-1000000000000000 ≤ hi ∧ hi ≤ 1000000000000000) then (if hi < lo then 9 else 0) else 2

theorem ncheckrange_c (lo hi : Int) (m : Mem) : Gives Tryd.prog 33 [.agg [.int .i64 lo, .int .i64 hi]] m (.int .i64 (rgE lo hi)) := by
  refine Gives_in Tryd.func33 rfl Tryd.ntmps33 Tryd.results33 (by kernel_rfl) (by simp) rfl fun Q hQ => ?_
  (repeat' (first | (refine sx ?_ ?_ <;> intro h <;> first | (exfalso; omega) | skip) | (refine g_op ?_; refine g_call ?_; refine g_args ?_; (first | refine s_fn (nwithin_c _ _ _ _) ?_) <;> try first | omega | assumption) | refine ny ?_ | refine WA_block ?_))
  all_goals (refine r_es hQ ?_; try with_reducible rfl)
  all_goals (unfold rgE; simp only [V.int.injEq, true_and])
  all_goals (repeat (first | rw [if_pos (by omega)] | rw [if_neg (by omega)]))

theorem ncheckranges_c (a b c d : Int) (m : Mem) : Gives Tryd.prog 26 [.agg [.int .i64 a, .int .i64 b], .agg [.int .i64 c, .int .i64 d]] m (.int .i64 (if rgE a b = 0 then rgE c d else rgE a b)) := by
  refine Gives_in Tryd.func26 rfl Tryd.ntmps26 Tryd.results26 (by kernel_rfl) (by simp) rfl fun Q hQ => ?_
  (repeat' (first | (refine sx ?_ ?_ <;> intro h <;> first | (exfalso; omega) | skip) | (refine g_op ?_; refine g_call ?_; refine g_args ?_; (first | refine s_fn (ncheckrange_c _ _ _) ?_) <;> try first | omega | assumption) | refine ny ?_ | refine WA_block ?_))
  all_goals (refine r_es hQ ?_; try with_reducible rfl)
  all_goals (first | rw [if_pos (by assumption)] | rw [if_neg (by assumption)])

theorem nsmall_ok (lo hi : Int) (h : rgE lo hi = 0) (m : Mem) : Gives Tryd.prog 25 [.agg [.int .i64 lo, .int .i64 hi]] m (.tup [.agg [.int .i64 lo, .int .i64 hi], .int .i64 0]) := by
  refine Gives_in Tryd.func25 rfl Tryd.ntmps25 Tryd.results25 (by kernel_rfl) (by simp) rfl fun Q hQ => ?_
  (repeat' (first | (refine sx ?_ ?_ <;> intro h <;> first | (exfalso; omega) | skip) | (refine g_op ?_; refine g_call ?_; refine g_args ?_; (first | refine s_fn (ncheckrange_c _ _ _) ?_) <;> try first | omega | assumption) | refine ny ?_ | refine WA_block ?_))
  all_goals (try (exfalso; omega))
  all_goals (refine r_es hQ ?_; try with_reducible rfl)
theorem nsmall_bad (lo hi : Int) (h : rgE lo hi ≠ 0) (m : Mem) : Gives Tryd.prog 25 [.agg [.int .i64 lo, .int .i64 hi]] m (.tup [.agg [.int .i64 0, .int .i64 0], .int .i64 8]) := by
  refine Gives_in Tryd.func25 rfl Tryd.ntmps25 Tryd.results25 (by kernel_rfl) (by simp) rfl fun Q hQ => ?_
  (repeat' (first | (refine sx ?_ ?_ <;> intro h <;> first | (exfalso; omega) | skip) | (refine g_op ?_; refine g_call ?_; refine g_args ?_; (first | refine s_fn (ncheckrange_c _ _ _) ?_) <;> try first | omega | assumption) | refine ny ?_ | refine WA_block ?_))
  all_goals (try (exfalso; omega))
  all_goals (refine r_es hQ ?_; try with_reducible rfl)

theorem nplus_ok (a b c d : Int) (h1 : rgE a b = 0) (h2 : rgE c d = 0) (h : rgE (a + c) (b + d) = 0) (m : Mem) : Gives Tryd.prog 10 [.agg [.int .i64 a, .int .i64 b], .agg [.int .i64 c, .int .i64 d]] m (.tup [.agg [.int .i64 (a + c), .int .i64 (b + d)], .int .i64 0]) := by
  have g1 : (if rgE a b = 0 then rgE c d else rgE a b) = 0 := by rw [if_pos h1, h2]
  have b1 : (-1000000000000000 ≤ a ∧ a ≤ 1000000000000000) ∧ (-1000000000000000 ≤ b ∧ b ≤ 1000000000000000) := by unfold rgE at h1; split at h1 <;> first | assumption | cases h1
  have b2 : (-1000000000000000 ≤ c ∧ c ≤ 1000000000000000) ∧ (-1000000000000000 ≤ d ∧ d ≤ 1000000000000000) := by unfold rgE at h2; split at h2 <;> first | assumption | cases h2
  refine Gives_in Tryd.func10 rfl Tryd.ntmps10 Tryd.results10 (by kernel_rfl) (by simp) rfl fun Q hQ => ?_
  (repeat' (first | (refine sx ?_ ?_ <;> intro h <;> first | (exfalso; omega) | skip) | (refine g_op ?_; refine g_call ?_; refine g_args ?_; (first | refine s_fn (ncheckranges_c _ _ _ _ _) ?_ | refine s_fn (nsmall_ok _ _ (by assumption) _) ?_) <;> try first | omega | assumption) | refine ny ?_ | refine WA_block ?_))
  all_goals (try (exfalso; omega))
  all_goals (refine r_es hQ ?_; try with_reducible rfl)
theorem nplus_bad (a b c d : Int) (h1 : rgE a b = 0) (h2 : rgE c d = 0) (h : rgE (a + c) (b + d) ≠ 0) (m : Mem) : Gives Tryd.prog 10 [.agg [.int .i64 a, .int .i64 b], .agg [.int .i64 c, .int .i64 d]] m (.tup [.agg [.int .i64 0, .int .i64 0], .int .i64 8]) := by
  have g1 : (if rgE a b = 0 then rgE c d else rgE a b) = 0 := by rw [if_pos h1, h2]
  have b1 : (-1000000000000000 ≤ a ∧ a ≤ 1000000000000000) ∧ (-1000000000000000 ≤ b ∧ b ≤ 1000000000000000) := by unfold rgE at h1; split at h1 <;> first | assumption | cases h1
  have b2 : (-1000000000000000 ≤ c ∧ c ≤ 1000000000000000) ∧ (-1000000000000000 ≤ d ∧ d ≤ 1000000000000000) := by unfold rgE at h2; split at h2 <;> first | assumption | cases h2
  refine Gives_in Tryd.func10 rfl Tryd.ntmps10 Tryd.results10 (by kernel_rfl) (by simp) rfl fun Q hQ => ?_
  (repeat' (first | (refine sx ?_ ?_ <;> intro h <;> first | (exfalso; omega) | skip) | (refine g_op ?_; refine g_call ?_; refine g_args ?_; (first | refine s_fn (ncheckranges_c _ _ _ _ _) ?_ | refine s_fn (nsmall_bad _ _ (by assumption) _) ?_) <;> try first | omega | assumption) | refine ny ?_ | refine WA_block ?_))
  all_goals (try (exfalso; omega))
  all_goals (refine r_es hQ ?_; try with_reducible rfl)
/-- is it a pitch -/
def isPt (a b c d : Int) : Prop := ((-400 ≤ a ∧ a ≤ 400) ∧ (-400 ≤ b ∧ b ≤ 400) ∧ (-400 ≤ c ∧ c ≤ 400)) ∧ 1 ≤ d ∧ d ≤ 12
instance (a b c d : Int) : Decidable (isPt a b c d) := by unfold isPt; exact inferInstance
abbrev ptV (a b c d : Int) : V := .agg [.int .i64 a, .int .i64 b, .int .i64 c, .int .i64 d]

theorem nexponents_c (a b c d : Int) (m : Mem) : Gives Tryd.prog 21 [ptV a b c d] m (.agg [.int .i64 a, .int .i64 b, .int .i64 c]) := by
  refine Gives_in Tryd.func21 rfl Tryd.ntmps21 Tryd.results21 (by kernel_rfl) (by simp) rfl fun Q hQ => ?_
  (repeat' (first | (refine sx ?_ ?_ <;> intro h <;> first | (exfalso; omega) | skip) | refine ny ?_ | refine WA_block ?_))
  all_goals (refine r_es hQ ?_; try with_reducible rfl)

theorem ncheckpitch_c (a b c d : Int) (h : isPt a b c d) (m : Mem) : Gives Tryd.prog 17 [ptV a b c d] m (.int .i64 0) := by
  obtain ⟨⟨h1, h2, h3⟩, h4⟩ := h
  refine Gives_in Tryd.func17 rfl Tryd.ntmps17 Tryd.results17 (by kernel_rfl) (by simp) rfl fun Q hQ => ?_
  (repeat' (first | (refine sx ?_ ?_ <;> intro h <;> first | (exfalso; omega) | skip) | (refine g_op ?_; refine g_call ?_; refine g_args ?_; (first | refine s_fn (nwithin_c _ _ _ _) ?_ | refine s_fn (nexponents_c _ _ _ _ _) ?_) <;> try first | omega | assumption) | refine ny ?_ | refine WA_block ?_))
  refine WA_rounds 4 ?_
  (repeat' (first | (refine sx ?_ ?_ <;> intro h <;> first | (exfalso; omega) | skip) | (refine g_op ?_; refine g_call ?_; refine g_args ?_; (first | refine s_fn (nwithin_c _ _ _ _) ?_ | refine s_fn (nexponents_c _ _ _ _ _) ?_) <;> try first | omega | assumption) | refine ny ?_ | refine WA_block ?_))
  all_goals (try (exfalso; omega))
  all_goals (refine r_es hQ ?_; try with_reducible rfl)

theorem qispitch_c (a b c d : Int) (m : Mem) : Gives Tryd.prog 16 [ptV a b c d] m (.bool (decide (isPt a b c d))) := by
  refine Gives_in Tryd.func16 rfl Tryd.ntmps16 Tryd.results16 (by kernel_rfl) (by simp) rfl fun Q hQ => ?_
  (repeat' (first | (refine sx ?_ ?_ <;> intro h <;> first | (exfalso; omega) | skip) | (refine g_op ?_; refine g_call ?_; refine g_args ?_; (first | refine s_fn (bwithin_c _ _ _ _) ?_) <;> try first | omega | assumption) | refine ny ?_ | refine WA_block ?_))
  refine WA_rounds 4 ?_
  (repeat' (first | (refine sx ?_ ?_ <;> intro h <;> first | (exfalso; omega) | skip) | (refine g_op ?_; refine g_call ?_; refine g_args ?_; (first | refine s_fn (bwithin_c _ _ _ _) ?_) <;> try first | omega | assumption) | refine ny ?_ | refine WA_block ?_))
  all_goals (refine r_es hQ ?_; try with_reducible rfl)
  all_goals (unfold isPt; first | exact congrArg V.bool (decide_eq_true (by omega)).symm | exact congrArg V.bool (decide_eq_false (by omega)).symm | exact congrArg V.bool (decide_eq_decide.2 (by omega)))
def isNear (a b c d : Int) : Prop := ((-60 ≤ a ∧ a ≤ 60) ∧ (-60 ≤ b ∧ b ≤ 60) ∧ (-60 ≤ c ∧ c ≤ 60)) ∧ 1 ≤ d ∧ d ≤ 12
instance (a b c d : Int) : Decidable (isNear a b c d) := by unfold isNear; exact inferInstance

theorem tnear_c (a b c d : Int) (m : Mem) : Gives Tryd.prog 6 [ptV a b c d] m (.bool (decide (isNear a b c d))) := by
  refine Gives_in Tryd.func6 rfl Tryd.ntmps6 Tryd.results6 (by kernel_rfl) (by simp) rfl fun Q hQ => ?_
  (repeat' (first | (refine sx ?_ ?_ <;> intro h <;> first | (exfalso; omega) | skip) | (refine g_op ?_; refine g_call ?_; refine g_args ?_; (first | refine s_fn (bwithin_c _ _ _ _) ?_ | refine s_fn (qispitch_c _ _ _ _ _) ?_) <;> try first | omega | assumption) | refine ny ?_ | refine WA_block ?_))
  refine WA_rounds 4 ?_
  (repeat' (first | (refine sx ?_ ?_ <;> intro h <;> first | (exfalso; omega) | skip) | (refine g_op ?_; refine g_call ?_; refine g_args ?_; (first | refine s_fn (bwithin_c _ _ _ _) ?_ | refine s_fn (qispitch_c _ _ _ _ _) ?_) <;> try first | omega | assumption) | refine ny ?_ | refine WA_block ?_))
  all_goals (refine r_es hQ ?_; try with_reducible rfl)
  all_goals (unfold isNear; first | exact congrArg V.bool (decide_eq_true (by first | omega | (unfold isPt at *; omega))).symm | exact congrArg V.bool (decide_eq_false (by first | omega | (unfold isPt at *; omega))).symm | exact congrArg V.bool (decide_eq_decide.2 (by unfold isPt; omega)))
/-- the common part of a pitch's numbers -/
def ptG (a b c d : Int) : Int := (Int.gcd (Int.gcd a b : Int) (Int.gcd c d : Int) : Int)
theorem uK1_19_1 {N : Nat} {l : List Oper} {t : List (Nat × V)} {m : Mem} {Q : Exit → List (Nat × V) → Mem → Prop} (h : RgN Tryd.prog N l t m Q (fun i => if i == 1 || i == 3 || i == 4 || i == 6 || i == 8 || i == 9 || i == 10 then .q else .p) [.one 0, .one 1, .one 2, .one 3, .one 4, .one 5, .one 6, .one 7, .one 8, .one 9, .one 10, .one 11]) : WA Tryd.prog N (.region 1 l.toArray true) t m Q := d_rgN h
theorem uK1_19_2 {N : Nat} {l : List Oper} {t : List (Nat × V)} {m : Mem} {Q : Exit → List (Nat × V) → Mem → Prop} (h : RgN Tryd.prog N l t m Q (fun i => if i == 17 then .w else if i == 1 || i == 5 || i == 9 || i == 13 then .q else .p) [.one 0, .one 1, .one 2, .one 3, .one 4, .one 5, .one 6, .one 7, .one 8, .one 9, .one 10, .one 11, .one 12, .one 13, .one 14, .one 15, .one 16, .one 17]) : WA Tryd.prog N (.region 2 l.toArray true) t m Q := d_rgN h
theorem nreduced_c (a b c d : Int) (h : isPt a b c d) (m : Mem) : Gives Tryd.prog 19 [ptV a b c d] m (ptV (a.tdiv (ptG a b c d)) (b.tdiv (ptG a b c d)) (c.tdiv (ptG a b c d)) (d.tdiv (ptG a b c d))) := by
  obtain ⟨⟨h1, h2, h3⟩, h4⟩ := h
  have b1 : (0 : Int) ≤ (Int.gcd a b : Int) ∧ (Int.gcd a b : Int) ≤ 1000 := by
    refine ⟨by omega, ?_⟩
    by_cases ha : a = 0
    · subst ha
      have : Int.gcd 0 b = b.natAbs := by simp
      omega
    · have := Int.gcd_le_natAbs_left b ha
      omega
  have b2 : (0 : Int) < (Int.gcd c d : Int) ∧ (Int.gcd c d : Int) ≤ 1000 := by
    have h5 : 0 < Int.gcd c d := Int.gcd_pos_iff.2 (.inr (by omega))
    have := Int.gcd_le_natAbs_right c (show d ≠ 0 by omega)
    omega
  have b3 : (0 : Int) < ptG a b c d ∧ ptG a b c d ≤ 1000 := by
    unfold ptG
    have h5 : 0 < Int.gcd (Int.gcd a b : Int) (Int.gcd c d : Int) := Int.gcd_pos_iff.2 (.inr (by omega))
    have := Int.gcd_le_natAbs_right (Int.gcd a b : Int) (show (Int.gcd c d : Int) ≠ 0 by omega)
    omega
  unfold ptG at *
  refine Gives_in Tryd.func19 rfl Tryd.ntmps19 Tryd.results19 (by kernel_rfl) (by simp) rfl fun Q hQ => ?_
  (have FX := And.intro b1 (And.intro b2 b3); repeat' (first | (refine sx ?_ ?_ <;> intro h <;> first | (exfalso; omega) | skip) | (refine g_op ?_; refine g_call ?_; refine g_args ?_; (first | refine s_fn (ngcd_c _ _ ?_ ?_ ?_ ?_ _) ?_) <;> try first | omega | assumption) | refine ny ?_ | refine WA_block ?_ | (refine uK1_19_1 ?_; refine ⟨by kernel_rfl, ?_⟩) | (refine uK1_19_2 ?_; refine ⟨by kernel_rfl, ?_⟩) | ((first | refine grp_cons (fun _ => ngcd_c _ _ ?_ ?_ ?_ ?_ _) ?_) <;> try first | omega | assumption) | (refine g_d ?_; refine d_args ?_; (first | refine d_fn (ngcd_c _ _ ?_ ?_ ?_ ?_ _) ?_ | refine d_fnQ (fun _ => ngcd_c _ _ ?_ ?_ ?_ ?_ _) ?_) <;> try first | omega | assumption) | (refine g_d ?_; (first | refine d_fnY (ngcd_c _ _ ?_ ?_ ?_ ?_ _) ?_) <;> try first | omega | assumption)))
  all_goals (try (exfalso; omega))
  all_goals (refine r_es hQ ?_; try with_reducible rfl)
  all_goals (clear FX)
  all_goals (generalize ((Int.gcd (Int.gcd a b : Int) (Int.gcd c d : Int) : Nat) : Int) = g at *)
  all_goals (have q1 := tdiv_bd a g; have q2 := tdiv_bd b g; have q3 := tdiv_bd c g; have q4 := tdiv_bd d g)
  all_goals (rw [← Int.tdiv_eq_ediv_of_nonneg (by omega)])
  all_goals (rw [i64w (by omega) (by omega), i64w (by omega) (by omega), i64w (by omega) (by omega), i64w (by omega) (by omega)])

theorem kcomma_c (m : Mem) : Gives Tryd.prog 14 [] m (ptV (-19) 12 0 1) := by
  refine Gives_in Tryd.func14 rfl Tryd.ntmps14 Tryd.results14 (by kernel_rfl) (by simp) rfl fun Q hQ => ?_
  (repeat' (first | (refine sx ?_ ?_ <;> intro h <;> first | (exfalso; omega) | skip) | refine ny ?_ | refine WA_block ?_))
  all_goals (refine r_es hQ ?_; try with_reducible rfl)
end Go.Proofs.YtdkkhfkplpopdaaDoor
