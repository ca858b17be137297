/- contracts and plain steps that the law wants beside those built before -/
import Derived.Test.YtgmlbabnffopdaaGreatC34
import Derived.Test.YtgmlbabnffopdaaGreatC3
set_option linter.unusedSimpArgs false
set_option linter.unusedVariables false
namespace Go.Proofs.YtgmlbabnffopdaaGreat
open Go.RowKit
attribute [local irreducible] WA WOs WDs WAn qThen qBlock tput
set_option maxHeartbeats 1000000
set_option maxRecDepth 20000
theorem babs_c (n : Int) (h1 : -9223372036854775807 ≤ n) (h2 : n ≤ 9223372036854775807) (m : Mem) : Gives Tryz.prog 84 [.int .i64 n] m (.int .i64 (n.natAbs : Int)) := by
  refine Gives_in Tryz.func84 rfl Tryz.ntmps84 Tryz.results84 (by kernel_rfl) (by simp) rfl fun Q hQ => ?_
  (repeat' (first | (refine sx ?_ ?_ <;> intro h <;> first | (exfalso; omega) | skip) | refine ny ?_ | refine WA_block ?_))
  all_goals ((refine r_es hQ ?_; try with_reducible rfl); all_goals (simp only [V.int.injEq, true_and]; omega))
theorem uC1_70_2 {N : Nat} {l : List Oper} {t : List (Nat × V)} {m : Mem} {Q : Exit → List (Nat × V) → Mem → Prop} (h : RgN Tryz.prog N l t m Q (fun _ => .p) [.one 0, .one 1, .one 2, .one 3, .one 4, .one 5]) : WA Tryz.prog N (.region 2 l.toArray true) t m Q := d_rgN h
theorem bgcd_c (a b : Int) (h1 : -9223372036854775807 ≤ a) (h2 : a ≤ 9223372036854775807) (h3 : -9223372036854775807 ≤ b) (h4 : b ≤ 9223372036854775807) (m : Mem) : Gives Tryz.prog 70 [.int .i64 a, .int .i64 b] m (.int .i64 (Int.gcd a b)) := by
  refine Gives_in Tryz.func70 rfl Tryz.ntmps70 Tryz.results70 (by kernel_rfl) (by simp) rfl fun Q hQ => ?_
  (repeat' (first | (refine sx ?_ ?_ <;> intro h <;> first | (exfalso; omega) | skip) | (refine g_op ?_; refine g_call ?_; refine g_args ?_; (first | refine s_fn (babs_c _ ?_ ?_ _) ?_) <;> try first | omega | assumption) | refine ny ?_ | refine WA_block ?_ | (refine uC1_70_2 ?_; refine ⟨by kernel_rfl, ?_⟩) | ((first | refine grp_cons (fun _ => babs_c _ ?_ ?_ _) ?_) <;> try first | omega | assumption) | (refine g_d ?_; refine d_args ?_; (first | refine d_fn (babs_c _ ?_ ?_ _) ?_ | refine d_fnQ (fun _ => babs_c _ ?_ ?_ _) ?_) <;> try first | omega | assumption) | (refine g_d ?_; (first | refine d_fnY (babs_c _ ?_ ?_ _) ?_) <;> try first | omega | assumption)))
  refine WA_while (σ := Int × Int) [0, 1] (fun s => [.int .i64 s.1, .int .i64 s.2]) (fun _ => lend m ++ []) (fun s => (-9223372036854775807 ≤ s.1 ∧ s.1 ≤ 9223372036854775807) ∧ (-9223372036854775807 ≤ s.2 ∧ s.2 ≤ 9223372036854775807) ∧ Int.gcd s.1 s.2 = Int.gcd a b) (fun s => s.2.natAbs) (a, b) ⟨⟨h1, h2⟩, ⟨h3, h4⟩, rfl⟩ tv_ rfl ?_
  rintro ⟨p, q⟩ ⟨⟨hp1, hp2⟩, ⟨hq1, hq2⟩, hg⟩ L hL
  dsimp only at hp1 hp2 hq1 hq2 hg
  simp only [zipT]
  (repeat' (first | (refine sx ?_ ?_ <;> intro h <;> first | (exfalso; omega) | skip) | (refine g_op ?_; refine g_call ?_; refine g_args ?_; (first | refine s_fn (babs_c _ ?_ ?_ _) ?_) <;> try first | omega | assumption) | refine ny ?_ | refine WA_block ?_ | (refine uC1_70_2 ?_; refine ⟨by kernel_rfl, ?_⟩) | ((first | refine grp_cons (fun _ => babs_c _ ?_ ?_ _) ?_) <;> try first | omega | assumption) | (refine g_d ?_; refine d_args ?_; (first | refine d_fn (babs_c _ ?_ ?_ _) ?_ | refine d_fnQ (fun _ => babs_c _ ?_ ?_ _) ?_) <;> try first | omega | assumption) | (refine g_d ?_; (first | refine d_fnY (babs_c _ ?_ ?_ _) ?_) <;> try first | omega | assumption)))
  · have hm := tmod_bd p q ⟨hp1, hp2⟩ (by assumption)
    exact next_ hL (q, p.tmod q) ⟨⟨hq1, hq2⟩, hm.1, (gcd_tmod p q).trans hg⟩ hm.2
  all_goals ((refine r_es hQ ?_; try with_reducible rfl); have hq0 : q = 0 := by omega)
  all_goals (subst hq0; rw [← hg]; simp)
theorem rSmall_c (n d : Int) (m : Mem) : Gives Tryz.prog 52 [.agg [.int .i64 n, .int .i64 d]] m (.bool (decide ((-1000000000 ≤ n ∧ n ≤ 1000000000) ∧ d ≤ 1000000000))) := by
  refine Gives_in Tryz.func52 rfl Tryz.ntmps52 Tryz.results52 (by kernel_rfl) (by simp) rfl fun Q hQ => ?_
  (repeat' (first | (refine sx ?_ ?_ <;> intro h <;> first | (exfalso; omega) | skip) | (refine g_op ?_; refine g_call ?_; refine g_args ?_; (first | refine s_fn (bwithin_c _ _ _ _) ?_) <;> try first | omega | assumption) | refine ny ?_ | refine WA_block ?_))
  all_goals ((refine r_es hQ ?_; try with_reducible rfl))
  all_goals (first | exact congrArg V.bool (decide_eq_true (by first | omega | simp_all)).symm | exact congrArg V.bool (decide_eq_false (by first | omega | simp_all)).symm | exact congrArg V.bool (decide_eq_decide.2 (by omega)))
theorem uC2_14_1 {N : Nat} {l : List Oper} {t : List (Nat × V)} {m : Mem} {Q : Exit → List (Nat × V) → Mem → Prop} (h : RgN Tryz.prog N l t m Q (fun i => if i == 1 || i == 3 || i == 6 || i == 8 then .q else .p) [.one 0, .one 1, .one 2, .one 3, .one 4, .one 5, .one 6, .one 7, .one 8, .one 9, .one 10, .one 11]) : WA Tryz.prog N (.region 1 l.toArray true) t m Q := d_rgN h
theorem bcmp_r (a b c d : Int) (h1 : -1000000000000000000 ≤ a * d ∧ a * d ≤ 1000000000000000000) (h2 : -1000000000000000000 ≤ c * b ∧ c * b ≤ 1000000000000000000) (m : Mem) : Gives Tryz.prog 14 [.agg [.int .i64 a, .int .i64 b], .agg [.int .i64 c, .int .i64 d]] m (.int .i64 (cmpI (a * d) (c * b))) := by
  refine Gives_in Tryz.func14 rfl Tryz.ntmps14 Tryz.results14 (by kernel_rfl) (by simp) rfl fun Q hQ => ?_
  (repeat' (first | (refine sx ?_ ?_ <;> intro h <;> first | (exfalso; omega) | skip) | refine ny ?_ | refine WA_block ?_ | (refine uC2_14_1 ?_; refine ⟨by kernel_rfl, ?_⟩)))
  all_goals ((refine r_es hQ ?_; try with_reducible rfl); unfold cmpI; simp only [V.int.injEq, true_and]; repeat (first | rw [if_pos (by assumption)] | rw [if_neg (by assumption)]))
theorem bcmp_c (p q : Rat) (hp : sm p) (hq : sm q) (m : Mem) : Gives Tryz.prog 14 [.agg [.int .i64 (Rat.num (p)), .int .i64 ((Rat.den (p) : Nat) : Int)], .agg [.int .i64 (Rat.num (q)), .int .i64 ((Rat.den (q) : Nat) : Int)]] m (.int .i64 (cmpQ p q)) := by
  rw [← cmpQ_int]
  exact bcmp_r _ _ _ _ (sm_prod hp hq) (sm_prod hq hp) m
theorem rsmall_dec (q : Rat) : decide ((-1000000000 ≤ q.num ∧ q.num ≤ 1000000000) ∧ (q.den : Int) ≤ 1000000000) = smB q := by
  unfold smB
  exact decide_eq_decide.2 (by unfold sm; omega)
theorem uC3_51_4 {N : Nat} {l : List Oper} {t : List (Nat × V)} {m : Mem} {Q : Exit → List (Nat × V) → Mem → Prop} (h : RgN Tryz.prog N l t m Q (fun i => if i == 7 then .w else .p) [.one 0, .one 1, .one 2, .one 3, .one 4, .one 5, .one 6, .one 7]) : WA Tryz.prog N (.region 4 l.toArray true) t m Q := d_rgN h
theorem blow_c (n d : Int) (hd : d ≠ 0) (hn : B64 n) (hd2 : B64 d) (m : Mem) : Gives Tryz.prog 51 [.int .i64 n, .int .i64 d] m (.agg [.int .i64 (Rat.num (Rat.divInt n d)), .int .i64 ((Rat.den (Rat.divInt n d) : Nat) : Int)]) := by
  obtain ⟨b1, b2, b3, b4⟩ := fit_bd hd hn hd2
  have e1 := (fit_num (n := n) hd).symm
  have e2 := (fit_den (n := n) hd).symm
  generalize Rat.divInt n d = q at *
  by_cases hneg : d < 0
  · rw [if_pos hneg] at e1 e2
    refine Gives_in Tryz.func51 rfl Tryz.ntmps51 Tryz.results51 (by kernel_rfl) (by simp) rfl fun Q hQ => ?_
    (have FX := And.intro e1 e2; repeat' (first | (refine sx ?_ ?_ <;> intro h <;> first | (exfalso; omega) | skip) | (refine g_op ?_; refine g_call ?_; refine g_args ?_; (first | refine s_fn (bgcd_c _ _ ?_ ?_ ?_ ?_ _) ?_) <;> try first | omega | assumption) | refine ny ?_ | refine WA_block ?_ | (refine uC3_51_4 ?_; refine ⟨by kernel_rfl, ?_⟩) | ((first | refine grp_cons (fun _ => bgcd_c _ _ ?_ ?_ ?_ ?_ _) ?_) <;> try first | omega | assumption) | (refine g_d ?_; refine d_args ?_; (first | refine d_fn (bgcd_c _ _ ?_ ?_ ?_ ?_ _) ?_ | refine d_fnQ (fun _ => bgcd_c _ _ ?_ ?_ ?_ ?_ _) ?_) <;> try first | omega | assumption) | (refine g_d ?_; (first | refine d_fnY (bgcd_c _ _ ?_ ?_ ?_ ?_ _) ?_) <;> try first | omega | assumption)))
    all_goals (refine r_es hQ ?_; try with_reducible rfl)
  · rw [if_neg hneg] at e1 e2
    have e3 : d / (Int.gcd n d : Int) = q.den := by rw [← e2, Int.tdiv_eq_ediv_of_nonneg (by omega)]
    refine Gives_in Tryz.func51 rfl Tryz.ntmps51 Tryz.results51 (by kernel_rfl) (by simp) rfl fun Q hQ => ?_
    (have FX := And.intro e1 (And.intro e2 e3); repeat' (first | (refine sx ?_ ?_ <;> intro h <;> first | (exfalso; omega) | skip) | (refine g_op ?_; refine g_call ?_; refine g_args ?_; (first | refine s_fn (bgcd_c _ _ ?_ ?_ ?_ ?_ _) ?_) <;> try first | omega | assumption) | refine ny ?_ | refine WA_block ?_ | (refine uC3_51_4 ?_; refine ⟨by kernel_rfl, ?_⟩) | ((first | refine grp_cons (fun _ => bgcd_c _ _ ?_ ?_ ?_ ?_ _) ?_) <;> try first | omega | assumption) | (refine g_d ?_; refine d_args ?_; (first | refine d_fn (bgcd_c _ _ ?_ ?_ ?_ ?_ _) ?_ | refine d_fnQ (fun _ => bgcd_c _ _ ?_ ?_ ?_ ?_ _) ?_) <;> try first | omega | assumption) | (refine g_d ?_; (first | refine d_fnY (bgcd_c _ _ ?_ ?_ ?_ ?_ _) ?_) <;> try first | omega | assumption)))
    all_goals (refine r_es hQ ?_; try with_reducible rfl)
theorem rSmall_q (q : Rat) (m : Mem) : Gives Tryz.prog 52 [.agg [.int .i64 (Rat.num (q)), .int .i64 ((Rat.den (q) : Nat) : Int)]] m (.bool (smB q)) := by
  rw [← rsmall_dec]
  exact rSmall_c _ _ _
attribute [local irreducible] smB
theorem uC3_32_2 {N : Nat} {l : List Oper} {t : List (Nat × V)} {m : Mem} {Q : Exit → List (Nat × V) → Mem → Prop} (h : RgN Tryz.prog N l t m Q (fun i => if i == 3 then .w else if i == 0 || i == 1 || i == 2 then .q else .p) [.one 0, .one 1, .one 2, .one 3, .one 4]) : WA Tryz.prog N (.region 2 l.toArray true) t m Q := d_rgN h
theorem rsmall_c (n d : Int) (hd : d ≠ 0) (hn : B64 n) (hd2 : B64 d) (m : Mem) : Gives Tryz.prog 32 [.int .i64 n, .int .i64 d] m (.tup [.agg [.int .i64 (Rat.num (Rat.divInt n d)), .int .i64 ((Rat.den (Rat.divInt n d) : Nat) : Int)], .bool (smB (Rat.divInt n d))]) := by
  refine Gives_in Tryz.func32 rfl Tryz.ntmps32 Tryz.results32 (by kernel_rfl) (by simp) rfl fun Q hQ => ?_
  (repeat' (first | (refine sx ?_ ?_ <;> intro h <;> first | (exfalso; omega) | skip) | (refine g_op ?_; refine g_call ?_; refine g_args ?_; (first | refine s_fn (blow_c _ _ hd hn hd2 _) ?_ | refine s_fn (rSmall_q _ _) ?_) <;> try first | omega | assumption) | refine ny ?_ | refine WA_block ?_ | (refine uC3_32_2 ?_; refine ⟨by kernel_rfl, ?_⟩) | ((first | refine grp_cons (fun _ => blow_c _ _ hd hn hd2 _) ?_ | refine grp_cons (fun _ => rSmall_q _ _) ?_) <;> try first | omega | assumption) | (refine g_d ?_; refine d_args ?_; (first | refine d_fn (blow_c _ _ hd hn hd2 _) ?_ | refine d_fn (rSmall_q _ _) ?_ | refine d_fnQ (fun _ => blow_c _ _ hd hn hd2 _) ?_ | refine d_fnQ (fun _ => rSmall_q _ _) ?_) <;> try first | omega | assumption) | (refine g_d ?_; (first | refine d_fnY (blow_c _ _ hd hn hd2 _) ?_ | refine d_fnY (rSmall_q _ _) ?_) <;> try first | omega | assumption)))
  all_goals (refine r_es hQ ?_; try with_reducible rfl)
theorem radd_c (a b : Rat) (ha : sm a) (hb : sm b) (m : Mem) : Gives Tryz.prog 12 [.agg [.int .i64 (Rat.num (a)), .int .i64 ((Rat.den (a) : Nat) : Int)], .agg [.int .i64 (Rat.num (b)), .int .i64 ((Rat.den (b) : Nat) : Int)]] m (.tup [.agg [.int .i64 (Rat.num (a + b)), .int .i64 ((Rat.den (a + b) : Nat) : Int)], .bool (smB (a + b))]) := by
  rw [← add_fit a b]
  have q1 := sm_prod ha hb
  have q2 := sm_prod hb ha
  have q3 := sm_den ha hb
  have e1 : B64 (a.num * (b.den : Int) + b.num * (a.den : Int)) := by constructor <;> omega
  have e2 : B64 ((a.den : Int) * (b.den : Int)) := by constructor <;> omega
  have e3 : (a.den : Int) * (b.den : Int) ≠ 0 := by omega
  refine Gives_in Tryz.func12 rfl Tryz.ntmps12 Tryz.results12 (by kernel_rfl) (by simp) rfl fun Q hQ => ?_
  (have FX := And.intro q1 (And.intro q2 q3); repeat' (first | (refine sx ?_ ?_ <;> intro h <;> first | (exfalso; omega) | skip) | (refine g_op ?_; refine g_call ?_; refine g_args ?_; (first | refine s_fn (rsmall_c _ _ ?_ ?_ ?_ _) ?_) <;> try first | omega | assumption) | refine ny ?_ | refine WA_block ?_))
  all_goals (refine r_es hQ ?_; try with_reducible rfl)
theorem rsub_c (a b : Rat) (ha : sm a) (hb : sm b) (m : Mem) : Gives Tryz.prog 13 [.agg [.int .i64 (Rat.num (a)), .int .i64 ((Rat.den (a) : Nat) : Int)], .agg [.int .i64 (Rat.num (b)), .int .i64 ((Rat.den (b) : Nat) : Int)]] m (.tup [.agg [.int .i64 (Rat.num (a - b)), .int .i64 ((Rat.den (a - b) : Nat) : Int)], .bool (smB (a - b))]) := by
  rw [← sub_fit a b]
  have q1 := sm_prod ha hb
  have q2 := sm_prod hb ha
  have q3 := sm_den ha hb
  have e1 : B64 (a.num * (b.den : Int) - b.num * (a.den : Int)) := by constructor <;> omega
  have e2 : B64 ((a.den : Int) * (b.den : Int)) := by constructor <;> omega
  have e3 : (a.den : Int) * (b.den : Int) ≠ 0 := by omega
  refine Gives_in Tryz.func13 rfl Tryz.ntmps13 Tryz.results13 (by kernel_rfl) (by simp) rfl fun Q hQ => ?_
  (have FX := And.intro q1 (And.intro q2 q3); repeat' (first | (refine sx ?_ ?_ <;> intro h <;> first | (exfalso; omega) | skip) | (refine g_op ?_; refine g_call ?_; refine g_args ?_; (first | refine s_fn (rsmall_c _ _ ?_ ?_ ?_ _) ?_) <;> try first | omega | assumption) | refine ny ?_ | refine WA_block ?_))
  all_goals (refine r_es hQ ?_; try with_reducible rfl)
theorem adP_ok {s : Rat × Bool} {p : Rat} (h : (adP s p).2 = false) : s.2 = false ∧ (adP s p).1 = s.1 + p := by
  unfold adP at h ⊢
  simp only [Bool.or_eq_false_iff, Bool.not_eq_false'] at h
  obtain ⟨⟨h1, h2⟩, h3⟩ := h
  have h2 := smB_iff.1 h2
  rw [cut_sm h2] at h3 ⊢
  exact ⟨h1, cut_sm (smB_iff.1 h3)⟩
theorem sbP_ok {s : Rat × Bool} {p : Rat} (h : (sbP s p).2 = false) : s.2 = false ∧ (sbP s p).1 = s.1 - p := by
  unfold sbP at h ⊢
  simp only [Bool.or_eq_false_iff, Bool.not_eq_false'] at h
  obtain ⟨⟨h1, h2⟩, h3⟩ := h
  have h2 := smB_iff.1 h2
  rw [cut_sm h2] at h3 ⊢
  exact ⟨h1, cut_sm (smB_iff.1 h3)⟩
attribute [local irreducible] cut sm
theorem sm_pair {a : ActR} {x p q : Rat} (h : touP a x = some (p, q)) : sm p ∧ sm q := by
  unfold touP at h
  split at h
  · simp only at h
    split at h
    · cases h
    · cases h; exact ⟨sm_cut _, sm_cut _⟩
  · cases h
end Go.Proofs.YtgmlbabnffopdaaGreat
