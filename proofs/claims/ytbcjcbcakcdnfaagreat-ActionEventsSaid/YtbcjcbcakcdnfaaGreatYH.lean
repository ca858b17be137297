import Derived.Test.YtbcjcbcakcdnfaaGreatC1
set_option linter.unusedSimpArgs false
set_option linter.unusedVariables false
/- contracts: fractions -/
namespace Go.Proofs.YtbcjcbcakcdnfaaGreat
open Go.RowKit
attribute [local irreducible] WA WOs WDs WAn qThen qBlock tput
set_option maxHeartbeats 1000000
set_option maxRecDepth 20000
set_option linter.unusedSimpArgs false
set_option linter.unusedVariables false
abbrev B64 (n : Int) : Prop := -9223372036854775807 ≤ n ∧ n ≤ 9223372036854775807

theorem acheck_c (n d : Int) (h1 : B64 n) (h2 : B64 d) (m : Mem) : Gives Tryz.prog 67 [.agg [.int .i64 n, .int .i64 d]] m (.int .i64 (frErr n d)) := by
  refine Gives_in Tryz.func67 rfl Tryz.ntmps67 Tryz.results67 (by kernel_rfl) (by simp) rfl fun Q hQ => ?_
  (repeat' (first | (refine sx ?_ ?_ <;> intro h <;> first | (exfalso; omega) | skip) | (refine g_op ?_; refine g_call ?_; refine g_args ?_; (first | refine s_fn (agcd_c _ _ ?_ ?_ ?_ ?_ _) ?_ | refine s_fn (awithin_c _ _ _ _) ?_) <;> try first | omega | assumption) | refine ny ?_ | refine WA_block ?_))
  all_goals ((refine r_es hQ ?_; try with_reducible rfl))
  all_goals (unfold frErr; simp only [V.int.injEq, true_and])
  all_goals first
    | (rw [if_pos (by omega)]; done)
    | (rw [if_neg (by omega)]; first | (rw [if_pos (by omega)]; done) | (rw [if_neg (by omega)]; done))
    | skip

theorem blowest_c (n d : Int) (h1 : B64 n) (h2 : B64 d) (m : Mem) : Gives Tryz.prog 91 [.agg [.int .i64 n, .int .i64 d]] m (.bool (decide (1 ≤ d ∧ (Int.gcd n d : Int) = 1))) := by
  refine Gives_in Tryz.func91 rfl Tryz.ntmps91 Tryz.results91 (by kernel_rfl) (by simp) rfl fun Q hQ => ?_
  (repeat' (first | (refine sx ?_ ?_ <;> intro h <;> first | (exfalso; omega) | skip) | (refine g_op ?_; refine g_call ?_; refine g_args ?_; (first | refine s_fn (bgcd_c _ _ ?_ ?_ ?_ ?_ _) ?_) <;> try first | omega | assumption) | refine ny ?_ | refine WA_block ?_))
  all_goals ((refine r_es hQ ?_; try with_reducible rfl))
  all_goals (first | exact congrArg V.bool (decide_eq_true (by first | omega | simp_all)).symm | exact congrArg V.bool (decide_eq_false (by first | omega | simp_all)).symm | exact congrArg V.bool (decide_eq_decide.2 (by omega)))

theorem rSmall_c (n d : Int) (m : Mem) : Gives Tryz.prog 75 [.agg [.int .i64 n, .int .i64 d]] m (.bool (decide ((-1000000000 ≤ n ∧ n ≤ 1000000000) ∧ d ≤ 1000000000))) := by
  refine Gives_in Tryz.func75 rfl Tryz.ntmps75 Tryz.results75 (by kernel_rfl) (by simp) rfl fun Q hQ => ?_
  (repeat' (first | (refine sx ?_ ?_ <;> intro h <;> first | (exfalso; omega) | skip) | (refine g_op ?_; refine g_call ?_; refine g_args ?_; (first | refine s_fn (bwithin_c _ _ _ _) ?_) <;> try first | omega | assumption) | refine ny ?_ | refine WA_block ?_))
  all_goals ((refine r_es hQ ?_; try with_reducible rfl))
  all_goals (first | exact congrArg V.bool (decide_eq_true (by first | omega | simp_all)).symm | exact congrArg V.bool (decide_eq_false (by first | omega | simp_all)).symm | exact congrArg V.bool (decide_eq_decide.2 (by omega)))

theorem rcheckfrac_c (n d : Int) (h1 : B64 n) (h2 : B64 d) (m : Mem) : Gives Tryz.prog 57 [.agg [.int .i64 n, .int .i64 d]] m (.int .i64 (frErr n d)) := by
  refine Gives_in Tryz.func57 rfl Tryz.ntmps57 Tryz.results57 (by kernel_rfl) (by simp) rfl fun Q hQ => ?_
  (repeat' (first | (refine sx ?_ ?_ <;> intro h <;> first | (exfalso; omega) | skip) | (refine g_op ?_; refine g_call ?_; refine g_args ?_; (first | refine s_fn (blowest_c _ _ h1 h2 _) ?_ | refine s_fn (rSmall_c _ _ _) ?_) <;> try first | omega | assumption) | refine ny ?_ | refine WA_block ?_))
  all_goals ((refine r_es hQ ?_; try with_reducible rfl))
  all_goals (unfold frErr; simp only [V.int.injEq, true_and])
  all_goals first
    | (rw [if_pos (by omega)]; done)
    | (rw [if_neg (by omega)]; first | (rw [if_pos (by omega)]; done) | (rw [if_neg (by omega)]; done))
    | skip

theorem acompare_r (a b c d : Int) (h1 : -1000000000000000000 ≤ a * d ∧ a * d ≤ 1000000000000000000) (h2 : -1000000000000000000 ≤ c * b ∧ c * b ≤ 1000000000000000000) (m : Mem) : Gives Tryz.prog 54 [.agg [.int .i64 a, .int .i64 b], .agg [.int .i64 c, .int .i64 d]] m (.int .i64 (cmpI (a * d) (c * b))) := by
  refine Gives_in Tryz.func54 rfl Tryz.ntmps54 Tryz.results54 (by kernel_rfl) (by simp) rfl fun Q hQ => ?_
  (repeat' (first | (refine sx ?_ ?_ <;> intro h <;> first | (exfalso; omega) | skip) | (refine g_op ?_; refine g_call ?_; refine g_args ?_; (first | refine s_fn (ccompare_c _ _ _) ?_) <;> try first | omega | assumption) | refine ny ?_ | refine WA_block ?_))
  all_goals (refine r_es hQ ?_; try with_reducible rfl)
theorem uC2_16_1 {N : Nat} {l : List Oper} {t : List (Nat × V)} {m : Mem} {Q : Exit → List (Nat × V) → Mem → Prop} (h : RgN Tryz.prog N l t m Q (fun i => if i == 1 || i == 3 || i == 6 || i == 8 then .q else .p) [.one 0, .one 1, .one 2, .one 3, .one 4, .one 5, .one 6, .one 7, .one 8, .one 9, .one 10, .one 11]) : WA Tryz.prog N (.region 1 l.toArray true) t m Q := d_rgN h
theorem bcmp_r (a b c d : Int) (h1 : -1000000000000000000 ≤ a * d ∧ a * d ≤ 1000000000000000000) (h2 : -1000000000000000000 ≤ c * b ∧ c * b ≤ 1000000000000000000) (m : Mem) : Gives Tryz.prog 16 [.agg [.int .i64 a, .int .i64 b], .agg [.int .i64 c, .int .i64 d]] m (.int .i64 (cmpI (a * d) (c * b))) := by
  refine Gives_in Tryz.func16 rfl Tryz.ntmps16 Tryz.results16 (by kernel_rfl) (by simp) rfl fun Q hQ => ?_
  (repeat' (first | (refine sx ?_ ?_ <;> intro h <;> first | (exfalso; omega) | skip) | refine ny ?_ | refine WA_block ?_ | (refine uC2_16_1 ?_; refine ⟨by kernel_rfl, ?_⟩)))
  all_goals ((refine r_es hQ ?_; try with_reducible rfl); unfold cmpI; simp only [V.int.injEq, true_and]; repeat (first | rw [if_pos (by assumption)] | rw [if_neg (by assumption)]))
def cmpQ (p q : Rat) : Int := if p < q then -1 else if q < p then 1 else 0
theorem cmpQ_int (p q : Rat) : cmpI (p.num * q.den) (q.num * p.den) = cmpQ p q := by
  unfold cmpI cmpQ
  by_cases h1 : p < q
  · rw [if_pos h1, if_pos ((cmp_lt p q).2 h1)]
  · rw [if_neg h1, if_neg (fun h => h1 ((cmp_lt p q).1 h))]
    by_cases h2 : q < p
    · rw [if_pos h2, if_pos ((cmp_lt q p).2 h2)]
    · rw [if_neg h2, if_neg (fun h => h2 ((cmp_lt q p).1 h))]
theorem sm_prod {p q : Rat} (hp : sm p) (hq : sm q) : -1000000000000000000 ≤ p.num * (q.den : Int) ∧ p.num * (q.den : Int) ≤ 1000000000000000000 := by
  obtain ⟨a1, a2, a3⟩ := hp
  obtain ⟨b1, b2, b3⟩ := hq
  have := den_pos' q
  exact sm_mul ⟨a1, a2⟩ ⟨by omega, b3⟩
theorem acompare_c (p q : Rat) (hp : sm p) (hq : sm q) (m : Mem) : Gives Tryz.prog 54 [.agg [.int .i64 (Rat.num (p)), .int .i64 ((Rat.den (p) : Nat) : Int)], .agg [.int .i64 (Rat.num (q)), .int .i64 ((Rat.den (q) : Nat) : Int)]] m (.int .i64 (cmpQ p q)) := by
  rw [← cmpQ_int]
  exact acompare_r _ _ _ _ (sm_prod hp hq) (sm_prod hq hp) m
theorem bcmp_c (p q : Rat) (hp : sm p) (hq : sm q) (m : Mem) : Gives Tryz.prog 16 [.agg [.int .i64 (Rat.num (p)), .int .i64 ((Rat.den (p) : Nat) : Int)], .agg [.int .i64 (Rat.num (q)), .int .i64 ((Rat.den (q) : Nat) : Int)]] m (.int .i64 (cmpQ p q)) := by
  rw [← cmpQ_int]
  exact bcmp_r _ _ _ _ (sm_prod hp hq) (sm_prod hq hp) m
theorem B64_num {q : Rat} (h : sm q) : B64 q.num := by obtain ⟨h1, h2, h3⟩ := h; constructor <;> omega
theorem B64_den {q : Rat} (h : sm q) : B64 (q.den : Int) := by obtain ⟨h1, h2, h3⟩ := h; have := den_pos' q; constructor <;> omega
theorem fitSign {g : Int} {d : Int} : (if d < 0 then -g else g) = (if d < 0 then -g else g) := rfl
/-- what a fraction brought to lowest terms is bounded by -/
theorem fit_bd {n d : Int} (hd : d ≠ 0) (hn : B64 n) (hd2 : B64 d) : B64 (Rat.divInt n d).num ∧ B64 ((Rat.divInt n d).den : Int) ∧ 1 ≤ (Int.gcd n d : Int) ∧ (Int.gcd n d : Int) ≤ 9223372036854775807 := by
  have hg : 0 < (Int.gcd n d : Int) := by
    have := Int.gcd_pos_iff.2 (Or.inr hd : n ≠ 0 ∨ d ≠ 0)
    omega
  have h1 : (n.tdiv (if d < 0 then -(Int.gcd n d : Int) else Int.gcd n d)).natAbs ≤ n.natAbs := by
    rw [Int.natAbs_tdiv]; exact Nat.div_le_self _ _
  have h2 : (d.tdiv (if d < 0 then -(Int.gcd n d : Int) else Int.gcd n d)).natAbs ≤ d.natAbs := by
    rw [Int.natAbs_tdiv]; exact Nat.div_le_self _ _
  rw [fit_num hd, fit_den hd]
  have h3 : Int.gcd n d ≤ d.natAbs := Nat.le_of_dvd (by omega) (Int.gcd_dvd_natAbs_right n d)
  unfold B64 at *
  omega
end Go.Proofs.YtbcjcbcakcdnfaaGreat
/- contracts: computing with fractions -/
namespace Go.Proofs.YtbcjcbcakcdnfaaGreat
open Go.RowKit
attribute [local irreducible] WA WOs WDs WAn qThen qBlock tput
set_option maxHeartbeats 1000000
set_option maxRecDepth 20000
set_option linter.unusedSimpArgs false
set_option linter.unusedVariables false
theorem rsmall_dec (q : Rat) : decide ((-1000000000 ≤ q.num ∧ q.num ≤ 1000000000) ∧ (q.den : Int) ≤ 1000000000) = smB q := by
  unfold smB
  exact decide_eq_decide.2 (by unfold sm; omega)
theorem uC3_83_4 {N : Nat} {l : List Oper} {t : List (Nat × V)} {m : Mem} {Q : Exit → List (Nat × V) → Mem → Prop} (h : RgN Tryz.prog N l t m Q (fun i => if i == 8 then .f else if i == 7 then .a else .p) [.one 0, .one 1, .one 2, .one 3, .one 4, .one 5, .one 6, .one 7, .one 8]) : WA Tryz.prog N (.region 4 l.toArray true) t m Q := d_rgN h
theorem fit_w (b : Nat) (n d : Int) (g : Bool) (hd : d ≠ 0) (hn : B64 n) (hd2 : B64 d) : CallW Tryz.prog 83 [.ptr b 0 0, .int .i64 n, .int .i64 d] b (.cells .own 90 1 [[.bool (g)]]) (.cells .own 90 1 [[.bool (g || !smB (Rat.divInt n d))]]) (.agg [.int .i64 (Rat.num (cut (Rat.divInt n d))), .int .i64 ((Rat.den (cut (Rat.divInt n d)) : Nat) : Int)]) := by
  obtain ⟨b1, b2, b3, b4⟩ := fit_bd hd hn hd2
  have e1 := (fit_num (n := n) hd).symm
  have e2 := (fit_den (n := n) hd).symm
  have hq0 := den_pos' (Rat.divInt n d)
  generalize Rat.divInt n d = q at *
  have hck := fun m => acheck_c q.num q.den b1 b2 m
  rw [frErr_raw] at hck
  by_cases hneg : d < 0
  · rw [if_pos hneg] at e1 e2
    by_cases hs : sm q
    · rw [cut_sm hs, smB_of hs, Bool.not_true, Bool.or_false]
      rw [if_pos hs] at hck
      refine CallW_in (tvs := [.ptr 0 0 0, .v (.int .i64 n), .v (.int .i64 d)]) Tryz.func83 rfl Tryz.ntmps83 Tryz.results83 (by kernel_rfl) (by simp) (by simp [flatL, V.flat]) rfl fun m Q hQ => ?_
      simp only [List.map_cons, List.map_nil, TV.inst]
      (have FX := And.intro e1 e2; repeat' (first | (refine sx ?_ ?_ <;> intro h <;> first | (exfalso; omega) | skip) | (refine g_op ?_; refine g_call ?_; refine g_args ?_; (first | refine s_fn (agcd_c _ _ ?_ ?_ ?_ ?_ _) ?_ | refine s_fn (hck _) ?_ | refine s_fn (awhole_c _ _) ?_) <;> try first | omega | assumption) | refine ny ?_ | refine WA_block ?_ | (refine uC3_83_4 ?_; refine ⟨by kernel_rfl, ?_⟩) | ((first | refine grp_cons (fun _ => agcd_c _ _ ?_ ?_ ?_ ?_ _) ?_ | refine grp_cons (fun _ => hck _) ?_ | refine grp_cons (fun _ => awhole_c _ _) ?_) <;> try first | omega | assumption) | (refine g_d ?_; refine d_args ?_; (first | refine d_fn (agcd_c _ _ ?_ ?_ ?_ ?_ _) ?_ | refine d_fn (hck _) ?_ | refine d_fn (awhole_c _ _) ?_ | refine d_fnQ (fun _ => agcd_c _ _ ?_ ?_ ?_ ?_ _) ?_ | refine d_fnQ (fun _ => hck _) ?_ | refine d_fnQ (fun _ => awhole_c _ _) ?_) <;> try first | omega | assumption) | (refine g_d ?_; (first | refine d_fnY (agcd_c _ _ ?_ ?_ ?_ ?_ _) ?_ | refine d_fnY (hck _) ?_ | refine d_fnY (awhole_c _ _) ?_) <;> try first | omega | assumption)))
      all_goals (refine r_esW hQ ?_ ?_ <;> try with_reducible rfl)
    · have hb : smB q = false := decide_eq_false hs
      have hc : cut q = 0 := if_neg hs
      rw [hc, hb, Bool.not_false, Bool.or_true]
      rw [if_neg hs] at hck
      refine CallW_in (tvs := [.ptr 0 0 0, .v (.int .i64 n), .v (.int .i64 d)]) Tryz.func83 rfl Tryz.ntmps83 Tryz.results83 (by kernel_rfl) (by simp) (by simp [flatL, V.flat]) rfl fun m Q hQ => ?_
      simp only [List.map_cons, List.map_nil, TV.inst]
      (have FX := And.intro e1 e2; repeat' (first | (refine sx ?_ ?_ <;> intro h <;> first | (exfalso; omega) | skip) | (refine g_op ?_; refine g_call ?_; refine g_args ?_; (first | refine s_fn (agcd_c _ _ ?_ ?_ ?_ ?_ _) ?_ | refine s_fn (hck _) ?_ | refine s_fn (awhole_c _ _) ?_) <;> try first | omega | assumption) | refine ny ?_ | refine WA_block ?_ | (refine uC3_83_4 ?_; refine ⟨by kernel_rfl, ?_⟩) | ((first | refine grp_cons (fun _ => agcd_c _ _ ?_ ?_ ?_ ?_ _) ?_ | refine grp_cons (fun _ => hck _) ?_ | refine grp_cons (fun _ => awhole_c _ _) ?_) <;> try first | omega | assumption) | (refine g_d ?_; refine d_args ?_; (first | refine d_fn (agcd_c _ _ ?_ ?_ ?_ ?_ _) ?_ | refine d_fn (hck _) ?_ | refine d_fn (awhole_c _ _) ?_ | refine d_fnQ (fun _ => agcd_c _ _ ?_ ?_ ?_ ?_ _) ?_ | refine d_fnQ (fun _ => hck _) ?_ | refine d_fnQ (fun _ => awhole_c _ _) ?_) <;> try first | omega | assumption) | (refine g_d ?_; (first | refine d_fnY (agcd_c _ _ ?_ ?_ ?_ ?_ _) ?_ | refine d_fnY (hck _) ?_ | refine d_fnY (awhole_c _ _) ?_) <;> try first | omega | assumption)))
      all_goals ((refine r_esW hQ ?_ ?_ <;> try with_reducible rfl); rfl)
  · rw [if_neg hneg] at e1 e2
    have e3 : d / (Int.gcd n d : Int) = q.den := by rw [← e2, Int.tdiv_eq_ediv_of_nonneg (by omega)]
    by_cases hs : sm q
    · rw [cut_sm hs, smB_of hs, Bool.not_true, Bool.or_false]
      rw [if_pos hs] at hck
      refine CallW_in (tvs := [.ptr 0 0 0, .v (.int .i64 n), .v (.int .i64 d)]) Tryz.func83 rfl Tryz.ntmps83 Tryz.results83 (by kernel_rfl) (by simp) (by simp [flatL, V.flat]) rfl fun m Q hQ => ?_
      simp only [List.map_cons, List.map_nil, TV.inst]
      (have FX := And.intro e1 (And.intro e2 e3); repeat' (first | (refine sx ?_ ?_ <;> intro h <;> first | (exfalso; omega) | skip) | (refine g_op ?_; refine g_call ?_; refine g_args ?_; (first | refine s_fn (agcd_c _ _ ?_ ?_ ?_ ?_ _) ?_ | refine s_fn (hck _) ?_ | refine s_fn (awhole_c _ _) ?_) <;> try first | omega | assumption) | refine ny ?_ | refine WA_block ?_ | (refine uC3_83_4 ?_; refine ⟨by kernel_rfl, ?_⟩) | ((first | refine grp_cons (fun _ => agcd_c _ _ ?_ ?_ ?_ ?_ _) ?_ | refine grp_cons (fun _ => hck _) ?_ | refine grp_cons (fun _ => awhole_c _ _) ?_) <;> try first | omega | assumption) | (refine g_d ?_; refine d_args ?_; (first | refine d_fn (agcd_c _ _ ?_ ?_ ?_ ?_ _) ?_ | refine d_fn (hck _) ?_ | refine d_fn (awhole_c _ _) ?_ | refine d_fnQ (fun _ => agcd_c _ _ ?_ ?_ ?_ ?_ _) ?_ | refine d_fnQ (fun _ => hck _) ?_ | refine d_fnQ (fun _ => awhole_c _ _) ?_) <;> try first | omega | assumption) | (refine g_d ?_; (first | refine d_fnY (agcd_c _ _ ?_ ?_ ?_ ?_ _) ?_ | refine d_fnY (hck _) ?_ | refine d_fnY (awhole_c _ _) ?_) <;> try first | omega | assumption)))
      all_goals (refine r_esW hQ ?_ ?_ <;> try with_reducible rfl)
    · have hb : smB q = false := decide_eq_false hs
      have hc : cut q = 0 := if_neg hs
      rw [hc, hb, Bool.not_false, Bool.or_true]
      rw [if_neg hs] at hck
      refine CallW_in (tvs := [.ptr 0 0 0, .v (.int .i64 n), .v (.int .i64 d)]) Tryz.func83 rfl Tryz.ntmps83 Tryz.results83 (by kernel_rfl) (by simp) (by simp [flatL, V.flat]) rfl fun m Q hQ => ?_
      simp only [List.map_cons, List.map_nil, TV.inst]
      (have FX := And.intro e1 (And.intro e2 e3); repeat' (first | (refine sx ?_ ?_ <;> intro h <;> first | (exfalso; omega) | skip) | (refine g_op ?_; refine g_call ?_; refine g_args ?_; (first | refine s_fn (agcd_c _ _ ?_ ?_ ?_ ?_ _) ?_ | refine s_fn (hck _) ?_ | refine s_fn (awhole_c _ _) ?_) <;> try first | omega | assumption) | refine ny ?_ | refine WA_block ?_ | (refine uC3_83_4 ?_; refine ⟨by kernel_rfl, ?_⟩) | ((first | refine grp_cons (fun _ => agcd_c _ _ ?_ ?_ ?_ ?_ _) ?_ | refine grp_cons (fun _ => hck _) ?_ | refine grp_cons (fun _ => awhole_c _ _) ?_) <;> try first | omega | assumption) | (refine g_d ?_; refine d_args ?_; (first | refine d_fn (agcd_c _ _ ?_ ?_ ?_ ?_ _) ?_ | refine d_fn (hck _) ?_ | refine d_fn (awhole_c _ _) ?_ | refine d_fnQ (fun _ => agcd_c _ _ ?_ ?_ ?_ ?_ _) ?_ | refine d_fnQ (fun _ => hck _) ?_ | refine d_fnQ (fun _ => awhole_c _ _) ?_) <;> try first | omega | assumption) | (refine g_d ?_; (first | refine d_fnY (agcd_c _ _ ?_ ?_ ?_ ?_ _) ?_ | refine d_fnY (hck _) ?_ | refine d_fnY (awhole_c _ _) ?_) <;> try first | omega | assumption)))
      all_goals ((refine r_esW hQ ?_ ?_ <;> try with_reducible rfl); rfl)
theorem uC3_74_4 {N : Nat} {l : List Oper} {t : List (Nat × V)} {m : Mem} {Q : Exit → List (Nat × V) → Mem → Prop} (h : RgN Tryz.prog N l t m Q (fun i => if i == 7 then .w else .p) [.one 0, .one 1, .one 2, .one 3, .one 4, .one 5, .one 6, .one 7]) : WA Tryz.prog N (.region 4 l.toArray true) t m Q := d_rgN h
theorem blow_c (n d : Int) (hd : d ≠ 0) (hn : B64 n) (hd2 : B64 d) (m : Mem) : Gives Tryz.prog 74 [.int .i64 n, .int .i64 d] m (.agg [.int .i64 (Rat.num (Rat.divInt n d)), .int .i64 ((Rat.den (Rat.divInt n d) : Nat) : Int)]) := by
  obtain ⟨b1, b2, b3, b4⟩ := fit_bd hd hn hd2
  have e1 := (fit_num (n := n) hd).symm
  have e2 := (fit_den (n := n) hd).symm
  generalize Rat.divInt n d = q at *
  by_cases hneg : d < 0
  · rw [if_pos hneg] at e1 e2
    refine Gives_in Tryz.func74 rfl Tryz.ntmps74 Tryz.results74 (by kernel_rfl) (by simp) rfl fun Q hQ => ?_
    (have FX := And.intro e1 e2; repeat' (first | (refine sx ?_ ?_ <;> intro h <;> first | (exfalso; omega) | skip) | (refine g_op ?_; refine g_call ?_; refine g_args ?_; (first | refine s_fn (bgcd_c _ _ ?_ ?_ ?_ ?_ _) ?_) <;> try first | omega | assumption) | refine ny ?_ | refine WA_block ?_ | (refine uC3_74_4 ?_; refine ⟨by kernel_rfl, ?_⟩) | ((first | refine grp_cons (fun _ => bgcd_c _ _ ?_ ?_ ?_ ?_ _) ?_) <;> try first | omega | assumption) | (refine g_d ?_; refine d_args ?_; (first | refine d_fn (bgcd_c _ _ ?_ ?_ ?_ ?_ _) ?_ | refine d_fnQ (fun _ => bgcd_c _ _ ?_ ?_ ?_ ?_ _) ?_) <;> try first | omega | assumption) | (refine g_d ?_; (first | refine d_fnY (bgcd_c _ _ ?_ ?_ ?_ ?_ _) ?_) <;> try first | omega | assumption)))
    all_goals (refine r_es hQ ?_; try with_reducible rfl)
  · rw [if_neg hneg] at e1 e2
    have e3 : d / (Int.gcd n d : Int) = q.den := by rw [← e2, Int.tdiv_eq_ediv_of_nonneg (by omega)]
    refine Gives_in Tryz.func74 rfl Tryz.ntmps74 Tryz.results74 (by kernel_rfl) (by simp) rfl fun Q hQ => ?_
    (have FX := And.intro e1 (And.intro e2 e3); repeat' (first | (refine sx ?_ ?_ <;> intro h <;> first | (exfalso; omega) | skip) | (refine g_op ?_; refine g_call ?_; refine g_args ?_; (first | refine s_fn (bgcd_c _ _ ?_ ?_ ?_ ?_ _) ?_) <;> try first | omega | assumption) | refine ny ?_ | refine WA_block ?_ | (refine uC3_74_4 ?_; refine ⟨by kernel_rfl, ?_⟩) | ((first | refine grp_cons (fun _ => bgcd_c _ _ ?_ ?_ ?_ ?_ _) ?_) <;> try first | omega | assumption) | (refine g_d ?_; refine d_args ?_; (first | refine d_fn (bgcd_c _ _ ?_ ?_ ?_ ?_ _) ?_ | refine d_fnQ (fun _ => bgcd_c _ _ ?_ ?_ ?_ ?_ _) ?_) <;> try first | omega | assumption) | (refine g_d ?_; (first | refine d_fnY (bgcd_c _ _ ?_ ?_ ?_ ?_ _) ?_) <;> try first | omega | assumption)))
    all_goals (refine r_es hQ ?_; try with_reducible rfl)
theorem rSmall_q (q : Rat) (m : Mem) : Gives Tryz.prog 75 [.agg [.int .i64 (Rat.num (q)), .int .i64 ((Rat.den (q) : Nat) : Int)]] m (.bool (smB q)) := by
  rw [← rsmall_dec]
  exact rSmall_c _ _ _
attribute [local irreducible] smB
theorem uC3_47_2 {N : Nat} {l : List Oper} {t : List (Nat × V)} {m : Mem} {Q : Exit → List (Nat × V) → Mem → Prop} (h : RgN Tryz.prog N l t m Q (fun i => if i == 3 then .w else if i == 0 || i == 1 || i == 2 then .q else .p) [.one 0, .one 1, .one 2, .one 3, .one 4]) : WA Tryz.prog N (.region 2 l.toArray true) t m Q := d_rgN h
theorem rsmall_c (n d : Int) (hd : d ≠ 0) (hn : B64 n) (hd2 : B64 d) (m : Mem) : Gives Tryz.prog 47 [.int .i64 n, .int .i64 d] m (.tup [.agg [.int .i64 (Rat.num (Rat.divInt n d)), .int .i64 ((Rat.den (Rat.divInt n d) : Nat) : Int)], .bool (smB (Rat.divInt n d))]) := by
  refine Gives_in Tryz.func47 rfl Tryz.ntmps47 Tryz.results47 (by kernel_rfl) (by simp) rfl fun Q hQ => ?_
  (repeat' (first | (refine sx ?_ ?_ <;> intro h <;> first | (exfalso; omega) | skip) | (refine g_op ?_; refine g_call ?_; refine g_args ?_; (first | refine s_fn (blow_c _ _ hd hn hd2 _) ?_ | refine s_fn (rSmall_q _ _) ?_) <;> try first | omega | assumption) | refine ny ?_ | refine WA_block ?_ | (refine uC3_47_2 ?_; refine ⟨by kernel_rfl, ?_⟩) | ((first | refine grp_cons (fun _ => blow_c _ _ hd hn hd2 _) ?_ | refine grp_cons (fun _ => rSmall_q _ _) ?_) <;> try first | omega | assumption) | (refine g_d ?_; refine d_args ?_; (first | refine d_fn (blow_c _ _ hd hn hd2 _) ?_ | refine d_fn (rSmall_q _ _) ?_ | refine d_fnQ (fun _ => blow_c _ _ hd hn hd2 _) ?_ | refine d_fnQ (fun _ => rSmall_q _ _) ?_) <;> try first | omega | assumption) | (refine g_d ?_; (first | refine d_fnY (blow_c _ _ hd hn hd2 _) ?_ | refine d_fnY (rSmall_q _ _) ?_) <;> try first | omega | assumption)))
  all_goals (refine r_es hQ ?_; try with_reducible rfl)


theorem radd_c (a b : Rat) (ha : sm a) (hb : sm b) (m : Mem) : Gives Tryz.prog 14 [.agg [.int .i64 (Rat.num (a)), .int .i64 ((Rat.den (a) : Nat) : Int)], .agg [.int .i64 (Rat.num (b)), .int .i64 ((Rat.den (b) : Nat) : Int)]] m (.tup [.agg [.int .i64 (Rat.num (a + b)), .int .i64 ((Rat.den (a + b) : Nat) : Int)], .bool (smB (a + b))]) := by
  rw [← add_fit a b]
  have q1 := sm_prod ha hb
  have q2 := sm_prod hb ha
  have q3 := sm_den ha hb
  have e1 : B64 (a.num * (b.den : Int) + b.num * (a.den : Int)) := by constructor <;> omega
  have e2 : B64 ((a.den : Int) * (b.den : Int)) := by constructor <;> omega
  have e3 : (a.den : Int) * (b.den : Int) ≠ 0 := by omega
  refine Gives_in Tryz.func14 rfl Tryz.ntmps14 Tryz.results14 (by kernel_rfl) (by simp) rfl fun Q hQ => ?_
  (have FX := And.intro q1 (And.intro q2 q3); repeat' (first | (refine sx ?_ ?_ <;> intro h <;> first | (exfalso; omega) | skip) | (refine g_op ?_; refine g_call ?_; refine g_args ?_; (first | refine s_fn (rsmall_c _ _ ?_ ?_ ?_ _) ?_) <;> try first | omega | assumption) | refine ny ?_ | refine WA_block ?_))
  all_goals (refine r_es hQ ?_; try with_reducible rfl)

theorem rsub_c (a b : Rat) (ha : sm a) (hb : sm b) (m : Mem) : Gives Tryz.prog 15 [.agg [.int .i64 (Rat.num (a)), .int .i64 ((Rat.den (a) : Nat) : Int)], .agg [.int .i64 (Rat.num (b)), .int .i64 ((Rat.den (b) : Nat) : Int)]] m (.tup [.agg [.int .i64 (Rat.num (a - b)), .int .i64 ((Rat.den (a - b) : Nat) : Int)], .bool (smB (a - b))]) := by
  rw [← sub_fit a b]
  have q1 := sm_prod ha hb
  have q2 := sm_prod hb ha
  have q3 := sm_den ha hb
  have e1 : B64 (a.num * (b.den : Int) - b.num * (a.den : Int)) := by constructor <;> omega
  have e2 : B64 ((a.den : Int) * (b.den : Int)) := by constructor <;> omega
  have e3 : (a.den : Int) * (b.den : Int) ≠ 0 := by omega
  refine Gives_in Tryz.func15 rfl Tryz.ntmps15 Tryz.results15 (by kernel_rfl) (by simp) rfl fun Q hQ => ?_
  (have FX := And.intro q1 (And.intro q2 q3); repeat' (first | (refine sx ?_ ?_ <;> intro h <;> first | (exfalso; omega) | skip) | (refine g_op ?_; refine g_call ?_; refine g_args ?_; (first | refine s_fn (rsmall_c _ _ ?_ ?_ ?_ _) ?_) <;> try first | omega | assumption) | refine ny ?_ | refine WA_block ?_))
  all_goals (refine r_es hQ ?_; try with_reducible rfl)

theorem rmul_c (a b : Rat) (ha : sm a) (hb : sm b) (m : Mem) : Gives Tryz.prog 129 [.agg [.int .i64 (Rat.num (a)), .int .i64 ((Rat.den (a) : Nat) : Int)], .agg [.int .i64 (Rat.num (b)), .int .i64 ((Rat.den (b) : Nat) : Int)]] m (.tup [.agg [.int .i64 (Rat.num (a * b)), .int .i64 ((Rat.den (a * b) : Nat) : Int)], .bool (smB (a * b))]) := by
  rw [← mul_fit a b]
  have q1 := sm_mul ⟨ha.1, ha.2.1⟩ ⟨hb.1, hb.2.1⟩
  have q3 := sm_den ha hb
  have e1 : B64 (a.num * b.num) := by constructor <;> omega
  have e2 : B64 ((a.den : Int) * (b.den : Int)) := by constructor <;> omega
  have e3 : (a.den : Int) * (b.den : Int) ≠ 0 := by omega
  refine Gives_in Tryz.func129 rfl Tryz.ntmps129 Tryz.results129 (by kernel_rfl) (by simp) rfl fun Q hQ => ?_
  (have FX := And.intro q1 q3; repeat' (first | (refine sx ?_ ?_ <;> intro h <;> first | (exfalso; omega) | skip) | (refine g_op ?_; refine g_call ?_; refine g_args ?_; (first | refine s_fn (rsmall_c _ _ ?_ ?_ ?_ _) ?_) <;> try first | omega | assumption) | refine ny ?_ | refine WA_block ?_))
  all_goals (refine r_es hQ ?_; try with_reducible rfl)
theorem sm_dn {a b : Rat} (ha : sm a) (hb : sm b) (h0 : b.num ≠ 0) : (-1000000000000000000 ≤ (a.den : Int) * b.num ∧ (a.den : Int) * b.num ≤ 1000000000000000000) ∧ (a.den : Int) * b.num ≠ 0 := by
  have := den_pos' a
  exact ⟨sm_mul ⟨by omega, ha.2.2⟩ ⟨hb.1, hb.2.1⟩, Int.mul_ne_zero (by omega) h0⟩

theorem rdiv_c (a b : Rat) (ha : sm a) (hb : sm b) (h0 : b ≠ 0) (m : Mem) : Gives Tryz.prog 113 [.agg [.int .i64 (Rat.num (a)), .int .i64 ((Rat.den (a) : Nat) : Int)], .agg [.int .i64 (Rat.num (b)), .int .i64 ((Rat.den (b) : Nat) : Int)]] m (.tup [.agg [.int .i64 (Rat.num (a / b)), .int .i64 ((Rat.den (a / b) : Nat) : Int)], .bool (smB (a / b))]) := by
  rw [← div_fit a b]
  have q1 := sm_prod ha hb
  obtain ⟨q3, e3⟩ := sm_dn ha hb (num_ne h0)
  have e1 : B64 (a.num * (b.den : Int)) := by constructor <;> omega
  have e2 : B64 ((a.den : Int) * b.num) := by constructor <;> omega
  refine Gives_in Tryz.func113 rfl Tryz.ntmps113 Tryz.results113 (by kernel_rfl) (by simp) rfl fun Q hQ => ?_
  (have FX := And.intro q1 q3; repeat' (first | (refine sx ?_ ?_ <;> intro h <;> first | (exfalso; omega) | skip) | (refine g_op ?_; refine g_call ?_; refine g_args ?_; (first | refine s_fn (rsmall_c _ _ ?_ ?_ ?_ _) ?_) <;> try first | omega | assumption) | refine ny ?_ | refine WA_block ?_))
  all_goals (refine r_es hQ ?_; try with_reducible rfl)

theorem add_w (k : Nat) (a b : Rat) (g : Bool) (ha : sm a) (hb : sm b) : CallW Tryz.prog 69 [.ptr k 0 0, .agg [.int .i64 (Rat.num (a)), .int .i64 ((Rat.den (a) : Nat) : Int)], .agg [.int .i64 (Rat.num (b)), .int .i64 ((Rat.den (b) : Nat) : Int)]] k (.cells .own 90 1 [[.bool (g)]]) (.cells .own 90 1 [[.bool (g || !smB (a + b))]]) (.agg [.int .i64 (Rat.num (cut (a + b))), .int .i64 ((Rat.den (cut (a + b)) : Nat) : Int)]) := by
  rw [← add_fit a b]
  have q1 := sm_prod ha hb
  have q2 := sm_prod hb ha
  have q3 := sm_den ha hb
  have e1 : B64 (a.num * (b.den : Int) + b.num * (a.den : Int)) := by constructor <;> omega
  have e2 : B64 ((a.den : Int) * (b.den : Int)) := by constructor <;> omega
  have e3 : (a.den : Int) * (b.den : Int) ≠ 0 := by omega
  refine CallW_in (tvs := [.ptr 0 0 0, .v (.agg [.int .i64 (Rat.num (a)), .int .i64 ((Rat.den (a) : Nat) : Int)]), .v (.agg [.int .i64 (Rat.num (b)), .int .i64 ((Rat.den (b) : Nat) : Int)])]) Tryz.func69 rfl Tryz.ntmps69 Tryz.results69 (by kernel_rfl) (by simp) (by simp [flatL, V.flat]) rfl fun m Q hQ => ?_
  simp only [List.map_cons, List.map_nil, TV.inst]
  (have FX := And.intro q1 (And.intro q2 q3); repeat' (first | (refine sx ?_ ?_ <;> intro h <;> first | (exfalso; omega) | skip) | (refine g_op ?_; refine g_call ?_; refine g_args ?_; (first | refine s_fnW (fit_w _ _ _ _ ?_ ?_ ?_) ?_) <;> try first | omega | assumption) | refine ny ?_ | refine WA_block ?_))
  all_goals (refine r_esW hQ ?_ ?_ <;> try with_reducible rfl)

theorem sub_w (k : Nat) (a b : Rat) (g : Bool) (ha : sm a) (hb : sm b) : CallW Tryz.prog 51 [.ptr k 0 0, .agg [.int .i64 (Rat.num (a)), .int .i64 ((Rat.den (a) : Nat) : Int)], .agg [.int .i64 (Rat.num (b)), .int .i64 ((Rat.den (b) : Nat) : Int)]] k (.cells .own 90 1 [[.bool (g)]]) (.cells .own 90 1 [[.bool (g || !smB (a - b))]]) (.agg [.int .i64 (Rat.num (cut (a - b))), .int .i64 ((Rat.den (cut (a - b)) : Nat) : Int)]) := by
  rw [← sub_fit a b]
  have q1 := sm_prod ha hb
  have q2 := sm_prod hb ha
  have q3 := sm_den ha hb
  have e1 : B64 (a.num * (b.den : Int) - b.num * (a.den : Int)) := by constructor <;> omega
  have e2 : B64 ((a.den : Int) * (b.den : Int)) := by constructor <;> omega
  have e3 : (a.den : Int) * (b.den : Int) ≠ 0 := by omega
  refine CallW_in (tvs := [.ptr 0 0 0, .v (.agg [.int .i64 (Rat.num (a)), .int .i64 ((Rat.den (a) : Nat) : Int)]), .v (.agg [.int .i64 (Rat.num (b)), .int .i64 ((Rat.den (b) : Nat) : Int)])]) Tryz.func51 rfl Tryz.ntmps51 Tryz.results51 (by kernel_rfl) (by simp) (by simp [flatL, V.flat]) rfl fun m Q hQ => ?_
  simp only [List.map_cons, List.map_nil, TV.inst]
  (have FX := And.intro q1 (And.intro q2 q3); repeat' (first | (refine sx ?_ ?_ <;> intro h <;> first | (exfalso; omega) | skip) | (refine g_op ?_; refine g_call ?_; refine g_args ?_; (first | refine s_fnW (fit_w _ _ _ _ ?_ ?_ ?_) ?_) <;> try first | omega | assumption) | refine ny ?_ | refine WA_block ?_))
  all_goals (refine r_esW hQ ?_ ?_ <;> try with_reducible rfl)

theorem mul_w (k : Nat) (a b : Rat) (g : Bool) (ha : sm a) (hb : sm b) : CallW Tryz.prog 72 [.ptr k 0 0, .agg [.int .i64 (Rat.num (a)), .int .i64 ((Rat.den (a) : Nat) : Int)], .agg [.int .i64 (Rat.num (b)), .int .i64 ((Rat.den (b) : Nat) : Int)]] k (.cells .own 90 1 [[.bool (g)]]) (.cells .own 90 1 [[.bool (g || !smB (a * b))]]) (.agg [.int .i64 (Rat.num (cut (a * b))), .int .i64 ((Rat.den (cut (a * b)) : Nat) : Int)]) := by
  rw [← mul_fit a b]
  have q1 := sm_mul ⟨ha.1, ha.2.1⟩ ⟨hb.1, hb.2.1⟩
  have q3 := sm_den ha hb
  have e1 : B64 (a.num * b.num) := by constructor <;> omega
  have e2 : B64 ((a.den : Int) * (b.den : Int)) := by constructor <;> omega
  have e3 : (a.den : Int) * (b.den : Int) ≠ 0 := by omega
  refine CallW_in (tvs := [.ptr 0 0 0, .v (.agg [.int .i64 (Rat.num (a)), .int .i64 ((Rat.den (a) : Nat) : Int)]), .v (.agg [.int .i64 (Rat.num (b)), .int .i64 ((Rat.den (b) : Nat) : Int)])]) Tryz.func72 rfl Tryz.ntmps72 Tryz.results72 (by kernel_rfl) (by simp) (by simp [flatL, V.flat]) rfl fun m Q hQ => ?_
  simp only [List.map_cons, List.map_nil, TV.inst]
  (have FX := And.intro q1 q3; repeat' (first | (refine sx ?_ ?_ <;> intro h <;> first | (exfalso; omega) | skip) | (refine g_op ?_; refine g_call ?_; refine g_args ?_; (first | refine s_fnW (fit_w _ _ _ _ ?_ ?_ ?_) ?_) <;> try first | omega | assumption) | refine ny ?_ | refine WA_block ?_))
  all_goals (refine r_esW hQ ?_ ?_ <;> try with_reducible rfl)

theorem quo_w (k : Nat) (a b : Rat) (g : Bool) (ha : sm a) (hb : sm b) (h0 : b ≠ 0) : CallW Tryz.prog 73 [.ptr k 0 0, .agg [.int .i64 (Rat.num (a)), .int .i64 ((Rat.den (a) : Nat) : Int)], .agg [.int .i64 (Rat.num (b)), .int .i64 ((Rat.den (b) : Nat) : Int)]] k (.cells .own 90 1 [[.bool (g)]]) (.cells .own 90 1 [[.bool (g || !smB (a / b))]]) (.agg [.int .i64 (Rat.num (cut (a / b))), .int .i64 ((Rat.den (cut (a / b)) : Nat) : Int)]) := by
  rw [← div_fit a b]
  have q1 := sm_prod ha hb
  have hb0 := num_ne h0
  obtain ⟨q3, e3⟩ := sm_dn ha hb hb0
  have e1 : B64 (a.num * (b.den : Int)) := by constructor <;> omega
  have e2 : B64 ((a.den : Int) * b.num) := by constructor <;> omega
  refine CallW_in (tvs := [.ptr 0 0 0, .v (.agg [.int .i64 (Rat.num (a)), .int .i64 ((Rat.den (a) : Nat) : Int)]), .v (.agg [.int .i64 (Rat.num (b)), .int .i64 ((Rat.den (b) : Nat) : Int)])]) Tryz.func73 rfl Tryz.ntmps73 Tryz.results73 (by kernel_rfl) (by simp) (by simp [flatL, V.flat]) rfl fun m Q hQ => ?_
  simp only [List.map_cons, List.map_nil, TV.inst]
  (have FX := And.intro q1 (And.intro q3 hb0); repeat' (first | (refine sx ?_ ?_ <;> intro h <;> first | (exfalso; omega) | skip) | (refine g_op ?_; refine g_call ?_; refine g_args ?_; (first | refine s_fnW (fit_w _ _ _ _ ?_ ?_ ?_) ?_) <;> try first | omega | assumption) | refine ny ?_ | refine WA_block ?_))
  all_goals first | contradiction | (refine r_esW hQ ?_ ?_ <;> try with_reducible rfl)
theorem quo0_w (k : Nat) (a : Rat) (g : Bool) : CallW Tryz.prog 73 [.ptr k 0 0, .agg [.int .i64 (Rat.num (a)), .int .i64 ((Rat.den (a) : Nat) : Int)], .agg [.int .i64 0, .int .i64 1]] k (.cells .own 90 1 [[.bool (g)]]) (.cells .own 90 1 [[.bool (true)]]) (.agg [.int .i64 0, .int .i64 1]) := by
  refine CallW_in (tvs := [.ptr 0 0 0, .v (.agg [.int .i64 (Rat.num (a)), .int .i64 ((Rat.den (a) : Nat) : Int)]), .v (.agg [.int .i64 0, .int .i64 1])]) Tryz.func73 rfl Tryz.ntmps73 Tryz.results73 (by kernel_rfl) (by simp) (by simp [flatL, V.flat]) rfl fun m Q hQ => ?_
  simp only [List.map_cons, List.map_nil, TV.inst]
  (repeat' (first | (refine sx ?_ ?_ <;> intro h <;> first | (exfalso; omega) | skip) | (refine g_op ?_; refine g_call ?_; refine g_args ?_; (first | refine s_fn (awhole_c _ _) ?_) <;> try first | omega | assumption) | refine ny ?_ | refine WA_block ?_))
  all_goals (refine r_esW hQ ?_ ?_ <;> try with_reducible rfl)
def quoQ (a b : Rat) : Rat := if b = 0 then 0 else cut (a / b)
def quoB (a b : Rat) : Bool := if b = 0 then true else !smB (a / b)
theorem quoQ_w (k : Nat) (a b : Rat) (g : Bool) (ha : sm a) (hb : sm b) : CallW Tryz.prog 73 [.ptr k 0 0, .agg [.int .i64 (Rat.num (a)), .int .i64 ((Rat.den (a) : Nat) : Int)], .agg [.int .i64 (Rat.num (b)), .int .i64 ((Rat.den (b) : Nat) : Int)]] k (.cells .own 90 1 [[.bool (g)]]) (.cells .own 90 1 [[.bool (g || quoB a b)]]) (.agg [.int .i64 (Rat.num (quoQ a b)), .int .i64 ((Rat.den (quoQ a b) : Nat) : Int)]) := by
  by_cases h : b = 0
  · subst h
    have h1 : quoB a 0 = true := if_pos rfl
    have h2 : quoQ a 0 = 0 := if_pos rfl
    rw [h1, h2, Bool.or_true]
    exact quo0_w k a g
  · have h1 : quoB a b = !smB (a / b) := if_neg h
    have h2 : quoQ a b = cut (a / b) := if_neg h
    rw [h1, h2]
    exact quo_w k a b g ha hb h
end Go.Proofs.YtbcjcbcakcdnfaaGreat
