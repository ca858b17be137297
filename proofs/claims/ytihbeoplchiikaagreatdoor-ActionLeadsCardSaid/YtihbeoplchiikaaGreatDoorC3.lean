/- contracts: computing with fractions -/
import Derived.Test.YtihbeoplchiikaaGreatDoorGA
set_option linter.unusedSimpArgs false
set_option linter.unusedVariables false
namespace Go.Proofs.YtihbeoplchiikaaGreatDoor
open Go.RowKit
attribute [local irreducible] WA WOs WDs WAn qThen qBlock tput
set_option maxHeartbeats 1000000
set_option maxRecDepth 20000
set_option linter.unusedSimpArgs false
set_option linter.unusedVariables false
theorem rsmall_dec (q : Rat) : decide ((-1000000000 ≤ q.num ∧ q.num ≤ 1000000000) ∧ (q.den : Int) ≤ 1000000000) = smB q := by
  unfold smB
  exact decide_eq_decide.2 (by unfold sm; omega)
theorem uC3_83_4 {N : Nat} {l : List Oper} {t : List (Nat × V)} {m : Mem} {Q : Exit → List (Nat × V) → Mem → Prop} (h : RgN Tryz.prog N l t m Q (fun i => if i == 8 then .f else if i == 7 then .a else .p) [.one 0, .one 1, .one 2, .one 3, .one 4, .one 5, .one 6, .one 7, .one 8]) : WA Tryz.prog N (.region 4 l.toArray true) t m Q := d_rgN h
theorem fit_w (b : Nat) (n d : Int) (g : Bool) (hd : d ≠ 0) (hn : B64 n) (hd2 : B64 d) : CallW Tryz.prog 83 [.ptr b 0 0, .int .i64 n, .int .i64 d] b (.cells .own 88 1 [[.bool (g)]]) (.cells .own 88 1 [[.bool (g || !smB (Rat.divInt n d))]]) (.agg [.int .i64 (Rat.num (cut (Rat.divInt n d))), .int .i64 ((Rat.den (cut (Rat.divInt n d)) : Nat) : Int)]) := by
  obtain ⟨b1, b2, b3, b4⟩ := fit_bd hd hn hd2
  have e1 := (fit_num (n := n) hd).symm
  have e2 := (fit_den (n := n) hd).symm
  have hq0 := den_pos' (Rat.divInt n d)
  generalize Rat.divInt n d = q at *
  have hck := fun m => acheck_c q.num q.den b1 b2 m
  rw [frErr_raw] at hck
  by_cases hneg : d < 0
  · rw [if_pos hneg] at e1 e2
    by_cases hs : sm q
    · rw [cut_sm hs, smB_of hs, Bool.not_true, Bool.or_false]
      rw [if_pos hs] at hck
      refine CallW_in (tvs := [.ptr 0 0 0, .v (.int .i64 n), .v (.int .i64 d)]) Tryz.func83 rfl Tryz.ntmps83 Tryz.results83 (by kernel_rfl) (by simp) (by simp [flatL, V.flat]) rfl fun m Q hQ => ?_
      simp only [List.map_cons, List.map_nil, TV.inst]
      (have FX := And.intro e1 e2; repeat' (first | (refine sx ?_ ?_ <;> intro h <;> first | (exfalso; omega) | skip) | (refine na ?_; (first | refine s_fn (agcd_c _ _ ?_ ?_ ?_ ?_ _) ?_ | refine d_fn (agcd_c _ _ ?_ ?_ ?_ ?_ _) ?_ | refine d_fnQ (fun _ => agcd_c _ _ ?_ ?_ ?_ ?_ _) ?_ | refine grp_cons (fun _ => agcd_c _ _ ?_ ?_ ?_ ?_ _) ?_ | refine nb hck ?_ | refine nb (awhole_c _) ?_) <;> try first | omega | assumption) | refine ny ?_ | refine WA_block ?_ | (refine uC3_83_4 ?_; refine ⟨by kernel_rfl, ?_⟩) | (refine g_d ?_; (first | refine d_fnY (agcd_c _ _ ?_ ?_ ?_ ?_ _) ?_ | refine d_fnY (hck _) ?_ | refine d_fnY (awhole_c _ _) ?_) <;> try first | omega | assumption)))
      all_goals (refine r_esW hQ ?_ ?_ <;> try with_reducible rfl)
    · have hb : smB q = false := decide_eq_false hs
      have hc : cut q = 0 := if_neg hs
      rw [hc, hb, Bool.not_false, Bool.or_true]
      rw [if_neg hs] at hck
      refine CallW_in (tvs := [.ptr 0 0 0, .v (.int .i64 n), .v (.int .i64 d)]) Tryz.func83 rfl Tryz.ntmps83 Tryz.results83 (by kernel_rfl) (by simp) (by simp [flatL, V.flat]) rfl fun m Q hQ => ?_
      simp only [List.map_cons, List.map_nil, TV.inst]
      (have FX := And.intro e1 e2; repeat' (first | (refine sx ?_ ?_ <;> intro h <;> first | (exfalso; omega) | skip) | (refine na ?_; (first | refine s_fn (agcd_c _ _ ?_ ?_ ?_ ?_ _) ?_ | refine d_fn (agcd_c _ _ ?_ ?_ ?_ ?_ _) ?_ | refine d_fnQ (fun _ => agcd_c _ _ ?_ ?_ ?_ ?_ _) ?_ | refine grp_cons (fun _ => agcd_c _ _ ?_ ?_ ?_ ?_ _) ?_ | refine nb hck ?_ | refine nb (awhole_c _) ?_) <;> try first | omega | assumption) | refine ny ?_ | refine WA_block ?_ | (refine uC3_83_4 ?_; refine ⟨by kernel_rfl, ?_⟩) | (refine g_d ?_; (first | refine d_fnY (agcd_c _ _ ?_ ?_ ?_ ?_ _) ?_ | refine d_fnY (hck _) ?_ | refine d_fnY (awhole_c _ _) ?_) <;> try first | omega | assumption)))
      all_goals ((refine r_esW hQ ?_ ?_ <;> try with_reducible rfl); rfl)
  · rw [if_neg hneg] at e1 e2
    have e3 : d / (Int.gcd n d : Int) = q.den := by rw [← e2, Int.tdiv_eq_ediv_of_nonneg (by omega)]
    by_cases hs : sm q
    · rw [cut_sm hs, smB_of hs, Bool.not_true, Bool.or_false]
      rw [if_pos hs] at hck
      refine CallW_in (tvs := [.ptr 0 0 0, .v (.int .i64 n), .v (.int .i64 d)]) Tryz.func83 rfl Tryz.ntmps83 Tryz.results83 (by kernel_rfl) (by simp) (by simp [flatL, V.flat]) rfl fun m Q hQ => ?_
      simp only [List.map_cons, List.map_nil, TV.inst]
      (have FX := fx3 e1 e2 e3; repeat' (first | (refine sx ?_ ?_ <;> intro h <;> first | (exfalso; omega) | skip) | (refine na ?_; (first | refine s_fn (agcd_c _ _ ?_ ?_ ?_ ?_ _) ?_ | refine d_fn (agcd_c _ _ ?_ ?_ ?_ ?_ _) ?_ | refine d_fnQ (fun _ => agcd_c _ _ ?_ ?_ ?_ ?_ _) ?_ | refine grp_cons (fun _ => agcd_c _ _ ?_ ?_ ?_ ?_ _) ?_ | refine nb hck ?_ | refine nb (awhole_c _) ?_) <;> try first | omega | assumption) | refine ny ?_ | refine WA_block ?_ | (refine uC3_83_4 ?_; refine ⟨by kernel_rfl, ?_⟩) | (refine g_d ?_; (first | refine d_fnY (agcd_c _ _ ?_ ?_ ?_ ?_ _) ?_ | refine d_fnY (hck _) ?_ | refine d_fnY (awhole_c _ _) ?_) <;> try first | omega | assumption)))
      all_goals (refine r_esW hQ ?_ ?_ <;> try with_reducible rfl)
    · have hb : smB q = false := decide_eq_false hs
      have hc : cut q = 0 := if_neg hs
      rw [hc, hb, Bool.not_false, Bool.or_true]
      rw [if_neg hs] at hck
      refine CallW_in (tvs := [.ptr 0 0 0, .v (.int .i64 n), .v (.int .i64 d)]) Tryz.func83 rfl Tryz.ntmps83 Tryz.results83 (by kernel_rfl) (by simp) (by simp [flatL, V.flat]) rfl fun m Q hQ => ?_
      simp only [List.map_cons, List.map_nil, TV.inst]
      (have FX := fx3 e1 e2 e3; repeat' (first | (refine sx ?_ ?_ <;> intro h <;> first | (exfalso; omega) | skip) | (refine na ?_; (first | refine s_fn (agcd_c _ _ ?_ ?_ ?_ ?_ _) ?_ | refine d_fn (agcd_c _ _ ?_ ?_ ?_ ?_ _) ?_ | refine d_fnQ (fun _ => agcd_c _ _ ?_ ?_ ?_ ?_ _) ?_ | refine grp_cons (fun _ => agcd_c _ _ ?_ ?_ ?_ ?_ _) ?_ | refine nb hck ?_ | refine nb (awhole_c _) ?_) <;> try first | omega | assumption) | refine ny ?_ | refine WA_block ?_ | (refine uC3_83_4 ?_; refine ⟨by kernel_rfl, ?_⟩) | (refine g_d ?_; (first | refine d_fnY (agcd_c _ _ ?_ ?_ ?_ ?_ _) ?_ | refine d_fnY (hck _) ?_ | refine d_fnY (awhole_c _ _) ?_) <;> try first | omega | assumption)))
      all_goals ((refine r_esW hQ ?_ ?_ <;> try with_reducible rfl); rfl)
theorem uC3_103_4 {N : Nat} {l : List Oper} {t : List (Nat × V)} {m : Mem} {Q : Exit → List (Nat × V) → Mem → Prop} (h : RgN Tryz.prog N l t m Q (fun i => if i == 7 then .w else .p) [.one 0, .one 1, .one 2, .one 3, .one 4, .one 5, .one 6, .one 7]) : WA Tryz.prog N (.region 4 l.toArray true) t m Q := d_rgN h
theorem blow_c (n d : Int) (hd : d ≠ 0) (hn : B64 n) (hd2 : B64 d) (m : Mem) : Gives Tryz.prog 103 [.int .i64 n, .int .i64 d] m (.agg [.int .i64 (Rat.num (Rat.divInt n d)), .int .i64 ((Rat.den (Rat.divInt n d) : Nat) : Int)]) := by
  obtain ⟨b1, b2, b3, b4⟩ := fit_bd hd hn hd2
  have e1 := (fit_num (n := n) hd).symm
  have e2 := (fit_den (n := n) hd).symm
  generalize Rat.divInt n d = q at *
  by_cases hneg : d < 0
  · rw [if_pos hneg] at e1 e2
    refine Gives_in Tryz.func103 rfl Tryz.ntmps103 Tryz.results103 (by kernel_rfl) (by simp) rfl fun Q hQ => ?_
    (have FX := And.intro e1 e2; repeat' (first | (refine sx ?_ ?_ <;> intro h <;> first | (exfalso; omega) | skip) | (refine na ?_; (first | refine s_fn (bgcd_c _ _ ?_ ?_ ?_ ?_ _) ?_ | refine d_fn (bgcd_c _ _ ?_ ?_ ?_ ?_ _) ?_ | refine d_fnQ (fun _ => bgcd_c _ _ ?_ ?_ ?_ ?_ _) ?_ | refine grp_cons (fun _ => bgcd_c _ _ ?_ ?_ ?_ ?_ _) ?_) <;> try first | omega | assumption) | refine ny ?_ | refine WA_block ?_ | (refine uC3_103_4 ?_; refine ⟨by kernel_rfl, ?_⟩) | (refine g_d ?_; (first | refine d_fnY (bgcd_c _ _ ?_ ?_ ?_ ?_ _) ?_) <;> try first | omega | assumption)))
    all_goals (refine r_es hQ ?_; try with_reducible rfl)
  · rw [if_neg hneg] at e1 e2
    have e3 : d / (Int.gcd n d : Int) = q.den := by rw [← e2, Int.tdiv_eq_ediv_of_nonneg (by omega)]
    refine Gives_in Tryz.func103 rfl Tryz.ntmps103 Tryz.results103 (by kernel_rfl) (by simp) rfl fun Q hQ => ?_
    (have FX := fx3 e1 e2 e3; repeat' (first | (refine sx ?_ ?_ <;> intro h <;> first | (exfalso; omega) | skip) | (refine na ?_; (first | refine s_fn (bgcd_c _ _ ?_ ?_ ?_ ?_ _) ?_ | refine d_fn (bgcd_c _ _ ?_ ?_ ?_ ?_ _) ?_ | refine d_fnQ (fun _ => bgcd_c _ _ ?_ ?_ ?_ ?_ _) ?_ | refine grp_cons (fun _ => bgcd_c _ _ ?_ ?_ ?_ ?_ _) ?_) <;> try first | omega | assumption) | refine ny ?_ | refine WA_block ?_ | (refine uC3_103_4 ?_; refine ⟨by kernel_rfl, ?_⟩) | (refine g_d ?_; (first | refine d_fnY (bgcd_c _ _ ?_ ?_ ?_ ?_ _) ?_) <;> try first | omega | assumption)))
    all_goals (refine r_es hQ ?_; try with_reducible rfl)
theorem rSmall_q (q : Rat) (m : Mem) : Gives Tryz.prog 104 [.agg [.int .i64 (Rat.num (q)), .int .i64 ((Rat.den (q) : Nat) : Int)]] m (.bool (smB q)) := by
  rw [← rsmall_dec]
  exact rSmall_c _ _ _
attribute [local irreducible] smB
theorem uC3_91_2 {N : Nat} {l : List Oper} {t : List (Nat × V)} {m : Mem} {Q : Exit → List (Nat × V) → Mem → Prop} (h : RgN Tryz.prog N l t m Q (fun i => if i == 3 then .w else if i == 0 || i == 1 || i == 2 then .q else .p) [.one 0, .one 1, .one 2, .one 3, .one 4]) : WA Tryz.prog N (.region 2 l.toArray true) t m Q := d_rgN h
theorem rsmall_c (n d : Int) (hd : d ≠ 0) (hn : B64 n) (hd2 : B64 d) (m : Mem) : Gives Tryz.prog 91 [.int .i64 n, .int .i64 d] m (.tup [.agg [.int .i64 (Rat.num (Rat.divInt n d)), .int .i64 ((Rat.den (Rat.divInt n d) : Nat) : Int)], .bool (smB (Rat.divInt n d))]) := by
  refine Gives_in Tryz.func91 rfl Tryz.ntmps91 Tryz.results91 (by kernel_rfl) (by simp) rfl fun Q hQ => ?_
  (repeat' (first | (refine sx ?_ ?_ <;> intro h <;> first | (exfalso; omega) | skip) | (refine na ?_; (first | refine nb (blow_c _ _ hd hn hd2) ?_ | refine nb (rSmall_q _) ?_) <;> try first | omega | assumption) | refine ny ?_ | refine WA_block ?_ | (refine uC3_91_2 ?_; refine ⟨by kernel_rfl, ?_⟩) | (refine g_d ?_; (first | refine d_fnY (blow_c _ _ hd hn hd2 _) ?_ | refine d_fnY (rSmall_q _ _) ?_) <;> try first | omega | assumption)))
  all_goals (refine r_es hQ ?_; try with_reducible rfl)

theorem radd_c (a b : Rat) (ha : sm a) (hb : sm b) (m : Mem) : Gives Tryz.prog 64 [.agg [.int .i64 (Rat.num (a)), .int .i64 ((Rat.den (a) : Nat) : Int)], .agg [.int .i64 (Rat.num (b)), .int .i64 ((Rat.den (b) : Nat) : Int)]] m (.tup [.agg [.int .i64 (Rat.num (a + b)), .int .i64 ((Rat.den (a + b) : Nat) : Int)], .bool (smB (a + b))]) := by
  rw [← add_fit a b]
  have q1 := sm_prod ha hb
  have q2 := sm_prod hb ha
  have q3 := sm_den ha hb
  have e1 : B64 (a.num * (b.den : Int) + b.num * (a.den : Int)) := by constructor <;> omega
  have e2 : B64 ((a.den : Int) * (b.den : Int)) := by constructor <;> omega
  have e3 : (a.den : Int) * (b.den : Int) ≠ 0 := by omega
  refine Gives_in Tryz.func64 rfl Tryz.ntmps64 Tryz.results64 (by kernel_rfl) (by simp) rfl fun Q hQ => ?_
  (have FX := fx3 q1 q2 q3; repeat' (first | (refine sx ?_ ?_ <;> intro h <;> first | (exfalso; omega) | skip) | (refine na ?_; (first | refine s_fn (rsmall_c _ _ ?_ ?_ ?_ _) ?_) <;> try first | omega | assumption) | refine ny ?_ | refine WA_block ?_))
  all_goals (refine r_es hQ ?_; try with_reducible rfl)

theorem rsub_c (a b : Rat) (ha : sm a) (hb : sm b) (m : Mem) : Gives Tryz.prog 65 [.agg [.int .i64 (Rat.num (a)), .int .i64 ((Rat.den (a) : Nat) : Int)], .agg [.int .i64 (Rat.num (b)), .int .i64 ((Rat.den (b) : Nat) : Int)]] m (.tup [.agg [.int .i64 (Rat.num (a - b)), .int .i64 ((Rat.den (a - b) : Nat) : Int)], .bool (smB (a - b))]) := by
  rw [← sub_fit a b]
  have q1 := sm_prod ha hb
  have q2 := sm_prod hb ha
  have q3 := sm_den ha hb
  have e1 : B64 (a.num * (b.den : Int) - b.num * (a.den : Int)) := by constructor <;> omega
  have e2 : B64 ((a.den : Int) * (b.den : Int)) := by constructor <;> omega
  have e3 : (a.den : Int) * (b.den : Int) ≠ 0 := by omega
  refine Gives_in Tryz.func65 rfl Tryz.ntmps65 Tryz.results65 (by kernel_rfl) (by simp) rfl fun Q hQ => ?_
  (have FX := fx3 q1 q2 q3; repeat' (first | (refine sx ?_ ?_ <;> intro h <;> first | (exfalso; omega) | skip) | (refine na ?_; (first | refine s_fn (rsmall_c _ _ ?_ ?_ ?_ _) ?_) <;> try first | omega | assumption) | refine ny ?_ | refine WA_block ?_))
  all_goals (refine r_es hQ ?_; try with_reducible rfl)

theorem rmul_c (a b : Rat) (ha : sm a) (hb : sm b) (m : Mem) : Gives Tryz.prog 87 [.agg [.int .i64 (Rat.num (a)), .int .i64 ((Rat.den (a) : Nat) : Int)], .agg [.int .i64 (Rat.num (b)), .int .i64 ((Rat.den (b) : Nat) : Int)]] m (.tup [.agg [.int .i64 (Rat.num (a * b)), .int .i64 ((Rat.den (a * b) : Nat) : Int)], .bool (smB (a * b))]) := by
  rw [← mul_fit a b]
  have q1 := sm_mul ⟨ha.1, ha.2.1⟩ ⟨hb.1, hb.2.1⟩
  have q3 := sm_den ha hb
  have e1 : B64 (a.num * b.num) := by constructor <;> omega
  have e2 : B64 ((a.den : Int) * (b.den : Int)) := by constructor <;> omega
  have e3 : (a.den : Int) * (b.den : Int) ≠ 0 := by omega
  refine Gives_in Tryz.func87 rfl Tryz.ntmps87 Tryz.results87 (by kernel_rfl) (by simp) rfl fun Q hQ => ?_
  (have FX := And.intro q1 q3; repeat' (first | (refine sx ?_ ?_ <;> intro h <;> first | (exfalso; omega) | skip) | (refine na ?_; (first | refine s_fn (rsmall_c _ _ ?_ ?_ ?_ _) ?_) <;> try first | omega | assumption) | refine ny ?_ | refine WA_block ?_))
  all_goals (refine r_es hQ ?_; try with_reducible rfl)
theorem sm_dn {a b : Rat} (ha : sm a) (hb : sm b) (h0 : b.num ≠ 0) : (-1000000000000000000 ≤ (a.den : Int) * b.num ∧ (a.den : Int) * b.num ≤ 1000000000000000000) ∧ (a.den : Int) * b.num ≠ 0 := by
  have := den_pos' a
  exact ⟨sm_mul ⟨by omega, ha.2.2⟩ ⟨hb.1, hb.2.1⟩, Int.mul_ne_zero (by omega) h0⟩

theorem rdiv_c (a b : Rat) (ha : sm a) (hb : sm b) (h0 : b ≠ 0) (m : Mem) : Gives Tryz.prog 89 [.agg [.int .i64 (Rat.num (a)), .int .i64 ((Rat.den (a) : Nat) : Int)], .agg [.int .i64 (Rat.num (b)), .int .i64 ((Rat.den (b) : Nat) : Int)]] m (.tup [.agg [.int .i64 (Rat.num (a / b)), .int .i64 ((Rat.den (a / b) : Nat) : Int)], .bool (smB (a / b))]) := by
  rw [← div_fit a b]
  have q1 := sm_prod ha hb
  obtain ⟨q3, e3⟩ := sm_dn ha hb (num_ne h0)
  have e1 : B64 (a.num * (b.den : Int)) := by constructor <;> omega
  have e2 : B64 ((a.den : Int) * b.num) := by constructor <;> omega
  refine Gives_in Tryz.func89 rfl Tryz.ntmps89 Tryz.results89 (by kernel_rfl) (by simp) rfl fun Q hQ => ?_
  (have FX := And.intro q1 q3; repeat' (first | (refine sx ?_ ?_ <;> intro h <;> first | (exfalso; omega) | skip) | (refine na ?_; (first | refine s_fn (rsmall_c _ _ ?_ ?_ ?_ _) ?_) <;> try first | omega | assumption) | refine ny ?_ | refine WA_block ?_))
  all_goals (refine r_es hQ ?_; try with_reducible rfl)

theorem add_w (k : Nat) (a b : Rat) (g : Bool) (ha : sm a) (hb : sm b) : CallW Tryz.prog 54 [.ptr k 0 0, .agg [.int .i64 (Rat.num (a)), .int .i64 ((Rat.den (a) : Nat) : Int)], .agg [.int .i64 (Rat.num (b)), .int .i64 ((Rat.den (b) : Nat) : Int)]] k (.cells .own 88 1 [[.bool (g)]]) (.cells .own 88 1 [[.bool (g || !smB (a + b))]]) (.agg [.int .i64 (Rat.num (cut (a + b))), .int .i64 ((Rat.den (cut (a + b)) : Nat) : Int)]) := by
  rw [← add_fit a b]
  have q1 := sm_prod ha hb
  have q2 := sm_prod hb ha
  have q3 := sm_den ha hb
  have e1 : B64 (a.num * (b.den : Int) + b.num * (a.den : Int)) := by constructor <;> omega
  have e2 : B64 ((a.den : Int) * (b.den : Int)) := by constructor <;> omega
  have e3 : (a.den : Int) * (b.den : Int) ≠ 0 := by omega
  refine CallW_in (tvs := [.ptr 0 0 0, .v (.agg [.int .i64 (Rat.num (a)), .int .i64 ((Rat.den (a) : Nat) : Int)]), .v (.agg [.int .i64 (Rat.num (b)), .int .i64 ((Rat.den (b) : Nat) : Int)])]) Tryz.func54 rfl Tryz.ntmps54 Tryz.results54 (by kernel_rfl) (by simp) (by simp [flatL, V.flat]) rfl fun m Q hQ => ?_
  simp only [List.map_cons, List.map_nil, TV.inst]
  (have FX := fx3 q1 q2 q3; repeat' (first | (refine sx ?_ ?_ <;> intro h <;> first | (exfalso; omega) | skip) | (refine na ?_; (first | refine s_fnW (fit_w _ _ _ _ ?_ ?_ ?_) ?_) <;> try first | omega | assumption) | refine ny ?_ | refine WA_block ?_))
  all_goals (refine r_esW hQ ?_ ?_ <;> try with_reducible rfl)

theorem sub_w (k : Nat) (a b : Rat) (g : Bool) (ha : sm a) (hb : sm b) : CallW Tryz.prog 55 [.ptr k 0 0, .agg [.int .i64 (Rat.num (a)), .int .i64 ((Rat.den (a) : Nat) : Int)], .agg [.int .i64 (Rat.num (b)), .int .i64 ((Rat.den (b) : Nat) : Int)]] k (.cells .own 88 1 [[.bool (g)]]) (.cells .own 88 1 [[.bool (g || !smB (a - b))]]) (.agg [.int .i64 (Rat.num (cut (a - b))), .int .i64 ((Rat.den (cut (a - b)) : Nat) : Int)]) := by
  rw [← sub_fit a b]
  have q1 := sm_prod ha hb
  have q2 := sm_prod hb ha
  have q3 := sm_den ha hb
  have e1 : B64 (a.num * (b.den : Int) - b.num * (a.den : Int)) := by constructor <;> omega
  have e2 : B64 ((a.den : Int) * (b.den : Int)) := by constructor <;> omega
  have e3 : (a.den : Int) * (b.den : Int) ≠ 0 := by omega
  refine CallW_in (tvs := [.ptr 0 0 0, .v (.agg [.int .i64 (Rat.num (a)), .int .i64 ((Rat.den (a) : Nat) : Int)]), .v (.agg [.int .i64 (Rat.num (b)), .int .i64 ((Rat.den (b) : Nat) : Int)])]) Tryz.func55 rfl Tryz.ntmps55 Tryz.results55 (by kernel_rfl) (by simp) (by simp [flatL, V.flat]) rfl fun m Q hQ => ?_
  simp only [List.map_cons, List.map_nil, TV.inst]
  (have FX := fx3 q1 q2 q3; repeat' (first | (refine sx ?_ ?_ <;> intro h <;> first | (exfalso; omega) | skip) | (refine na ?_; (first | refine s_fnW (fit_w _ _ _ _ ?_ ?_ ?_) ?_) <;> try first | omega | assumption) | refine ny ?_ | refine WA_block ?_))
  all_goals (refine r_esW hQ ?_ ?_ <;> try with_reducible rfl)

theorem mul_w (k : Nat) (a b : Rat) (g : Bool) (ha : sm a) (hb : sm b) : CallW Tryz.prog 70 [.ptr k 0 0, .agg [.int .i64 (Rat.num (a)), .int .i64 ((Rat.den (a) : Nat) : Int)], .agg [.int .i64 (Rat.num (b)), .int .i64 ((Rat.den (b) : Nat) : Int)]] k (.cells .own 88 1 [[.bool (g)]]) (.cells .own 88 1 [[.bool (g || !smB (a * b))]]) (.agg [.int .i64 (Rat.num (cut (a * b))), .int .i64 ((Rat.den (cut (a * b)) : Nat) : Int)]) := by
  rw [← mul_fit a b]
  have q1 := sm_mul ⟨ha.1, ha.2.1⟩ ⟨hb.1, hb.2.1⟩
  have q3 := sm_den ha hb
  have e1 : B64 (a.num * b.num) := by constructor <;> omega
  have e2 : B64 ((a.den : Int) * (b.den : Int)) := by constructor <;> omega
  have e3 : (a.den : Int) * (b.den : Int) ≠ 0 := by omega
  refine CallW_in (tvs := [.ptr 0 0 0, .v (.agg [.int .i64 (Rat.num (a)), .int .i64 ((Rat.den (a) : Nat) : Int)]), .v (.agg [.int .i64 (Rat.num (b)), .int .i64 ((Rat.den (b) : Nat) : Int)])]) Tryz.func70 rfl Tryz.ntmps70 Tryz.results70 (by kernel_rfl) (by simp) (by simp [flatL, V.flat]) rfl fun m Q hQ => ?_
  simp only [List.map_cons, List.map_nil, TV.inst]
  (have FX := And.intro q1 q3; repeat' (first | (refine sx ?_ ?_ <;> intro h <;> first | (exfalso; omega) | skip) | (refine na ?_; (first | refine s_fnW (fit_w _ _ _ _ ?_ ?_ ?_) ?_) <;> try first | omega | assumption) | refine ny ?_ | refine WA_block ?_))
  all_goals (refine r_esW hQ ?_ ?_ <;> try with_reducible rfl)

theorem quo_w (k : Nat) (a b : Rat) (g : Bool) (ha : sm a) (hb : sm b) (h0 : b ≠ 0) : CallW Tryz.prog 82 [.ptr k 0 0, .agg [.int .i64 (Rat.num (a)), .int .i64 ((Rat.den (a) : Nat) : Int)], .agg [.int .i64 (Rat.num (b)), .int .i64 ((Rat.den (b) : Nat) : Int)]] k (.cells .own 88 1 [[.bool (g)]]) (.cells .own 88 1 [[.bool (g || !smB (a / b))]]) (.agg [.int .i64 (Rat.num (cut (a / b))), .int .i64 ((Rat.den (cut (a / b)) : Nat) : Int)]) := by
  rw [← div_fit a b]
  have q1 := sm_prod ha hb
  have hb0 := num_ne h0
  obtain ⟨q3, e3⟩ := sm_dn ha hb hb0
  have e1 : B64 (a.num * (b.den : Int)) := by constructor <;> omega
  have e2 : B64 ((a.den : Int) * b.num) := by constructor <;> omega
  refine CallW_in (tvs := [.ptr 0 0 0, .v (.agg [.int .i64 (Rat.num (a)), .int .i64 ((Rat.den (a) : Nat) : Int)]), .v (.agg [.int .i64 (Rat.num (b)), .int .i64 ((Rat.den (b) : Nat) : Int)])]) Tryz.func82 rfl Tryz.ntmps82 Tryz.results82 (by kernel_rfl) (by simp) (by simp [flatL, V.flat]) rfl fun m Q hQ => ?_
  simp only [List.map_cons, List.map_nil, TV.inst]
  (have FX := fx3 q1 q3 hb0; repeat' (first | (refine sx ?_ ?_ <;> intro h <;> first | (exfalso; omega) | skip) | (refine na ?_; (first | refine s_fnW (fit_w _ _ _ _ ?_ ?_ ?_) ?_) <;> try first | omega | assumption) | refine ny ?_ | refine WA_block ?_))
  all_goals first | contradiction | (refine r_esW hQ ?_ ?_ <;> try with_reducible rfl)
theorem quo0_w (k : Nat) (a : Rat) (g : Bool) : CallW Tryz.prog 82 [.ptr k 0 0, .agg [.int .i64 (Rat.num (a)), .int .i64 ((Rat.den (a) : Nat) : Int)], .agg [.int .i64 0, .int .i64 1]] k (.cells .own 88 1 [[.bool (g)]]) (.cells .own 88 1 [[.bool (true)]]) (.agg [.int .i64 0, .int .i64 1]) := by
  refine CallW_in (tvs := [.ptr 0 0 0, .v (.agg [.int .i64 (Rat.num (a)), .int .i64 ((Rat.den (a) : Nat) : Int)]), .v (.agg [.int .i64 0, .int .i64 1])]) Tryz.func82 rfl Tryz.ntmps82 Tryz.results82 (by kernel_rfl) (by simp) (by simp [flatL, V.flat]) rfl fun m Q hQ => ?_
  simp only [List.map_cons, List.map_nil, TV.inst]
  (repeat' (first | (refine sx ?_ ?_ <;> intro h <;> first | (exfalso; omega) | skip) | (refine na ?_; (first | refine nb (awhole_c _) ?_) <;> try first | omega | assumption) | refine ny ?_ | refine WA_block ?_))
  all_goals (refine r_esW hQ ?_ ?_ <;> try with_reducible rfl)
def quoQ (a b : Rat) : Rat := if b = 0 then 0 else cut (a / b)
def quoB (a b : Rat) : Bool := if b = 0 then true else !smB (a / b)
theorem quoQ_w (k : Nat) (a b : Rat) (g : Bool) (ha : sm a) (hb : sm b) : CallW Tryz.prog 82 [.ptr k 0 0, .agg [.int .i64 (Rat.num (a)), .int .i64 ((Rat.den (a) : Nat) : Int)], .agg [.int .i64 (Rat.num (b)), .int .i64 ((Rat.den (b) : Nat) : Int)]] k (.cells .own 88 1 [[.bool (g)]]) (.cells .own 88 1 [[.bool (g || quoB a b)]]) (.agg [.int .i64 (Rat.num (quoQ a b)), .int .i64 ((Rat.den (quoQ a b) : Nat) : Int)]) := by
  by_cases h : b = 0
  · subst h
    have h1 : quoB a 0 = true := if_pos rfl
    have h2 : quoQ a 0 = 0 := if_pos rfl
    rw [h1, h2, Bool.or_true]
    exact quo0_w k a g
  · have h1 : quoB a b = !smB (a / b) := if_neg h
    have h2 : quoQ a b = cut (a / b) := if_neg h
    rw [h1, h2]
    exact quo_w k a b g ha hb h
end Go.Proofs.YtihbeoplchiikaaGreatDoor
