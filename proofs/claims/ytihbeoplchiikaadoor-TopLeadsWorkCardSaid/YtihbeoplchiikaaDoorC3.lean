/- contracts: computing with fractions -/
import Derived.Test.YtihbeoplchiikaaDoorGA
set_option linter.unusedSimpArgs false
set_option linter.unusedVariables false
namespace Go.Proofs.YtihbeoplchiikaaDoor
open Go.RowKit
attribute [local irreducible] WA WOs WDs WAn qThen qBlock tput
set_option maxHeartbeats 1000000
set_option maxRecDepth 20000
set_option linter.unusedSimpArgs false
set_option linter.unusedVariables false
theorem uC3_61_4 {N : Nat} {l : List Oper} {t : List (Nat × V)} {m : Mem} {Q : Exit → List (Nat × V) → Mem → Prop} (h : RgN Tryd.prog N l t m Q (fun i => if i == 8 then .f else if i == 7 then .a else .p) [.one 0, .one 1, .one 2, .one 3, .one 4, .one 5, .one 6, .one 7, .one 8]) : WA Tryd.prog N (.region 4 l.toArray true) t m Q := d_rgN h
theorem fit_w (b : Nat) (n d : Int) (g : Bool) (hd : d ≠ 0) (hn : B64 n) (hd2 : B64 d) : CallW Tryd.prog 61 [.ptr b 0 0, .int .i64 n, .int .i64 d] b (.cells .own 82 1 [[.bool (g)]]) (.cells .own 82 1 [[.bool (g || !smB (Rat.divInt n d))]]) (.agg [.int .i64 (Rat.num (cut (Rat.divInt n d))), .int .i64 ((Rat.den (cut (Rat.divInt n d)) : Nat) : Int)]) := by
  obtain ⟨b1, b2, b3, b4⟩ := fit_bd hd hn hd2
  have e1 := (fit_num (n := n) hd).symm
  have e2 := (fit_den (n := n) hd).symm
  have hq0 := den_pos' (Rat.divInt n d)
  generalize Rat.divInt n d = q at *
  have hck := fun m => acheck_c q.num q.den b1 b2 m
  rw [frErr_raw] at hck
  by_cases hneg : d < 0
  · rw [if_pos hneg] at e1 e2
    by_cases hs : sm q
    · rw [cut_sm hs, smB_of hs, Bool.not_true, Bool.or_false]
      rw [if_pos hs] at hck
      refine CallW_in (tvs := [.ptr 0 0 0, .v (.int .i64 n), .v (.int .i64 d)]) Tryd.func61 rfl Tryd.ntmps61 Tryd.results61 (by kernel_rfl) (by simp) (by simp [flatL, V.flat]) rfl fun m Q hQ => ?_
      simp only [List.map_cons, List.map_nil, TV.inst]
      (have FX := And.intro e1 e2; repeat' (first | (refine sx ?_ ?_ <;> intro h <;> first | (exfalso; omega) | skip) | (refine g_op ?_; refine g_call ?_; refine g_args ?_; (first | refine s_fn (agcd_c _ _ ?_ ?_ ?_ ?_ _) ?_ | refine s_fn (hck _) ?_ | refine s_fn (awhole_c _ _) ?_) <;> try first | omega | assumption) | refine ny ?_ | refine WA_block ?_ | (refine uC3_61_4 ?_; refine ⟨by kernel_rfl, ?_⟩) | ((first | refine grp_cons (fun _ => agcd_c _ _ ?_ ?_ ?_ ?_ _) ?_ | refine grp_cons (fun _ => hck _) ?_ | refine grp_cons (fun _ => awhole_c _ _) ?_) <;> try first | omega | assumption) | (refine g_d ?_; refine d_args ?_; (first | refine d_fn (agcd_c _ _ ?_ ?_ ?_ ?_ _) ?_ | refine d_fn (hck _) ?_ | refine d_fn (awhole_c _ _) ?_ | refine d_fnQ (fun _ => agcd_c _ _ ?_ ?_ ?_ ?_ _) ?_ | refine d_fnQ (fun _ => hck _) ?_ | refine d_fnQ (fun _ => awhole_c _ _) ?_) <;> try first | omega | assumption) | (refine g_d ?_; (first | refine d_fnY (agcd_c _ _ ?_ ?_ ?_ ?_ _) ?_ | refine d_fnY (hck _) ?_ | refine d_fnY (awhole_c _ _) ?_) <;> try first | omega | assumption)))
      all_goals (refine r_esW hQ ?_ ?_ <;> try with_reducible rfl)
    · have hb : smB q = false := decide_eq_false hs
      have hc : cut q = 0 := if_neg hs
      rw [hc, hb, Bool.not_false, Bool.or_true]
      rw [if_neg hs] at hck
      refine CallW_in (tvs := [.ptr 0 0 0, .v (.int .i64 n), .v (.int .i64 d)]) Tryd.func61 rfl Tryd.ntmps61 Tryd.results61 (by kernel_rfl) (by simp) (by simp [flatL, V.flat]) rfl fun m Q hQ => ?_
      simp only [List.map_cons, List.map_nil, TV.inst]
      (have FX := And.intro e1 e2; repeat' (first | (refine sx ?_ ?_ <;> intro h <;> first | (exfalso; omega) | skip) | (refine g_op ?_; refine g_call ?_; refine g_args ?_; (first | refine s_fn (agcd_c _ _ ?_ ?_ ?_ ?_ _) ?_ | refine s_fn (hck _) ?_ | refine s_fn (awhole_c _ _) ?_) <;> try first | omega | assumption) | refine ny ?_ | refine WA_block ?_ | (refine uC3_61_4 ?_; refine ⟨by kernel_rfl, ?_⟩) | ((first | refine grp_cons (fun _ => agcd_c _ _ ?_ ?_ ?_ ?_ _) ?_ | refine grp_cons (fun _ => hck _) ?_ | refine grp_cons (fun _ => awhole_c _ _) ?_) <;> try first | omega | assumption) | (refine g_d ?_; refine d_args ?_; (first | refine d_fn (agcd_c _ _ ?_ ?_ ?_ ?_ _) ?_ | refine d_fn (hck _) ?_ | refine d_fn (awhole_c _ _) ?_ | refine d_fnQ (fun _ => agcd_c _ _ ?_ ?_ ?_ ?_ _) ?_ | refine d_fnQ (fun _ => hck _) ?_ | refine d_fnQ (fun _ => awhole_c _ _) ?_) <;> try first | omega | assumption) | (refine g_d ?_; (first | refine d_fnY (agcd_c _ _ ?_ ?_ ?_ ?_ _) ?_ | refine d_fnY (hck _) ?_ | refine d_fnY (awhole_c _ _) ?_) <;> try first | omega | assumption)))
      all_goals ((refine r_esW hQ ?_ ?_ <;> try with_reducible rfl); rfl)
  · rw [if_neg hneg] at e1 e2
    have e3 : d / (Int.gcd n d : Int) = q.den := by rw [← e2, Int.tdiv_eq_ediv_of_nonneg (by omega)]
    by_cases hs : sm q
    · rw [cut_sm hs, smB_of hs, Bool.not_true, Bool.or_false]
      rw [if_pos hs] at hck
      refine CallW_in (tvs := [.ptr 0 0 0, .v (.int .i64 n), .v (.int .i64 d)]) Tryd.func61 rfl Tryd.ntmps61 Tryd.results61 (by kernel_rfl) (by simp) (by simp [flatL, V.flat]) rfl fun m Q hQ => ?_
      simp only [List.map_cons, List.map_nil, TV.inst]
      (have FX := And.intro e1 (And.intro e2 e3); repeat' (first | (refine sx ?_ ?_ <;> intro h <;> first | (exfalso; omega) | skip) | (refine g_op ?_; refine g_call ?_; refine g_args ?_; (first | refine s_fn (agcd_c _ _ ?_ ?_ ?_ ?_ _) ?_ | refine s_fn (hck _) ?_ | refine s_fn (awhole_c _ _) ?_) <;> try first | omega | assumption) | refine ny ?_ | refine WA_block ?_ | (refine uC3_61_4 ?_; refine ⟨by kernel_rfl, ?_⟩) | ((first | refine grp_cons (fun _ => agcd_c _ _ ?_ ?_ ?_ ?_ _) ?_ | refine grp_cons (fun _ => hck _) ?_ | refine grp_cons (fun _ => awhole_c _ _) ?_) <;> try first | omega | assumption) | (refine g_d ?_; refine d_args ?_; (first | refine d_fn (agcd_c _ _ ?_ ?_ ?_ ?_ _) ?_ | refine d_fn (hck _) ?_ | refine d_fn (awhole_c _ _) ?_ | refine d_fnQ (fun _ => agcd_c _ _ ?_ ?_ ?_ ?_ _) ?_ | refine d_fnQ (fun _ => hck _) ?_ | refine d_fnQ (fun _ => awhole_c _ _) ?_) <;> try first | omega | assumption) | (refine g_d ?_; (first | refine d_fnY (agcd_c _ _ ?_ ?_ ?_ ?_ _) ?_ | refine d_fnY (hck _) ?_ | refine d_fnY (awhole_c _ _) ?_) <;> try first | omega | assumption)))
      all_goals (refine r_esW hQ ?_ ?_ <;> try with_reducible rfl)
    · have hb : smB q = false := decide_eq_false hs
      have hc : cut q = 0 := if_neg hs
      rw [hc, hb, Bool.not_false, Bool.or_true]
      rw [if_neg hs] at hck
      refine CallW_in (tvs := [.ptr 0 0 0, .v (.int .i64 n), .v (.int .i64 d)]) Tryd.func61 rfl Tryd.ntmps61 Tryd.results61 (by kernel_rfl) (by simp) (by simp [flatL, V.flat]) rfl fun m Q hQ => ?_
      simp only [List.map_cons, List.map_nil, TV.inst]
      (have FX := And.intro e1 (And.intro e2 e3); repeat' (first | (refine sx ?_ ?_ <;> intro h <;> first | (exfalso; omega) | skip) | (refine g_op ?_; refine g_call ?_; refine g_args ?_; (first | refine s_fn (agcd_c _ _ ?_ ?_ ?_ ?_ _) ?_ | refine s_fn (hck _) ?_ | refine s_fn (awhole_c _ _) ?_) <;> try first | omega | assumption) | refine ny ?_ | refine WA_block ?_ | (refine uC3_61_4 ?_; refine ⟨by kernel_rfl, ?_⟩) | ((first | refine grp_cons (fun _ => agcd_c _ _ ?_ ?_ ?_ ?_ _) ?_ | refine grp_cons (fun _ => hck _) ?_ | refine grp_cons (fun _ => awhole_c _ _) ?_) <;> try first | omega | assumption) | (refine g_d ?_; refine d_args ?_; (first | refine d_fn (agcd_c _ _ ?_ ?_ ?_ ?_ _) ?_ | refine d_fn (hck _) ?_ | refine d_fn (awhole_c _ _) ?_ | refine d_fnQ (fun _ => agcd_c _ _ ?_ ?_ ?_ ?_ _) ?_ | refine d_fnQ (fun _ => hck _) ?_ | refine d_fnQ (fun _ => awhole_c _ _) ?_) <;> try first | omega | assumption) | (refine g_d ?_; (first | refine d_fnY (agcd_c _ _ ?_ ?_ ?_ ?_ _) ?_ | refine d_fnY (hck _) ?_ | refine d_fnY (awhole_c _ _) ?_) <;> try first | omega | assumption)))
      all_goals ((refine r_esW hQ ?_ ?_ <;> try with_reducible rfl); rfl)
attribute [local irreducible] smB
theorem sm_dn {a b : Rat} (ha : sm a) (hb : sm b) (h0 : b.num ≠ 0) : (-1000000000000000000 ≤ (a.den : Int) * b.num ∧ (a.den : Int) * b.num ≤ 1000000000000000000) ∧ (a.den : Int) * b.num ≠ 0 := by
  have := den_pos' a
  exact ⟨sm_mul ⟨by omega, ha.2.2⟩ ⟨hb.1, hb.2.1⟩, Int.mul_ne_zero (by omega) h0⟩

theorem add_w (k : Nat) (a b : Rat) (g : Bool) (ha : sm a) (hb : sm b) : CallW Tryd.prog 45 [.ptr k 0 0, .agg [.int .i64 (Rat.num (a)), .int .i64 ((Rat.den (a) : Nat) : Int)], .agg [.int .i64 (Rat.num (b)), .int .i64 ((Rat.den (b) : Nat) : Int)]] k (.cells .own 82 1 [[.bool (g)]]) (.cells .own 82 1 [[.bool (g || !smB (a + b))]]) (.agg [.int .i64 (Rat.num (cut (a + b))), .int .i64 ((Rat.den (cut (a + b)) : Nat) : Int)]) := by
  rw [← add_fit a b]
  have q1 := sm_prod ha hb
  have q2 := sm_prod hb ha
  have q3 := sm_den ha hb
  have e1 : B64 (a.num * (b.den : Int) + b.num * (a.den : Int)) := by constructor <;> omega
  have e2 : B64 ((a.den : Int) * (b.den : Int)) := by constructor <;> omega
  have e3 : (a.den : Int) * (b.den : Int) ≠ 0 := by omega
  refine CallW_in (tvs := [.ptr 0 0 0, .v (.agg [.int .i64 (Rat.num (a)), .int .i64 ((Rat.den (a) : Nat) : Int)]), .v (.agg [.int .i64 (Rat.num (b)), .int .i64 ((Rat.den (b) : Nat) : Int)])]) Tryd.func45 rfl Tryd.ntmps45 Tryd.results45 (by kernel_rfl) (by simp) (by simp [flatL, V.flat]) rfl fun m Q hQ => ?_
  simp only [List.map_cons, List.map_nil, TV.inst]
  (have FX := And.intro q1 (And.intro q2 q3); repeat' (first | (refine sx ?_ ?_ <;> intro h <;> first | (exfalso; omega) | skip) | (refine g_op ?_; refine g_call ?_; refine g_args ?_; (first | refine s_fnW (fit_w _ _ _ _ ?_ ?_ ?_) ?_) <;> try first | omega | assumption) | refine ny ?_ | refine WA_block ?_))
  all_goals (refine r_esW hQ ?_ ?_ <;> try with_reducible rfl)

theorem sub_w (k : Nat) (a b : Rat) (g : Bool) (ha : sm a) (hb : sm b) : CallW Tryd.prog 46 [.ptr k 0 0, .agg [.int .i64 (Rat.num (a)), .int .i64 ((Rat.den (a) : Nat) : Int)], .agg [.int .i64 (Rat.num (b)), .int .i64 ((Rat.den (b) : Nat) : Int)]] k (.cells .own 82 1 [[.bool (g)]]) (.cells .own 82 1 [[.bool (g || !smB (a - b))]]) (.agg [.int .i64 (Rat.num (cut (a - b))), .int .i64 ((Rat.den (cut (a - b)) : Nat) : Int)]) := by
  rw [← sub_fit a b]
  have q1 := sm_prod ha hb
  have q2 := sm_prod hb ha
  have q3 := sm_den ha hb
  have e1 : B64 (a.num * (b.den : Int) - b.num * (a.den : Int)) := by constructor <;> omega
  have e2 : B64 ((a.den : Int) * (b.den : Int)) := by constructor <;> omega
  have e3 : (a.den : Int) * (b.den : Int) ≠ 0 := by omega
  refine CallW_in (tvs := [.ptr 0 0 0, .v (.agg [.int .i64 (Rat.num (a)), .int .i64 ((Rat.den (a) : Nat) : Int)]), .v (.agg [.int .i64 (Rat.num (b)), .int .i64 ((Rat.den (b) : Nat) : Int)])]) Tryd.func46 rfl Tryd.ntmps46 Tryd.results46 (by kernel_rfl) (by simp) (by simp [flatL, V.flat]) rfl fun m Q hQ => ?_
  simp only [List.map_cons, List.map_nil, TV.inst]
  (have FX := And.intro q1 (And.intro q2 q3); repeat' (first | (refine sx ?_ ?_ <;> intro h <;> first | (exfalso; omega) | skip) | (refine g_op ?_; refine g_call ?_; refine g_args ?_; (first | refine s_fnW (fit_w _ _ _ _ ?_ ?_ ?_) ?_) <;> try first | omega | assumption) | refine ny ?_ | refine WA_block ?_))
  all_goals (refine r_esW hQ ?_ ?_ <;> try with_reducible rfl)

theorem mul_w (k : Nat) (a b : Rat) (g : Bool) (ha : sm a) (hb : sm b) : CallW Tryd.prog 59 [.ptr k 0 0, .agg [.int .i64 (Rat.num (a)), .int .i64 ((Rat.den (a) : Nat) : Int)], .agg [.int .i64 (Rat.num (b)), .int .i64 ((Rat.den (b) : Nat) : Int)]] k (.cells .own 82 1 [[.bool (g)]]) (.cells .own 82 1 [[.bool (g || !smB (a * b))]]) (.agg [.int .i64 (Rat.num (cut (a * b))), .int .i64 ((Rat.den (cut (a * b)) : Nat) : Int)]) := by
  rw [← mul_fit a b]
  have q1 := sm_mul ⟨ha.1, ha.2.1⟩ ⟨hb.1, hb.2.1⟩
  have q3 := sm_den ha hb
  have e1 : B64 (a.num * b.num) := by constructor <;> omega
  have e2 : B64 ((a.den : Int) * (b.den : Int)) := by constructor <;> omega
  have e3 : (a.den : Int) * (b.den : Int) ≠ 0 := by omega
  refine CallW_in (tvs := [.ptr 0 0 0, .v (.agg [.int .i64 (Rat.num (a)), .int .i64 ((Rat.den (a) : Nat) : Int)]), .v (.agg [.int .i64 (Rat.num (b)), .int .i64 ((Rat.den (b) : Nat) : Int)])]) Tryd.func59 rfl Tryd.ntmps59 Tryd.results59 (by kernel_rfl) (by simp) (by simp [flatL, V.flat]) rfl fun m Q hQ => ?_
  simp only [List.map_cons, List.map_nil, TV.inst]
  (have FX := And.intro q1 q3; repeat' (first | (refine sx ?_ ?_ <;> intro h <;> first | (exfalso; omega) | skip) | (refine g_op ?_; refine g_call ?_; refine g_args ?_; (first | refine s_fnW (fit_w _ _ _ _ ?_ ?_ ?_) ?_) <;> try first | omega | assumption) | refine ny ?_ | refine WA_block ?_))
  all_goals (refine r_esW hQ ?_ ?_ <;> try with_reducible rfl)

theorem quo_w (k : Nat) (a b : Rat) (g : Bool) (ha : sm a) (hb : sm b) (h0 : b ≠ 0) : CallW Tryd.prog 60 [.ptr k 0 0, .agg [.int .i64 (Rat.num (a)), .int .i64 ((Rat.den (a) : Nat) : Int)], .agg [.int .i64 (Rat.num (b)), .int .i64 ((Rat.den (b) : Nat) : Int)]] k (.cells .own 82 1 [[.bool (g)]]) (.cells .own 82 1 [[.bool (g || !smB (a / b))]]) (.agg [.int .i64 (Rat.num (cut (a / b))), .int .i64 ((Rat.den (cut (a / b)) : Nat) : Int)]) := by
  rw [← div_fit a b]
  have q1 := sm_prod ha hb
  have hb0 := num_ne h0
  obtain ⟨q3, e3⟩ := sm_dn ha hb hb0
  have e1 : B64 (a.num * (b.den : Int)) := by constructor <;> omega
  have e2 : B64 ((a.den : Int) * b.num) := by constructor <;> omega
  refine CallW_in (tvs := [.ptr 0 0 0, .v (.agg [.int .i64 (Rat.num (a)), .int .i64 ((Rat.den (a) : Nat) : Int)]), .v (.agg [.int .i64 (Rat.num (b)), .int .i64 ((Rat.den (b) : Nat) : Int)])]) Tryd.func60 rfl Tryd.ntmps60 Tryd.results60 (by kernel_rfl) (by simp) (by simp [flatL, V.flat]) rfl fun m Q hQ => ?_
  simp only [List.map_cons, List.map_nil, TV.inst]
  (have FX := And.intro q1 (And.intro q3 hb0); repeat' (first | (refine sx ?_ ?_ <;> intro h <;> first | (exfalso; omega) | skip) | (refine g_op ?_; refine g_call ?_; refine g_args ?_; (first | refine s_fnW (fit_w _ _ _ _ ?_ ?_ ?_) ?_) <;> try first | omega | assumption) | refine ny ?_ | refine WA_block ?_))
  all_goals first | contradiction | (refine r_esW hQ ?_ ?_ <;> try with_reducible rfl)
theorem quo0_w (k : Nat) (a : Rat) (g : Bool) : CallW Tryd.prog 60 [.ptr k 0 0, .agg [.int .i64 (Rat.num (a)), .int .i64 ((Rat.den (a) : Nat) : Int)], .agg [.int .i64 0, .int .i64 1]] k (.cells .own 82 1 [[.bool (g)]]) (.cells .own 82 1 [[.bool (true)]]) (.agg [.int .i64 0, .int .i64 1]) := by
  refine CallW_in (tvs := [.ptr 0 0 0, .v (.agg [.int .i64 (Rat.num (a)), .int .i64 ((Rat.den (a) : Nat) : Int)]), .v (.agg [.int .i64 0, .int .i64 1])]) Tryd.func60 rfl Tryd.ntmps60 Tryd.results60 (by kernel_rfl) (by simp) (by simp [flatL, V.flat]) rfl fun m Q hQ => ?_
  simp only [List.map_cons, List.map_nil, TV.inst]
  (repeat' (first | (refine sx ?_ ?_ <;> intro h <;> first | (exfalso; omega) | skip) | (refine g_op ?_; refine g_call ?_; refine g_args ?_; (first | refine s_fn (awhole_c _ _) ?_) <;> try first | omega | assumption) | refine ny ?_ | refine WA_block ?_))
  all_goals (refine r_esW hQ ?_ ?_ <;> try with_reducible rfl)
def quoQ (a b : Rat) : Rat := if b = 0 then 0 else cut (a / b)
def quoB (a b : Rat) : Bool := if b = 0 then true else !smB (a / b)
theorem quoQ_w (k : Nat) (a b : Rat) (g : Bool) (ha : sm a) (hb : sm b) : CallW Tryd.prog 60 [.ptr k 0 0, .agg [.int .i64 (Rat.num (a)), .int .i64 ((Rat.den (a) : Nat) : Int)], .agg [.int .i64 (Rat.num (b)), .int .i64 ((Rat.den (b) : Nat) : Int)]] k (.cells .own 82 1 [[.bool (g)]]) (.cells .own 82 1 [[.bool (g || quoB a b)]]) (.agg [.int .i64 (Rat.num (quoQ a b)), .int .i64 ((Rat.den (quoQ a b) : Nat) : Int)]) := by
  by_cases h : b = 0
  · subst h
    have h1 : quoB a 0 = true := if_pos rfl
    have h2 : quoQ a 0 = 0 := if_pos rfl
    rw [h1, h2, Bool.or_true]
    exact quo0_w k a g
  · have h1 : quoB a b = !smB (a / b) := if_neg h
    have h2 : quoQ a b = cut (a / b) := if_neg h
    rw [h1, h2]
    exact quo_w k a b g ha hb h
end Go.Proofs.YtihbeoplchiikaaDoor
