/- contracts: the chapter's examples are as told -/
import Derived.Test.YtgmlbabnffopdaaGreatC38
set_option linter.unusedSimpArgs false
set_option linter.unusedVariables false
namespace Go.Proofs.YtgmlbabnffopdaaGreat
open Go.RowKit
attribute [local irreducible] WA WOs WDs WAn qThen qBlock tput
set_option maxHeartbeats 1000000
set_option maxRecDepth 20000
set_option linter.unusedSimpArgs false
set_option linter.unusedVariables false

theorem lupright_c (m : Mem) : Gives Tryz.prog 18 [] m (.agg (actV upA)) := by
  suffices key : Gives Tryz.prog 18 [] m (.agg [.int .i64 1000, .lst (prtsV upA.parts), .lst (evsV upA.evs), .nilsl]) by
    exact Gives_weak key (wk_agg ⟨WkV.refl _, WkV.refl _, WkV.refl _, wk_nil, trivial⟩)
  refine CallA_in Tryz.func18 rfl Tryz.ntmps18 Tryz.results18 (by kernel_rfl) (by simp) fun Q hQ => ?_
  (repeat' (first | (refine sx ?_ ?_ <;> intro h <;> first | (exfalso; omega) | skip) | (refine g_op ?_; refine g_call ?_; refine g_args ?_; (first | refine s_fn (lcurve4_c 0 0 1000 500 _ _ .own ?_) ?_ | refine s_fn (lcurve6_c 0 0 450 4500 500 4300 _ _ .own ?_) ?_) <;> try first | omega | assumption) | refine ny ?_ | refine WA_block ?_))
  all_goals try (simp; done)
  all_goals (refine r_esA hQ (fin_a4 (frzTo_int _ _ _) (frzTo_sl (j := 3) rfl rfl rfl) (frzTo_sl (j := 4) rfl rfl rfl) (frzTo_nil _) ⟨rfl, rfl⟩))
theorem ex_val (m : Mem) : Gives Tryz.prog 15 [.agg [.lst (rksV [wk 0 0, wk 10 5, wk 20 25])], .agg [.int .i64 15, .int .i64 1]] m (.tup [.agg [.int .i64 15, .int .i64 1], .int .i64 0]) := by
  have h := avalue_c exL exL_b 15 1 (by constructor <;> decide) (by constructor <;> decide) m
  rw [exL_val] at h
  exact h
theorem ex_tou (m : Mem) : Gives Tryz.prog 9 [.agg (actV upA), .agg [.int .i64 0, .int .i64 1]] m (.tup [.agg [.int .i64 260, .int .i64 1, .int .i64 140, .int .i64 1], .int .i64 0]) := by
  have h := atouchx_c upA upA_lt 0 1 (by constructor <;> decide) (by constructor <;> decide) m
  unfold touE at h
  rw [upA_dip, if_neg (by decide), upA_tou] at h
  exact h
theorem ex_ord (m : Mem) : Gives Tryz.prog 19 [.agg (actV upA)] m (.tup [.lst [[.str [108, 105, 102, 116]], [.str [108, 101, 116, 45, 111, 102, 102]]], .int .i64 0]) := by
  have h := aorder_c upA upA_lt (fun _ => by decide) m
  unfold ordV at h
  rw [upA_ok, if_neg (by decide), upA_hap] at h
  exact h
theorem uC39_4_4 {N : Nat} {l : List Oper} {t : List (Nat × V)} {m : Mem} {Q : Exit → List (Nat × V) → Mem → Prop} (h : RgN Tryz.prog N l t m Q (fun i => if i == 24 || i == 25 then .a else if i == 3 || i == 4 || i == 5 || i == 12 || i == 13 || i == 14 || i == 16 then .q else .p) [.one 0, .one 1, .one 2, .one 3, .one 4, .one 5, .one 6, .one 7, .one 8, .one 9, .one 10, .one 11, .one 12, .one 13, .one 14, .one 15, .one 16, .one 17, .one 18, .one 19, .one 20, .one 21, .one 22, .one 23, .one 24, .one 25, .one 26, .one 27]) : WA Tryz.prog N (.region 4 l.toArray true) t m Q := d_rgN h
theorem lawake_c (m : Mem) : Gives Tryz.prog 4 [] m (.bool true) := by
  refine Gives_in Tryz.func4 rfl Tryz.ntmps4 Tryz.results4 (by kernel_rfl) (by simp) rfl fun Q hQ => ?_
  (repeat' (first | (refine sx ?_ ?_ <;> intro h <;> first | (exfalso; omega) | skip) | (refine g_op ?_; refine g_call ?_; refine g_args ?_; (first | refine s_fn (lcurve6_c 0 0 10 5 20 25 _ _ .own ?_) ?_ | refine s_fn (rwhole_c _ _) ?_ | refine s_fn (ex_val _) ?_ | refine s_fn (lupright_c _) ?_ | refine s_fn (ex_tou _) ?_ | refine s_fn (ex_ord _) ?_ | refine s_fn (btexts_same [108, 105, 102, 116] [108, 101, 116, 45, 111, 102, 102] _ _ .own ?_) ?_) <;> try first | omega | assumption) | refine ny ?_ | refine WA_block ?_ | (refine uC39_4_4 ?_; refine ⟨by kernel_rfl, ?_⟩) | ((first | refine grp_cons (fun _ => lcurve6_c 0 0 10 5 20 25 _ _ .own ?_) ?_ | refine grp_cons (fun _ => rwhole_c _ _) ?_ | refine grp_cons (fun _ => ex_val _) ?_ | refine grp_cons (fun _ => lupright_c _) ?_ | refine grp_cons (fun _ => ex_tou _) ?_ | refine grp_cons (fun _ => ex_ord _) ?_ | refine grp_cons (fun _ => btexts_same [108, 105, 102, 116] [108, 101, 116, 45, 111, 102, 102] _ _ .own ?_) ?_) <;> try first | omega | assumption) | (refine g_d ?_; refine d_args ?_; (first | refine d_fn (lcurve6_c 0 0 10 5 20 25 _ _ .own ?_) ?_ | refine d_fn (rwhole_c _ _) ?_ | refine d_fn (ex_val _) ?_ | refine d_fn (lupright_c _) ?_ | refine d_fn (ex_tou _) ?_ | refine d_fn (ex_ord _) ?_ | refine d_fn (btexts_same [108, 105, 102, 116] [108, 101, 116, 45, 111, 102, 102] _ _ .own ?_) ?_ | refine d_fnQ (fun _ => lcurve6_c 0 0 10 5 20 25 _ _ .own ?_) ?_ | refine d_fnQ (fun _ => rwhole_c _ _) ?_ | refine d_fnQ (fun _ => ex_val _) ?_ | refine d_fnQ (fun _ => lupright_c _) ?_ | refine d_fnQ (fun _ => ex_tou _) ?_ | refine d_fnQ (fun _ => ex_ord _) ?_ | refine d_fnQ (fun _ => btexts_same [108, 105, 102, 116] [108, 101, 116, 45, 111, 102, 102] _ _ .own ?_) ?_) <;> try first | omega | assumption) | (refine g_d ?_; (first | refine d_fnY (lcurve6_c 0 0 10 5 20 25 _ _ .own ?_) ?_ | refine d_fnY (rwhole_c _ _) ?_ | refine d_fnY (ex_val _) ?_ | refine d_fnY (lupright_c _) ?_ | refine d_fnY (ex_tou _) ?_ | refine d_fnY (ex_ord _) ?_ | refine d_fnY (btexts_same [108, 105, 102, 116] [108, 101, 116, 45, 111, 102, 102] _ _ .own ?_) ?_) <;> try first | omega | assumption)))
  all_goals try (simp; done)
  all_goals (refine r_es hQ ?_; try with_reducible rfl)
end Go.Proofs.YtgmlbabnffopdaaGreat
