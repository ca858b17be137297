import Derived.Test.YtihbeoplchiikaaDoorC22
set_option linter.unusedSimpArgs false
set_option linter.unusedVariables false
/- contracts: curves, positions and ratios of parts -/
namespace Go.Proofs.YtihbeoplchiikaaDoor
open Go.RowKit
attribute [local irreducible] WA WOs WDs WAn qThen qBlock tput
set_option maxHeartbeats 1000000
set_option maxRecDepth 20000
set_option linter.unusedSimpArgs false
set_option linter.unusedVariables false
/-- the error of a dip -/
def dipErr (a : ActR) (n d : Int) : Int := if frErr n d ≠ 0 then frErr n d else if n < 0 ∨ a.dip * d < n then 2 else 0
def chkDip (a : ActR) (n d : Int) : Int := if acErr a ≠ 0 then acErr a else dipErr a n d
theorem dip_bd {a : ActR} (h : acErr a = 0) {n d : Int} (hf : frErr n d = 0) : (-1000000000000000000 ≤ n * 1 ∧ n * 1 ≤ 1000000000000000000) ∧ (-1000000000000000000 ≤ a.dip * d ∧ a.dip * d ≤ 1000000000000000000) := by
  obtain ⟨h1, h2, h3, h4, h5⟩ := frErr_ok hf
  have hd := (acErr_pts h).dip
  have := sm_mul (a := a.dip) (b := d) (by omega) (by omega)
  omega
theorem cmpI_pos {u v : Int} : 0 < cmpI u v ↔ v < u := by unfold cmpI; split <;> (try split) <;> omega
theorem uC24_31_7 {N : Nat} {l : List Oper} {t : List (Nat × V)} {m : Mem} {Q : Exit → List (Nat × V) → Mem → Prop} (h : RgN Tryd.prog N l t m Q (fun i => if i == 1 || i == 4 || i == 6 || i == 7 || i == 8 then .q else .p) [.one 0, .one 1, .one 2, .one 3, .one 4, .one 5, .one 6, .one 7, .one 8, .one 9, .one 10]) : WA Tryd.prog N (.region 7 l.toArray true) t m Q := d_rgN h
theorem acheckdip_c (a : ActR) (ha : Lt a) (n d : Int) (h1 : B64 n) (h2 : B64 d) (m : Mem) : Gives Tryd.prog 31 [.agg (actV a), .agg [.int .i64 n, .int .i64 d]] m (.int .i64 (chkDip a n d)) := by
  unfold chkDip dipErr
  by_cases c1 : acErr a = 0
  · rw [if_neg (by omega)]
    by_cases c2 : frErr n d = 0
    · have hb := dip_bd c1 c2
      have hx := c1
      have hq := cmpI_pos (u := n * 1) (v := a.dip * d)
      rw [if_neg (by omega)]
      unfold actV
      refine Gives_in Tryd.func31 rfl Tryd.ntmps31 Tryd.results31 (by kernel_rfl) (by simp) rfl fun Q hQ => ?_
      (have FX := hx; repeat' (first | (refine sx ?_ ?_ <;> intro h <;> first | (exfalso; omega) | skip) | (refine g_op ?_; refine g_call ?_; refine g_args ?_; (first | refine s_fn (acheckaction_c a ha _) ?_ | refine s_fn (acheck_c n d h1 h2 _) ?_ | refine s_fn (awhole_c _ _) ?_ | refine s_fn (acompare_r n d a.dip 1 hb.1 hb.2 _) ?_) <;> try first | omega | assumption) | refine ny ?_ | refine WA_block ?_ | (refine uC24_31_7 ?_; refine ⟨by kernel_rfl, ?_⟩) | ((first | refine grp_cons (fun _ => acheckaction_c a ha _) ?_ | refine grp_cons (fun _ => acheck_c n d h1 h2 _) ?_ | refine grp_cons (fun _ => awhole_c _ _) ?_ | refine grp_cons (fun _ => acompare_r n d a.dip 1 hb.1 hb.2 _) ?_) <;> try first | omega | assumption) | (refine g_d ?_; refine d_args ?_; (first | refine d_fn (acheckaction_c a ha _) ?_ | refine d_fn (acheck_c n d h1 h2 _) ?_ | refine d_fn (awhole_c _ _) ?_ | refine d_fn (acompare_r n d a.dip 1 hb.1 hb.2 _) ?_ | refine d_fnQ (fun _ => acheckaction_c a ha _) ?_ | refine d_fnQ (fun _ => acheck_c n d h1 h2 _) ?_ | refine d_fnQ (fun _ => awhole_c _ _) ?_ | refine d_fnQ (fun _ => acompare_r n d a.dip 1 hb.1 hb.2 _) ?_) <;> try first | omega | assumption) | (refine g_d ?_; (first | refine d_fnY (acheckaction_c a ha _) ?_ | refine d_fnY (acheck_c n d h1 h2 _) ?_ | refine d_fnY (awhole_c _ _) ?_ | refine d_fnY (acompare_r n d a.dip 1 hb.1 hb.2 _) ?_) <;> try first | omega | assumption)))
      all_goals (try (exfalso; omega))
      all_goals ((refine r_es hQ ?_; try with_reducible rfl))
      all_goals (first | (rw [if_pos (by omega)]; done) | (rw [if_neg (by omega)]; done))
    · have hb : (-1000000000000000000 ≤ (0 : Int) * 1 ∧ (0 : Int) * 1 ≤ 1000000000000000000) ∧ (-1000000000000000000 ≤ (0 : Int) * d ∧ (0 : Int) * d ≤ 1000000000000000000) := by omega
      have hx := c1
      rw [if_pos (by omega)]
      unfold actV
      refine Gives_in Tryd.func31 rfl Tryd.ntmps31 Tryd.results31 (by kernel_rfl) (by simp) rfl fun Q hQ => ?_
      (have FX := hx; repeat' (first | (refine sx ?_ ?_ <;> intro h <;> first | (exfalso; omega) | skip) | (refine g_op ?_; refine g_call ?_; refine g_args ?_; (first | refine s_fn (acheckaction_c a ha _) ?_ | refine s_fn (acheck_c n d h1 h2 _) ?_ | refine s_fn (awhole_c _ _) ?_) <;> try first | omega | assumption) | refine ny ?_ | refine WA_block ?_ | (refine uC24_31_7 ?_; refine ⟨by kernel_rfl, ?_⟩) | ((first | refine grp_cons (fun _ => acheckaction_c a ha _) ?_ | refine grp_cons (fun _ => acheck_c n d h1 h2 _) ?_ | refine grp_cons (fun _ => awhole_c _ _) ?_) <;> try first | omega | assumption) | (refine g_d ?_; refine d_args ?_; (first | refine d_fn (acheckaction_c a ha _) ?_ | refine d_fn (acheck_c n d h1 h2 _) ?_ | refine d_fn (awhole_c _ _) ?_ | refine d_fnQ (fun _ => acheckaction_c a ha _) ?_ | refine d_fnQ (fun _ => acheck_c n d h1 h2 _) ?_ | refine d_fnQ (fun _ => awhole_c _ _) ?_) <;> try first | omega | assumption) | (refine g_d ?_; (first | refine d_fnY (acheckaction_c a ha _) ?_ | refine d_fnY (acheck_c n d h1 h2 _) ?_ | refine d_fnY (awhole_c _ _) ?_) <;> try first | omega | assumption)))
      all_goals (try (exfalso; omega))
      all_goals ((refine r_es hQ ?_; try with_reducible rfl))
  · have hx := c1
    rw [if_pos (by omega)]
    unfold actV
    refine Gives_in Tryd.func31 rfl Tryd.ntmps31 Tryd.results31 (by kernel_rfl) (by simp) rfl fun Q hQ => ?_
    (have FX := hx; repeat' (first | (refine sx ?_ ?_ <;> intro h <;> first | (exfalso; omega) | skip) | (refine g_op ?_; refine g_call ?_; refine g_args ?_; (first | refine s_fn (acheckaction_c a ha _) ?_ | refine s_fn (acheck_c n d h1 h2 _) ?_ | refine s_fn (awhole_c _ _) ?_) <;> try first | omega | assumption) | refine ny ?_ | refine WA_block ?_ | (refine uC24_31_7 ?_; refine ⟨by kernel_rfl, ?_⟩) | ((first | refine grp_cons (fun _ => acheckaction_c a ha _) ?_ | refine grp_cons (fun _ => acheck_c n d h1 h2 _) ?_ | refine grp_cons (fun _ => awhole_c _ _) ?_) <;> try first | omega | assumption) | (refine g_d ?_; refine d_args ?_; (first | refine d_fn (acheckaction_c a ha _) ?_ | refine d_fn (acheck_c n d h1 h2 _) ?_ | refine d_fn (awhole_c _ _) ?_ | refine d_fnQ (fun _ => acheckaction_c a ha _) ?_ | refine d_fnQ (fun _ => acheck_c n d h1 h2 _) ?_ | refine d_fnQ (fun _ => awhole_c _ _) ?_) <;> try first | omega | assumption) | (refine g_d ?_; (first | refine d_fnY (acheckaction_c a ha _) ?_ | refine d_fnY (acheck_c n d h1 h2 _) ?_ | refine d_fnY (awhole_c _ _) ?_) <;> try first | omega | assumption)))
    all_goals (try (exfalso; omega))
    all_goals ((refine r_es hQ ?_; try with_reducible rfl))
end Go.Proofs.YtihbeoplchiikaaDoor
/- contracts: the curve of a part at a dip; positions and ratios -/
namespace Go.Proofs.YtihbeoplchiikaaDoor
open Go.RowKit
attribute [local irreducible] WA WOs WDs WAn qThen qBlock tput
set_option maxHeartbeats 1000000
set_option maxRecDepth 20000
set_option linter.unusedSimpArgs false
set_option linter.unusedVariables false
attribute [local irreducible] smB cut sm
theorem chk_dp {a : ActR} {n d : Int} (h : acErr a = 0) : chkDip a n d = dipErr a n d := by unfold chkDip; rw [if_neg (by omega)]
theorem dip_q {a : ActR} {n d : Int} (h : dipErr a n d = 0) : frErr n d = 0 ∧ (toQ (n, d)).num = n ∧ ((toQ (n, d)).den : Int) = d ∧ sm (toQ (n, d)) ∧ 0 ≤ n ∧ n ≤ a.dip * d := by
  unfold dipErr at h
  split at h
  · contradiction
  · rename_i h0
    have h0 : frErr n d = 0 := by omega
    obtain ⟨h1, h2⟩ := frErr_q h0
    unfold rawQ at h1
    injection h1 with h3 h4
    split at h
    · simp at h
    · exact ⟨h0, h3, h4, h2, by omega, by omega⟩
end Go.Proofs.YtihbeoplchiikaaDoor
/- contracts: where a curve reaches a level, in the reference -/
namespace Go.Proofs.YtihbeoplchiikaaDoor
end Go.Proofs.YtihbeoplchiikaaDoor
