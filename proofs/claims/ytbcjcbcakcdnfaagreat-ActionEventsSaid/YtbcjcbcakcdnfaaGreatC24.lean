/- contracts: curves, positions and ratios of parts -/
import Derived.Test.YtbcjcbcakcdnfaaGreatC22
set_option linter.unusedSimpArgs false
set_option linter.unusedVariables false
namespace Go.Proofs.YtbcjcbcakcdnfaaGreat
open Go.RowKit
attribute [local irreducible] WA WOs WDs WAn qThen qBlock tput
set_option maxHeartbeats 1000000
set_option maxRecDepth 20000
set_option linter.unusedSimpArgs false
set_option linter.unusedVariables false
/-- the error of a dip -/
def dipErr (a : ActR) (n d : Int) : Int := if frErr n d ≠ 0 then frErr n d else if n < 0 ∨ a.dip * d < n then 2 else 0
def chkDip (a : ActR) (n d : Int) : Int := if acErr a ≠ 0 then acErr a else dipErr a n d
theorem dip_bd {a : ActR} (h : acErr a = 0) {n d : Int} (hf : frErr n d = 0) : (-1000000000000000000 ≤ n * 1 ∧ n * 1 ≤ 1000000000000000000) ∧ (-1000000000000000000 ≤ a.dip * d ∧ a.dip * d ≤ 1000000000000000000) := by
  obtain ⟨h1, h2, h3, h4, h5⟩ := frErr_ok hf
  have hd := (acErr_pts h).dip
  have := sm_mul (a := a.dip) (b := d) (by omega) (by omega)
  omega
theorem cmpI_pos {u v : Int} : 0 < cmpI u v ↔ v < u := by unfold cmpI; split <;> (try split) <;> omega
theorem uC24_41_7 {N : Nat} {l : List Oper} {t : List (Nat × V)} {m : Mem} {Q : Exit → List (Nat × V) → Mem → Prop} (h : RgN Tryz.prog N l t m Q (fun i => if i == 1 || i == 4 || i == 6 || i == 7 || i == 8 then .q else .p) [.one 0, .one 1, .one 2, .one 3, .one 4, .one 5, .one 6, .one 7, .one 8, .one 9, .one 10]) : WA Tryz.prog N (.region 7 l.toArray true) t m Q := d_rgN h
theorem acheckdip_c (a : ActR) (ha : Lt a) (n d : Int) (h1 : B64 n) (h2 : B64 d) (m : Mem) : Gives Tryz.prog 41 [.agg (actV a), .agg [.int .i64 n, .int .i64 d]] m (.int .i64 (chkDip a n d)) := by
  unfold chkDip dipErr
  by_cases c1 : acErr a = 0
  · rw [if_neg (by omega)]
    by_cases c2 : frErr n d = 0
    · have hb := dip_bd c1 c2
      have hx := c1
      have hq := cmpI_pos (u := n * 1) (v := a.dip * d)
      rw [if_neg (by omega)]
      unfold actV
      refine Gives_in Tryz.func41 rfl Tryz.ntmps41 Tryz.results41 (by kernel_rfl) (by simp) rfl fun Q hQ => ?_
      (have FX := hx; repeat' (first | (refine sx ?_ ?_ <;> intro h <;> first | (exfalso; omega) | skip) | (refine g_op ?_; refine g_call ?_; refine g_args ?_; (first | refine s_fn (acheckaction_c a ha _) ?_ | refine s_fn (acheck_c n d h1 h2 _) ?_ | refine s_fn (awhole_c _ _) ?_ | refine s_fn (acompare_r n d a.dip 1 hb.1 hb.2 _) ?_) <;> try first | omega | assumption) | refine ny ?_ | refine WA_block ?_ | (refine uC24_41_7 ?_; refine ⟨by kernel_rfl, ?_⟩) | ((first | refine grp_cons (fun _ => acheckaction_c a ha _) ?_ | refine grp_cons (fun _ => acheck_c n d h1 h2 _) ?_ | refine grp_cons (fun _ => awhole_c _ _) ?_ | refine grp_cons (fun _ => acompare_r n d a.dip 1 hb.1 hb.2 _) ?_) <;> try first | omega | assumption) | (refine g_d ?_; refine d_args ?_; (first | refine d_fn (acheckaction_c a ha _) ?_ | refine d_fn (acheck_c n d h1 h2 _) ?_ | refine d_fn (awhole_c _ _) ?_ | refine d_fn (acompare_r n d a.dip 1 hb.1 hb.2 _) ?_ | refine d_fnQ (fun _ => acheckaction_c a ha _) ?_ | refine d_fnQ (fun _ => acheck_c n d h1 h2 _) ?_ | refine d_fnQ (fun _ => awhole_c _ _) ?_ | refine d_fnQ (fun _ => acompare_r n d a.dip 1 hb.1 hb.2 _) ?_) <;> try first | omega | assumption) | (refine g_d ?_; (first | refine d_fnY (acheckaction_c a ha _) ?_ | refine d_fnY (acheck_c n d h1 h2 _) ?_ | refine d_fnY (awhole_c _ _) ?_ | refine d_fnY (acompare_r n d a.dip 1 hb.1 hb.2 _) ?_) <;> try first | omega | assumption)))
      all_goals (try (exfalso; omega))
      all_goals ((refine r_es hQ ?_; try with_reducible rfl))
      all_goals (first | (rw [if_pos (by omega)]; done) | (rw [if_neg (by omega)]; done))
    · have hb : (-1000000000000000000 ≤ (0 : Int) * 1 ∧ (0 : Int) * 1 ≤ 1000000000000000000) ∧ (-1000000000000000000 ≤ (0 : Int) * d ∧ (0 : Int) * d ≤ 1000000000000000000) := by omega
      have hx := c1
      rw [if_pos (by omega)]
      unfold actV
      refine Gives_in Tryz.func41 rfl Tryz.ntmps41 Tryz.results41 (by kernel_rfl) (by simp) rfl fun Q hQ => ?_
      (have FX := hx; repeat' (first | (refine sx ?_ ?_ <;> intro h <;> first | (exfalso; omega) | skip) | (refine g_op ?_; refine g_call ?_; refine g_args ?_; (first | refine s_fn (acheckaction_c a ha _) ?_ | refine s_fn (acheck_c n d h1 h2 _) ?_ | refine s_fn (awhole_c _ _) ?_) <;> try first | omega | assumption) | refine ny ?_ | refine WA_block ?_ | (refine uC24_41_7 ?_; refine ⟨by kernel_rfl, ?_⟩) | ((first | refine grp_cons (fun _ => acheckaction_c a ha _) ?_ | refine grp_cons (fun _ => acheck_c n d h1 h2 _) ?_ | refine grp_cons (fun _ => awhole_c _ _) ?_) <;> try first | omega | assumption) | (refine g_d ?_; refine d_args ?_; (first | refine d_fn (acheckaction_c a ha _) ?_ | refine d_fn (acheck_c n d h1 h2 _) ?_ | refine d_fn (awhole_c _ _) ?_ | refine d_fnQ (fun _ => acheckaction_c a ha _) ?_ | refine d_fnQ (fun _ => acheck_c n d h1 h2 _) ?_ | refine d_fnQ (fun _ => awhole_c _ _) ?_) <;> try first | omega | assumption) | (refine g_d ?_; (first | refine d_fnY (acheckaction_c a ha _) ?_ | refine d_fnY (acheck_c n d h1 h2 _) ?_ | refine d_fnY (awhole_c _ _) ?_) <;> try first | omega | assumption)))
      all_goals (try (exfalso; omega))
      all_goals ((refine r_es hQ ?_; try with_reducible rfl))
  · have hx := c1
    rw [if_pos (by omega)]
    unfold actV
    refine Gives_in Tryz.func41 rfl Tryz.ntmps41 Tryz.results41 (by kernel_rfl) (by simp) rfl fun Q hQ => ?_
    (have FX := hx; repeat' (first | (refine sx ?_ ?_ <;> intro h <;> first | (exfalso; omega) | skip) | (refine g_op ?_; refine g_call ?_; refine g_args ?_; (first | refine s_fn (acheckaction_c a ha _) ?_ | refine s_fn (acheck_c n d h1 h2 _) ?_ | refine s_fn (awhole_c _ _) ?_) <;> try first | omega | assumption) | refine ny ?_ | refine WA_block ?_ | (refine uC24_41_7 ?_; refine ⟨by kernel_rfl, ?_⟩) | ((first | refine grp_cons (fun _ => acheckaction_c a ha _) ?_ | refine grp_cons (fun _ => acheck_c n d h1 h2 _) ?_ | refine grp_cons (fun _ => awhole_c _ _) ?_) <;> try first | omega | assumption) | (refine g_d ?_; refine d_args ?_; (first | refine d_fn (acheckaction_c a ha _) ?_ | refine d_fn (acheck_c n d h1 h2 _) ?_ | refine d_fn (awhole_c _ _) ?_ | refine d_fnQ (fun _ => acheckaction_c a ha _) ?_ | refine d_fnQ (fun _ => acheck_c n d h1 h2 _) ?_ | refine d_fnQ (fun _ => awhole_c _ _) ?_) <;> try first | omega | assumption) | (refine g_d ?_; (first | refine d_fnY (acheckaction_c a ha _) ?_ | refine d_fnY (acheck_c n d h1 h2 _) ?_ | refine d_fnY (awhole_c _ _) ?_) <;> try first | omega | assumption)))
    all_goals (try (exfalso; omega))
    all_goals ((refine r_es hQ ?_; try with_reducible rfl))
theorem uC24_28_4 {N : Nat} {l : List Oper} {t : List (Nat × V)} {m : Mem} {Q : Exit → List (Nat × V) → Mem → Prop} (h : RgN Tryz.prog N l t m Q (fun i => if i == 0 || i == 1 || i == 2 || i == 5 || i == 7 || i == 8 || i == 9 then .q else .p) [.one 0, .one 1, .one 2, .one 3, .one 4, .one 5, .one 6, .one 7, .one 8, .one 9, .one 10, .one 11]) : WA Tryz.prog N (.region 4 l.toArray true) t m Q := d_rgN h
theorem rcheckdip_c (a : ActR) (hac : acErr a = 0) (n d : Int) (h1 : B64 n) (h2 : B64 d) (m : Mem) : Gives Tryz.prog 28 [.agg (actV a), .agg [.int .i64 n, .int .i64 d]] m (.int .i64 (dipErr a n d)) := by
  unfold dipErr
  by_cases c2 : frErr n d = 0
  · have hb := dip_bd hac c2
    have hz : -1000000000000000000 ≤ (0 : Int) * d ∧ (0 : Int) * d ≤ 1000000000000000000 := by omega
    have hx := c2
    have hq := cmpI_pos (u := n * 1) (v := a.dip * d)
    have hq2 : cmpI (n * 1) (0 * d) < 0 ↔ n < 0 := by unfold cmpI; rw [Int.zero_mul, Int.mul_one]; split <;> (try split) <;> omega
    rw [if_neg (by omega)]
    unfold actV
    refine Gives_in Tryz.func28 rfl Tryz.ntmps28 Tryz.results28 (by kernel_rfl) (by simp) rfl fun Q hQ => ?_
    (have FX := hx; repeat' (first | (refine sx ?_ ?_ <;> intro h <;> first | (exfalso; omega) | skip) | (refine g_op ?_; refine g_call ?_; refine g_args ?_; (first | refine s_fn (rcheckfrac_c n d h1 h2 _) ?_ | refine s_fn (rwhole_c _ _) ?_ | refine s_fn (bcmp_r n d 0 1 hb.1 hz _) ?_ | refine s_fn (bcmp_r n d a.dip 1 hb.1 hb.2 _) ?_) <;> try first | omega | assumption) | refine ny ?_ | refine WA_block ?_ | (refine uC24_28_4 ?_; refine ⟨by kernel_rfl, ?_⟩) | ((first | refine grp_cons (fun _ => rcheckfrac_c n d h1 h2 _) ?_ | refine grp_cons (fun _ => rwhole_c _ _) ?_ | refine grp_cons (fun _ => bcmp_r n d 0 1 hb.1 hz _) ?_ | refine grp_cons (fun _ => bcmp_r n d a.dip 1 hb.1 hb.2 _) ?_) <;> try first | omega | assumption) | (refine g_d ?_; refine d_args ?_; (first | refine d_fn (rcheckfrac_c n d h1 h2 _) ?_ | refine d_fn (rwhole_c _ _) ?_ | refine d_fn (bcmp_r n d 0 1 hb.1 hz _) ?_ | refine d_fn (bcmp_r n d a.dip 1 hb.1 hb.2 _) ?_ | refine d_fnQ (fun _ => rcheckfrac_c n d h1 h2 _) ?_ | refine d_fnQ (fun _ => rwhole_c _ _) ?_ | refine d_fnQ (fun _ => bcmp_r n d 0 1 hb.1 hz _) ?_ | refine d_fnQ (fun _ => bcmp_r n d a.dip 1 hb.1 hb.2 _) ?_) <;> try first | omega | assumption) | (refine g_d ?_; (first | refine d_fnY (rcheckfrac_c n d h1 h2 _) ?_ | refine d_fnY (rwhole_c _ _) ?_ | refine d_fnY (bcmp_r n d 0 1 hb.1 hz _) ?_ | refine d_fnY (bcmp_r n d a.dip 1 hb.1 hb.2 _) ?_) <;> try first | omega | assumption)))
    all_goals (try (exfalso; omega))
    all_goals ((refine r_es hQ ?_; try with_reducible rfl))
    all_goals (first | (rw [if_pos (by omega)]; done) | (rw [if_neg (by omega)]; done))
  · have hx := c2
    rw [if_pos (by omega)]
    unfold actV
    refine Gives_in Tryz.func28 rfl Tryz.ntmps28 Tryz.results28 (by kernel_rfl) (by simp) rfl fun Q hQ => ?_
    (have FX := hx; repeat' (first | (refine sx ?_ ?_ <;> intro h <;> first | (exfalso; omega) | skip) | (refine g_op ?_; refine g_call ?_; refine g_args ?_; (first | refine s_fn (rcheckfrac_c n d h1 h2 _) ?_ | refine s_fn (rwhole_c _ _) ?_) <;> try first | omega | assumption) | refine ny ?_ | refine WA_block ?_ | (refine uC24_28_4 ?_; refine ⟨by kernel_rfl, ?_⟩) | ((first | refine grp_cons (fun _ => rcheckfrac_c n d h1 h2 _) ?_ | refine grp_cons (fun _ => rwhole_c _ _) ?_) <;> try first | omega | assumption) | (refine g_d ?_; refine d_args ?_; (first | refine d_fn (rcheckfrac_c n d h1 h2 _) ?_ | refine d_fn (rwhole_c _ _) ?_ | refine d_fnQ (fun _ => rcheckfrac_c n d h1 h2 _) ?_ | refine d_fnQ (fun _ => rwhole_c _ _) ?_) <;> try first | omega | assumption) | (refine g_d ?_; (first | refine d_fnY (rcheckfrac_c n d h1 h2 _) ?_ | refine d_fnY (rwhole_c _ _) ?_) <;> try first | omega | assumption)))
    all_goals (try (exfalso; omega))
    all_goals ((refine r_es hQ ?_; try with_reducible rfl))
def prI (a : ActR) (s : List UInt8) : Int := fidx (isP s) a.parts
/-- the error of a part -/
def ptE (a : ActR) (s : List UInt8) : Int := if acErr a ≠ 0 then acErr a else if prI a s < 0 then 6 else 0
/-- the error of a part and a dip -/
def psE (a : ActR) (s : List UInt8) (n d : Int) : Int := if ptE a s ≠ 0 then ptE a s else dipErr a n d
theorem prI_ok {a : ActR} {s : List UInt8} (h : ptE a s = 0) : acErr a = 0 ∧ prI a s = ((prI a s).toNat : Int) ∧ (prI a s).toNat < a.parts.length := by
  unfold ptE at h
  have := fidx_bd (isP s) a.parts
  split at h
  · contradiction
  · split at h
    · simp at h
    · unfold prI at *
      refine ⟨by omega, by omega, by omega⟩
end Go.Proofs.YtbcjcbcakcdnfaaGreat
