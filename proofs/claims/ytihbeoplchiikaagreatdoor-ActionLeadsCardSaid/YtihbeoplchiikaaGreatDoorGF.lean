import Derived.Test.YtihbeoplchiikaaGreatDoorC22
set_option linter.unusedSimpArgs false
set_option linter.unusedVariables false
/- contracts: curves, positions and ratios of parts -/
namespace Go.Proofs.YtihbeoplchiikaaGreatDoor
open Go.RowKit
attribute [local irreducible] WA WOs WDs WAn qThen qBlock tput
set_option maxHeartbeats 1000000
set_option maxRecDepth 20000
set_option linter.unusedSimpArgs false
set_option linter.unusedVariables false
/-- the error of a dip -/
def dipErr (a : ActR) (n d : Int) : Int := if frErr n d ≠ 0 then frErr n d else if n < 0 ∨ a.dip * d < n then 2 else 0
def chkDip (a : ActR) (n d : Int) : Int := if acErr a ≠ 0 then acErr a else dipErr a n d
theorem dip_bd {a : ActR} (h : acErr a = 0) {n d : Int} (hf : frErr n d = 0) : (-1000000000000000000 ≤ n * 1 ∧ n * 1 ≤ 1000000000000000000) ∧ (-1000000000000000000 ≤ a.dip * d ∧ a.dip * d ≤ 1000000000000000000) := by
  obtain ⟨h1, h2, h3, h4, h5⟩ := frErr_ok hf
  have hd := (acErr_pts h).dip
  have := sm_mul (a := a.dip) (b := d) (by omega) (by omega)
  omega
theorem cmpI_pos {u v : Int} : 0 < cmpI u v ↔ v < u := by unfold cmpI; split <;> (try split) <;> omega
theorem uC24_43_7 {N : Nat} {l : List Oper} {t : List (Nat × V)} {m : Mem} {Q : Exit → List (Nat × V) → Mem → Prop} (h : RgN Tryz.prog N l t m Q (fun i => if i == 1 || i == 4 || i == 6 || i == 7 || i == 8 then .q else .p) [.one 0, .one 1, .one 2, .one 3, .one 4, .one 5, .one 6, .one 7, .one 8, .one 9, .one 10]) : WA Tryz.prog N (.region 7 l.toArray true) t m Q := d_rgN h
theorem acheckdip_c (a : ActR) (ha : Lt a) (n d : Int) (h1 : B64 n) (h2 : B64 d) (m : Mem) : Gives Tryz.prog 43 [.agg (actV a), .agg [.int .i64 n, .int .i64 d]] m (.int .i64 (chkDip a n d)) := by
  unfold chkDip dipErr
  by_cases c1 : acErr a = 0
  · rw [if_neg (by omega)]
    by_cases c2 : frErr n d = 0
    · have hb := dip_bd c1 c2
      have hx := c1
      have hq := cmpI_pos (u := n * 1) (v := a.dip * d)
      rw [if_neg (by omega)]
      unfold actV
      refine Gives_in Tryz.func43 rfl Tryz.ntmps43 Tryz.results43 (by kernel_rfl) (by simp) rfl fun Q hQ => ?_
      (have FX := hx; repeat' (first | (refine sx ?_ ?_ <;> intro h <;> first | (exfalso; omega) | skip) | (refine na ?_; (first | refine nb (acheckaction_c a ha) ?_ | refine nb (acheck_c n d h1 h2) ?_ | refine nb (awhole_c _) ?_ | refine nb (acompare_r n d a.dip 1 hb.1 hb.2) ?_) <;> try first | omega | assumption) | refine ny ?_ | refine WA_block ?_ | (refine uC24_43_7 ?_; refine ⟨by kernel_rfl, ?_⟩) | (refine g_d ?_; (first | refine d_fnY (acheckaction_c a ha _) ?_ | refine d_fnY (acheck_c n d h1 h2 _) ?_ | refine d_fnY (awhole_c _ _) ?_ | refine d_fnY (acompare_r n d a.dip 1 hb.1 hb.2 _) ?_) <;> try first | omega | assumption)))
      all_goals (try (exfalso; omega))
      all_goals ((refine r_es hQ ?_; try with_reducible rfl))
      all_goals (first | (rw [if_pos (by omega)]; done) | (rw [if_neg (by omega)]; done))
    · have hb : (-1000000000000000000 ≤ (0 : Int) * 1 ∧ (0 : Int) * 1 ≤ 1000000000000000000) ∧ (-1000000000000000000 ≤ (0 : Int) * d ∧ (0 : Int) * d ≤ 1000000000000000000) := by omega
      have hx := c1
      rw [if_pos (by omega)]
      unfold actV
      refine Gives_in Tryz.func43 rfl Tryz.ntmps43 Tryz.results43 (by kernel_rfl) (by simp) rfl fun Q hQ => ?_
      (have FX := hx; repeat' (first | (refine sx ?_ ?_ <;> intro h <;> first | (exfalso; omega) | skip) | (refine na ?_; (first | refine nb (acheckaction_c a ha) ?_ | refine nb (acheck_c n d h1 h2) ?_ | refine nb (awhole_c _) ?_) <;> try first | omega | assumption) | refine ny ?_ | refine WA_block ?_ | (refine uC24_43_7 ?_; refine ⟨by kernel_rfl, ?_⟩) | (refine g_d ?_; (first | refine d_fnY (acheckaction_c a ha _) ?_ | refine d_fnY (acheck_c n d h1 h2 _) ?_ | refine d_fnY (awhole_c _ _) ?_) <;> try first | omega | assumption)))
      all_goals (try (exfalso; omega))
      all_goals ((refine r_es hQ ?_; try with_reducible rfl))
  · have hx := c1
    rw [if_pos (by omega)]
    unfold actV
    refine Gives_in Tryz.func43 rfl Tryz.ntmps43 Tryz.results43 (by kernel_rfl) (by simp) rfl fun Q hQ => ?_
    (have FX := hx; repeat' (first | (refine sx ?_ ?_ <;> intro h <;> first | (exfalso; omega) | skip) | (refine na ?_; (first | refine nb (acheckaction_c a ha) ?_ | refine nb (acheck_c n d h1 h2) ?_ | refine nb (awhole_c _) ?_) <;> try first | omega | assumption) | refine ny ?_ | refine WA_block ?_ | (refine uC24_43_7 ?_; refine ⟨by kernel_rfl, ?_⟩) | (refine g_d ?_; (first | refine d_fnY (acheckaction_c a ha _) ?_ | refine d_fnY (acheck_c n d h1 h2 _) ?_ | refine d_fnY (awhole_c _ _) ?_) <;> try first | omega | assumption)))
    all_goals (try (exfalso; omega))
    all_goals ((refine r_es hQ ?_; try with_reducible rfl))
end Go.Proofs.YtihbeoplchiikaaGreatDoor
/- contracts: the curve of a part at a dip; positions and ratios -/
namespace Go.Proofs.YtihbeoplchiikaaGreatDoor
open Go.RowKit
attribute [local irreducible] WA WOs WDs WAn qThen qBlock tput
set_option maxHeartbeats 1000000
set_option maxRecDepth 20000
set_option linter.unusedSimpArgs false
set_option linter.unusedVariables false
attribute [local irreducible] smB cut sm
theorem dip_q {a : ActR} {n d : Int} (h : dipErr a n d = 0) : frErr n d = 0 ∧ (toQ (n, d)).num = n ∧ ((toQ (n, d)).den : Int) = d ∧ sm (toQ (n, d)) ∧ 0 ≤ n ∧ n ≤ a.dip * d := by
  unfold dipErr at h
  split at h
  · contradiction
  · rename_i h0
    have h0 : frErr n d = 0 := by omega
    obtain ⟨h1, h2⟩ := frErr_q h0
    unfold rawQ at h1
    injection h1 with h3 h4
    split at h
    · simp at h
    · exact ⟨h0, h3, h4, h2, by omega, by omega⟩
end Go.Proofs.YtihbeoplchiikaaGreatDoor
/- contracts: where a curve reaches a level, in the reference -/
namespace Go.Proofs.YtihbeoplchiikaaGreatDoor
open Go.RowKit
attribute [local irreducible] WA WOs WDs WAn qThen qBlock tput
set_option maxHeartbeats 1000000
set_option maxRecDepth 20000
set_option linter.unusedSimpArgs false
set_option linter.unusedVariables false
attribute [local irreducible] smB cut sm

theorem ralong_ok {u v u2 v2 y : Rat} (a1 : sm u) (a2 : sm v) (b1 : sm u2) (b2 : sm v2) (hlt : u < u2) (hs : slOk (u, v) (u2, v2)) (h0 : sl (u, v) (u2, v2) ≠ 0) (hy : sm y) (ho : alOk (u, v) (u2, v2) y) (m : Mem) : Gives Tryz.prog 121 [.agg (ptV (u, v)), .agg (ptV (u2, v2)), .agg [.int .i64 (Rat.num (y)), .int .i64 ((Rat.den (y) : Nat) : Int)]] m (.tup [.agg [.int .i64 (Rat.num (alE (u, v) (u2, v2) y)), .int .i64 ((Rat.den (alE (u, v) (u2, v2) y) : Nat) : Int)], .bool true]) := by
  have hss := hs.2.2
  have hrs := fun m => rslope_ok (a := (u, v)) (b := (u2, v2)) a1 a2 b1 b2 hlt hs m
  unfold alOk at ho
  unfold alE
  generalize sl (u, v) (u2, v2) = S at *
  obtain ⟨ho1, ho2, ho3⟩ := ho
  dsimp only at ho1 ho2 ho3 ⊢
  unfold ptV at hrs ⊢
  dsimp only at hrs ⊢
  have hcz := And.intro (smB_of ho1) (smB_of ho2)
  have hq := smB_of ho3
  rw [← hq]
  refine Gives_in Tryz.func121 rfl Tryz.ntmps121 Tryz.results121 (by kernel_rfl) (by simp) rfl fun Q hQ => ?_
  (have FX := hcz; repeat' (first | (refine sx ?_ ?_ <;> intro h <;> first | (exfalso; omega) | skip) | (refine na ?_; (first | refine nb hrs ?_ | refine nb (rsub_c y v hy a2) ?_ | refine nb (rdiv_c _ _ ho1 hss h0) ?_ | refine nb (radd_c _ _ a1 ho2) ?_) <;> try first | omega | assumption) | refine ny ?_ | refine WA_block ?_))
  all_goals (try (exfalso; omega))
  all_goals (refine r_es hQ ?_; try with_reducible rfl)
theorem ralong_bad {u v u2 v2 y : Rat} (a1 : sm u) (a2 : sm v) (b1 : sm u2) (b2 : sm v2) (hlt : u < u2) (hs : slOk (u, v) (u2, v2)) (h0 : sl (u, v) (u2, v2) ≠ 0) (hy : sm y) (ho : ¬ alOk (u, v) (u2, v2) y) : ∃ a b : Int, ∀ m : Mem, Gives Tryz.prog 121 [.agg (ptV (u, v)), .agg (ptV (u2, v2)), .agg [.int .i64 (Rat.num (y)), .int .i64 ((Rat.den (y) : Nat) : Int)]] m (.tup [.agg [.int .i64 a, .int .i64 b], .bool false]) := by
  have hss := hs.2.2
  have hrs := fun m => rslope_ok (a := (u, v)) (b := (u2, v2)) a1 a2 b1 b2 hlt hs m
  unfold alOk at ho
  generalize sl (u, v) (u2, v2) = S at *
  dsimp only at ho ⊢
  unfold ptV at hrs ⊢
  dsimp only at hrs ⊢
  by_cases h1 : sm (y - v)
  · by_cases h2 : sm ((y - v) / S)
    · have h3 : ¬ sm (u + (y - v) / S) := fun h => ho ⟨h1, h2, h⟩
      have hcz := And.intro (smB_of h1) (smB_of h2)
      have hq := smB_no h3
      refine ⟨(u + (y - v) / S).num, ((u + (y - v) / S).den : Int), fun m => ?_⟩
      rw [← hq]
      refine Gives_in Tryz.func121 rfl Tryz.ntmps121 Tryz.results121 (by kernel_rfl) (by simp) rfl fun Q hQ => ?_
      (have FX := hcz; repeat' (first | (refine sx ?_ ?_ <;> intro h <;> first | (exfalso; omega) | skip) | (refine na ?_; (first | refine nb hrs ?_ | refine nb (rsub_c y v hy a2) ?_ | refine nb (rdiv_c _ _ h1 hss h0) ?_ | refine nb (radd_c _ _ a1 h2) ?_) <;> try first | omega | assumption) | refine ny ?_ | refine WA_block ?_))
      all_goals (try (exfalso; omega))
      all_goals (refine r_es hQ ?_; try with_reducible rfl)
    · have hcz := And.intro (smB_of h1) (smB_no h2)
      refine ⟨0, 0, fun m => ?_⟩
      refine Gives_in Tryz.func121 rfl Tryz.ntmps121 Tryz.results121 (by kernel_rfl) (by simp) rfl fun Q hQ => ?_
      (have FX := hcz; repeat' (first | (refine sx ?_ ?_ <;> intro h <;> first | (exfalso; omega) | skip) | (refine na ?_; (first | refine nb hrs ?_ | refine nb (rsub_c y v hy a2) ?_ | refine nb (rdiv_c _ _ h1 hss h0) ?_) <;> try first | omega | assumption) | refine ny ?_ | refine WA_block ?_))
      all_goals (try (exfalso; omega))
      all_goals (refine r_es hQ ?_; try with_reducible rfl)
  · have hcz := smB_no h1
    refine ⟨0, 0, fun m => ?_⟩
    refine Gives_in Tryz.func121 rfl Tryz.ntmps121 Tryz.results121 (by kernel_rfl) (by simp) rfl fun Q hQ => ?_
    (have FX := hcz; repeat' (first | (refine sx ?_ ?_ <;> intro h <;> first | (exfalso; omega) | skip) | (refine na ?_; (first | refine nb hrs ?_ | refine nb (rsub_c y v hy a2) ?_) <;> try first | omega | assumption) | refine ny ?_ | refine WA_block ?_))
    all_goals (try (exfalso; omega))
    all_goals (refine r_es hQ ?_; try with_reducible rfl)
end Go.Proofs.YtihbeoplchiikaaGreatDoor
