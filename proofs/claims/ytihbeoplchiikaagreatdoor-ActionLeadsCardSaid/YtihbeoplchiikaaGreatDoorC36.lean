/- contracts: values, slopes and curves of curves, from above -/
import Derived.Test.YtihbeoplchiikaaGreatDoorC22
import Derived.Test.YtihbeoplchiikaaGreatDoorC14
set_option linter.unusedSimpArgs false
set_option linter.unusedVariables false
namespace Go.Proofs.YtihbeoplchiikaaGreatDoor
open Go.RowKit
attribute [local irreducible] WA WOs WDs WAn qThen qBlock tput
set_option maxHeartbeats 1000000
set_option maxRecDepth 20000
set_option linter.unusedSimpArgs false
set_option linter.unusedVariables false
attribute [local irreducible] smB cut sm
def atE (l : List Rk) (n d : Int) : Int := if cuErr l ≠ 0 then cuErr l else frErr n d
theorem atE_ok {l : List Rk} {n d : Int} (h : atE l n d = 0) : Valid (l.map toP) ∧ rksV l = ptsV (l.map toP) ∧ frErr n d = 0 ∧ (toQ (n, d)).num = n ∧ ((toQ (n, d)).den : Int) = d ∧ sm (toQ (n, d)) := by
  unfold atE at h
  split at h
  · contradiction
  · rename_i h0
    have h0 : cuErr l = 0 := by omega
    obtain ⟨h1, h2⟩ := cuErr_ok h0
    obtain ⟨h3, h4⟩ := frErr_q h
    unfold rawQ at h3
    injection h3 with h5 h6
    exact ⟨h1, by rw [ptsV_raw, h2], h, h5, h6, h4⟩

theorem acheckat_c (l : List Rk) (hB : RkB l) (n d : Int) (b1 : B64 n) (b2 : B64 d) (m : Mem) : Gives Tryz.prog 39 [.agg [.lst (rksV l)], .agg [.int .i64 n, .int .i64 d]] m (.int .i64 (atE l n d)) := by
  unfold atE
  by_cases h : cuErr l = 0
  · rw [if_neg (by omega)]
    have hx := h
    refine Gives_in Tryz.func39 rfl Tryz.ntmps39 Tryz.results39 (by kernel_rfl) (by simp) rfl fun Q hQ => ?_
    (have FX := hx; repeat' (first | (refine sx ?_ ?_ <;> intro h <;> first | (exfalso; omega) | skip) | (refine na ?_; (first | refine nb (acheckcurve_c l hB) ?_ | refine nb (acheck_c n d b1 b2) ?_) <;> try first | omega | assumption) | refine ny ?_ | refine WA_block ?_))
    all_goals (try (exfalso; omega))
    all_goals ((refine r_es hQ ?_; try with_reducible rfl))
  · rw [if_pos h]
    have hx := h
    refine Gives_in Tryz.func39 rfl Tryz.ntmps39 Tryz.results39 (by kernel_rfl) (by simp) rfl fun Q hQ => ?_
    (have FX := hx; repeat' (first | (refine sx ?_ ?_ <;> intro h <;> first | (exfalso; omega) | skip) | (refine na ?_; (first | refine nb (acheckcurve_c l hB) ?_ | refine nb (acheck_c n d b1 b2) ?_) <;> try first | omega | assumption) | refine ny ?_ | refine WA_block ?_))
    all_goals (try (exfalso; omega))
    all_goals ((refine r_es hQ ?_; try with_reducible rfl))
/-- the value of a curve, or the error -/
def valR (l : List Rk) (n d : Int) : Option Rat × Int := if atE l n d ≠ 0 then (none, atE l n d) else if valOk (l.map toP) (toQ (n, d)) then (some (valE (l.map toP) (toQ (n, d))), 0) else (none, 8)
theorem avalue_c (l : List Rk) (hB : RkB l) (n d : Int) (b1 : B64 n) (b2 : B64 d) (m : Mem) : Gives Tryz.prog 11 [.agg [.lst (rksV l)], .agg [.int .i64 n, .int .i64 d]] m (rchV (valR l n d)) := by
  have hca := fun m => acheckat_c l hB n d b1 b2 m
  unfold valR
  by_cases h0 : atE l n d = 0
  · obtain ⟨hv, hks, g1, g2, g3, g4⟩ := atE_ok h0
    rw [if_neg (by omega)]
    have hx := h0
    rw [hks] at hca ⊢
    rw [h0] at hca
    generalize l.map toP = c at *
    generalize toQ (n, d) = q at *
    subst g2; subst g3
    have hval := fun k => value_w k c q false hv g4
    by_cases ho : valOk c q
    · obtain ⟨e1, e2⟩ := vP_ok hv ho false
      rw [e1, e2] at hval
      have htd := fun m => atold_c (valE c q) false m
      rw [if_neg (by decide)] at htd
      rw [if_pos ho]
      simp only [rchV, frO]
      refine Gives_in Tryz.func11 rfl Tryz.ntmps11 Tryz.results11 (by kernel_rfl) (by simp) rfl fun Q hQ => ?_
      (have FX := hx; repeat' (first | (refine sx ?_ ?_ <;> intro h <;> first | (exfalso; omega) | skip) | (refine na ?_; (first | refine nb hca ?_ | refine nb htd ?_ | refine s_fnW (hval _) ?_) <;> try first | omega | assumption) | refine ny ?_ | refine WA_block ?_))
      all_goals (try (exfalso; omega))
      all_goals ((refine r_es hQ ?_; try with_reducible rfl))
    · have e2 := vG_bad hv ho false
      rw [e2] at hval
      have htd := fun m => atold_c (vP c q) true m
      rw [if_pos rfl] at htd
      rw [if_neg ho]
      simp only [rchV, frO]
      refine Gives_in Tryz.func11 rfl Tryz.ntmps11 Tryz.results11 (by kernel_rfl) (by simp) rfl fun Q hQ => ?_
      (have FX := hx; repeat' (first | (refine sx ?_ ?_ <;> intro h <;> first | (exfalso; omega) | skip) | (refine na ?_; (first | refine nb hca ?_ | refine nb htd ?_ | refine s_fnW (hval _) ?_) <;> try first | omega | assumption) | refine ny ?_ | refine WA_block ?_))
      all_goals (try (exfalso; omega))
      all_goals ((refine r_es hQ ?_; try with_reducible rfl))
  · rw [if_pos h0]
    have hx := h0
    simp only [rchV, frO]
    refine Gives_in Tryz.func11 rfl Tryz.ntmps11 Tryz.results11 (by kernel_rfl) (by simp) rfl fun Q hQ => ?_
    (have FX := hx; repeat' (first | (refine sx ?_ ?_ <;> intro h <;> first | (exfalso; omega) | skip) | (refine na ?_; (first | refine nb hca ?_) <;> try first | omega | assumption) | refine ny ?_ | refine WA_block ?_))
    all_goals (try (exfalso; omega))
    all_goals ((refine r_es hQ ?_; try with_reducible rfl))
end Go.Proofs.YtihbeoplchiikaaGreatDoor
