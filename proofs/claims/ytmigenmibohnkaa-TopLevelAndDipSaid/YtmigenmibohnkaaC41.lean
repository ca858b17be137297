/- contracts: where a curve reaches a level, from above -/
import Derived.Test.YtmigenmibohnkaaC39
set_option linter.unusedSimpArgs false
set_option linter.unusedVariables false
namespace Go.Proofs.Ytmigenmibohnkaa
open Go.RowKit
attribute [local irreducible] WA WOs WDs WAn qThen qBlock tput
set_option maxHeartbeats 1000000
set_option maxRecDepth 20000
set_option linter.unusedSimpArgs false
set_option linter.unusedVariables false
attribute [local irreducible] smB cut sm
def rcR (l : List Rk) (n d : Int) (f : Bool) : Option Rat × Int := if atE l n d ≠ 0 then (none, atE l n d) else rch (l.map toP) (toQ (n, d)) f

theorem areachx_c (l : List Rk) (hB : RkB l) (n d : Int) (b1 : B64 n) (b2 : B64 d) (f : Bool) (m : Mem) : Gives Try.prog 23 [.agg [.lst (rksV l)], .agg [.int .i64 n, .int .i64 d], .bool f] m (rchV (rcR l n d f)) := by
  have hca := fun m => acheckat_c l hB n d b1 b2 m
  unfold rcR
  by_cases h0 : atE l n d = 0
  · obtain ⟨hv, hks, g1, g2, g3, g4⟩ := atE_ok h0
    rw [if_neg (by omega)]
    have hx := h0
    rw [hks] at hca ⊢
    rw [h0] at hca
    generalize l.map toP = c at *
    generalize toQ (n, d) = q at *
    subst g2; subst g3
    have hre := fun m => areach_c c q f hv g4 m
    rcases rch_code c q f with ⟨x, hq⟩ | hq | hq
    all_goals
      rw [hq] at hre ⊢
      simp only [rchV, frO] at hre ⊢
      refine Gives_in Try.func23 rfl Try.ntmps23 Try.results23 (by kernel_rfl) (by simp) rfl fun Q hQ => ?_
      (have FX := hx; repeat' (first | (refine sx ?_ ?_ <;> intro h <;> first | (exfalso; omega) | skip) | (refine g_op ?_; refine g_call ?_; refine g_args ?_; (first | refine s_fn (hca _) ?_ | refine s_fn (hre _) ?_) <;> try first | omega | assumption) | refine ny ?_ | refine WA_block ?_))
      all_goals (try (exfalso; omega))
      all_goals ((refine r_es hQ ?_; try with_reducible rfl))
  · rw [if_pos h0]
    have hx := h0
    simp only [rchV, frO]
    refine Gives_in Try.func23 rfl Try.ntmps23 Try.results23 (by kernel_rfl) (by simp) rfl fun Q hQ => ?_
    (have FX := hx; repeat' (first | (refine sx ?_ ?_ <;> intro h <;> first | (exfalso; omega) | skip) | (refine g_op ?_; refine g_call ?_; refine g_args ?_; (first | refine s_fn (hca _) ?_) <;> try first | omega | assumption) | refine ny ?_ | refine WA_block ?_))
    all_goals (try (exfalso; omega))
    all_goals ((refine r_es hQ ?_; try with_reducible rfl))
theorem rcR_cases {l : List Rk} {n d : Int} (f : Bool) : (∃ x, rcR l n d f = (some x, 0) ∧ atE l n d = 0 ∧ rch (l.map toP) (toQ (n, d)) f = (some x, 0) ∧ sm x) ∨ ∃ e, e ≠ 0 ∧ rcR l n d f = (none, e) := by
  unfold rcR
  by_cases h : atE l n d = 0
  · rw [if_neg (by omega)]
    obtain ⟨hv, _⟩ := atE_ok h
    rcases rch_code (l.map toP) (toQ (n, d)) f with ⟨x, hx⟩ | hx | hx
    · exact .inl ⟨x, hx, h, hx, (sm_rch hv hx).1⟩
    · exact .inr ⟨8, by decide, hx⟩
    · exact .inr ⟨12, by decide, hx⟩
  · rw [if_pos h]; exact .inr ⟨_, h, rfl⟩
theorem frErr_sm {q : Rat} (h : sm q) : frErr q.num (q.den : Int) = 0 := by rw [frErr_raw, if_pos h]
theorem toQ_raw (q : Rat) : toQ (q.num, (q.den : Int)) = q := fit_of q
theorem atE_at {l : List Rk} {n d : Int} (h : atE l n d = 0) : cuErr l = 0 := by
  unfold atE at h
  split at h
  · contradiction
  · omega
theorem atE_q {l : List Rk} (h : cuErr l = 0) {q : Rat} (hq : sm q) : atE l q.num (q.den : Int) = 0 := by
  unfold atE
  rw [if_neg (by omega), frErr_sm hq]
theorem valR_q {l : List Rk} (h : cuErr l = 0) {q : Rat} (hq : sm q) : valR l q.num (q.den : Int) = if valOk (l.map toP) q then (some (valE (l.map toP) q), 0) else (none, 8) := by
  unfold valR
  rw [if_neg (by rw [atE_q h hq]; decide), toQ_raw]
theorem toQ_more {n d : Int} (h : frErr n d = 0) : toQ (n + d, d) = toQ (n, d) + 1 := by
  obtain ⟨h1, _⟩ := frErr_ok h
  have e : Rat.divInt (n + d) d = Rat.divInt n d + 1 := by
    have h2 : (1 : Rat) = Rat.divInt d d := (Rat.divInt_self' (by omega)).symm
    rw [h2, Rat.divInt_add_divInt _ _ (by omega) (by omega)]
    have h3 : (n + d) * d = n * d + d * d := by rw [Int.add_mul]
    rw [← h3, Rat.divInt_mul_right (by omega)]
  exact e
end Go.Proofs.Ytmigenmibohnkaa
