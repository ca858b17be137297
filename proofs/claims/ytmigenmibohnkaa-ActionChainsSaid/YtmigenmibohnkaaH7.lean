/- the law ActionChains, over contracts -/
import Derived.Test.YtmigenmibohnkaaC42
import Derived.Test.YtmigenmibohnkaaC41
import Derived.Test.YtmigenmibohnkaaYF
set_option linter.unusedSimpArgs false
set_option linter.unusedVariables false
namespace Go.Proofs.Ytmigenmibohnkaa
open Go.RowKit
attribute [local irreducible] WA WOs WDs WAn qThen qBlock tput
set_option maxHeartbeats 1000000
set_option maxRecDepth 20000
set_option linter.unusedSimpArgs false
set_option linter.unusedVariables false
attribute [local irreducible] smB cut sm compP

theorem chains_out (o i : List Rk) (n d : Int) (hout : ¬ (few o 12 ∧ few i 12 ∧ sane n d)) (m : Mem) : Gives Try.prog 6 [.agg [.lst (rksV o)], .agg [.lst (rksV i)], .agg [.int .i64 n, .int .i64 d]] m (.bool true) := by
  refine Gives_in Try.func6 rfl Try.ntmps6 Try.results6 (by kernel_rfl) (by simp) rfl fun Q hQ => ?_
  (repeat' (first | (refine sx ?_ ?_ <;> intro h <;> first | (exfalso; omega) | skip) | (refine g_op ?_; refine g_call ?_; refine g_args ?_; (first | refine s_fn (lawake_c _) ?_ | refine s_fn (lfew_c _ _ _) ?_ | refine s_fn (lsane_d _ _ _) ?_) <;> try first | omega | assumption) | refine ny ?_ | refine WA_block ?_))
  all_goals (try (exfalso; first | exact hout ⟨by assumption, by assumption, by assumption⟩ | omega))
  all_goals (refine r_es hQ ?_; try with_reducible rfl)
theorem chains_in (o i : List Rk) (n d : Int) (hf1 : few o 12) (hf2 : few i 12) (hs : sane n d) (m : Mem) : Gives Try.prog 6 [.agg [.lst (rksV o)], .agg [.lst (rksV i)], .agg [.int .i64 n, .int .i64 d]] m (.bool true) := by
  obtain ⟨hB1, _⟩ := few_b hf1
  obtain ⟨hB2, _⟩ := few_b hf2
  obtain ⟨b1, b2⟩ := sane_b hs
  have hfo := fun m => lfew_c o 12 m
  rw [decide_eq_true hf1] at hfo
  have hfi := fun m => lfew_c i 12 m
  rw [decide_eq_true hf2] at hfi
  have hsn := fun m => lsane_d n d m
  rw [decide_eq_true hs] at hsn
  have hcp := fun m => acomposex_c o i hB1 hB2 m
  have hva := hfo
  have hvz := hfo
  have hvw := hfo
  unfold cpV at hcp
  by_cases h1 : cuErr o = 0
  · by_cases h2 : cuErr i = 0
    · rw [if_neg (by omega), if_neg (by omega)] at hcp
      obtain ⟨v1, e1⟩ := cuErr_ok h1
      obtain ⟨v2, e2⟩ := cuErr_ok h2
      have k1 : rksV o = ptsV (o.map toP) := by rw [ptsV_raw, e1]
      have k2 : rksV i = ptsV (i.map toP) := by rw [ptsV_raw, e2]
      cases hr : compP (o.map toP) (i.map toP) with
      | none =>
        rw [hr] at hcp
        simp only [crv] at hcp
        have hx := h1
        refine Gives_in Try.func6 rfl Try.ntmps6 Try.results6 (by kernel_rfl) (by simp) rfl fun Q hQ => ?_
        (have FX := hx; repeat' (first | (refine sx ?_ ?_ <;> intro h <;> first | (exfalso; omega) | skip) | (refine g_op ?_; refine g_call ?_; refine g_args ?_; (first | refine s_fn (lawake_c _) ?_ | refine s_fn (hfo _) ?_ | refine s_fn (hfi _) ?_ | refine s_fn (hsn _) ?_ | refine s_fn (hcp _) ?_ | refine s_fn (hva _) ?_ | refine s_fn (hvz _) ?_ | refine s_fn (hvw _) ?_) <;> try first | omega | assumption) | refine ny ?_ | refine WA_block ?_))
        all_goals (try (exfalso; omega))
        all_goals (refine r_es hQ ?_; try with_reducible rfl)
      | some c =>
        rw [hr] at hcp
        simp only [crv] at hcp
        have vc := compP_valid v1 v2 hr
        have hcv := comp_val v1 v2 hr
        have hva := fun m => avalue_c i hB2 n d b1 b2 m
        rcases valR_cases i n d with ⟨y, e3, sy, h4, e4⟩ | ⟨e, he, e3⟩
        · have hvz := fun m => avalue_c o hB1 _ _ (B64_num sy) (B64_den sy) m
          have hvw := fun m => avalue_c (c.map raw) (valid_b vc) n d b1 b2 m
          rw [← ptsV_raw] at hvw
          have hzw : (∃ z, valR o y.num (y.den : Int) = (some z, 0) ∧ ((∃ e, e ≠ 0 ∧ valR (c.map raw) n d = (none, e)) ∨ valR (c.map raw) n d = (some z, 0))) ∨ ((∃ e, e ≠ 0 ∧ valR o y.num (y.den : Int) = (none, e)) ∧ ((∃ z, valR (c.map raw) n d = (some z, 0)) ∨ ∃ e, e ≠ 0 ∧ valR (c.map raw) n d = (none, e))) := by
            rcases valR_cases o y.num (y.den : Int) with ⟨z, k3, _, _, k4⟩ | k3
            · rcases valR_cases (c.map raw) n d with ⟨w, k5, _, _, k6⟩ | k5
              · refine .inl ⟨z, k3, .inr ?_⟩
                rw [k5]
                rw [toQ_raw] at k4
                rw [map_toP_raw, hcv, ← e4] at k6
                rw [k4, k6]
              · exact .inl ⟨z, k3, .inl k5⟩
            · rcases valR_cases (c.map raw) n d with ⟨w, k5, _, _, k6⟩ | k5
              · exact .inr ⟨k3, .inl ⟨w, k5⟩⟩
              · exact .inr ⟨k3, .inr k5⟩
          rw [e3] at hva
          rcases hzw with ⟨z, e5, ⟨e, he, e6⟩ | e6⟩ | ⟨⟨e', he', e5⟩, ⟨z, e6⟩ | ⟨e, he, e6⟩⟩
          all_goals
            rw [e5] at hvz
            rw [e6] at hvw
            have hx := h1
            simp only [rchV, frO] at hva hvz hvw
            refine Gives_in Try.func6 rfl Try.ntmps6 Try.results6 (by kernel_rfl) (by simp) rfl fun Q hQ => ?_
            (have FX := hx; repeat' (first | (refine sx ?_ ?_ <;> intro h <;> first | (exfalso; omega) | skip) | (refine g_op ?_; refine g_call ?_; refine g_args ?_; (first | refine s_fn (lawake_c _) ?_ | refine s_fn (hfo _) ?_ | refine s_fn (hfi _) ?_ | refine s_fn (hsn _) ?_ | refine s_fn (hcp _) ?_ | refine s_fn (hva _) ?_ | refine s_fn (hvz _) ?_ | refine s_fn (hvw _) ?_) <;> try first | omega | assumption) | refine ny ?_ | refine WA_block ?_))
            all_goals (try (exfalso; omega))
            all_goals (refine r_es hQ ?_; try with_reducible rfl)
        · rw [e3] at hva
          simp only [rchV, frO] at hva
          have hx := he
          refine Gives_in Try.func6 rfl Try.ntmps6 Try.results6 (by kernel_rfl) (by simp) rfl fun Q hQ => ?_
          (have FX := hx; repeat' (first | (refine sx ?_ ?_ <;> intro h <;> first | (exfalso; omega) | skip) | (refine g_op ?_; refine g_call ?_; refine g_args ?_; (first | refine s_fn (lawake_c _) ?_ | refine s_fn (hfo _) ?_ | refine s_fn (hfi _) ?_ | refine s_fn (hsn _) ?_ | refine s_fn (hcp _) ?_ | refine s_fn (hva _) ?_ | refine s_fn (hvz _) ?_ | refine s_fn (hvw _) ?_) <;> try first | omega | assumption) | refine ny ?_ | refine WA_block ?_))
          all_goals (try (exfalso; omega))
          all_goals (refine r_es hQ ?_; try with_reducible rfl)
    · rw [if_neg (by omega), if_pos h2] at hcp
      have hx := h2
      refine Gives_in Try.func6 rfl Try.ntmps6 Try.results6 (by kernel_rfl) (by simp) rfl fun Q hQ => ?_
      (have FX := hx; repeat' (first | (refine sx ?_ ?_ <;> intro h <;> first | (exfalso; omega) | skip) | (refine g_op ?_; refine g_call ?_; refine g_args ?_; (first | refine s_fn (lawake_c _) ?_ | refine s_fn (hfo _) ?_ | refine s_fn (hfi _) ?_ | refine s_fn (hsn _) ?_ | refine s_fn (hcp _) ?_ | refine s_fn (hva _) ?_ | refine s_fn (hvz _) ?_ | refine s_fn (hvw _) ?_) <;> try first | omega | assumption) | refine ny ?_ | refine WA_block ?_))
      all_goals (try (exfalso; omega))
      all_goals (refine r_es hQ ?_; try with_reducible rfl)
  · rw [if_pos h1] at hcp
    have hx := h1
    refine Gives_in Try.func6 rfl Try.ntmps6 Try.results6 (by kernel_rfl) (by simp) rfl fun Q hQ => ?_
    (have FX := hx; repeat' (first | (refine sx ?_ ?_ <;> intro h <;> first | (exfalso; omega) | skip) | (refine g_op ?_; refine g_call ?_; refine g_args ?_; (first | refine s_fn (lawake_c _) ?_ | refine s_fn (hfo _) ?_ | refine s_fn (hfi _) ?_ | refine s_fn (hsn _) ?_ | refine s_fn (hcp _) ?_ | refine s_fn (hva _) ?_ | refine s_fn (hvz _) ?_ | refine s_fn (hvw _) ?_) <;> try first | omega | assumption) | refine ny ?_ | refine WA_block ?_))
    all_goals (try (exfalso; omega))
    all_goals (refine r_es hQ ?_; try with_reducible rfl)
theorem chains_law (o i : List Rk) (n d : Int) (m : Mem) : Gives Try.prog 6 [.agg [.lst (rksV o)], .agg [.lst (rksV i)], .agg [.int .i64 n, .int .i64 d]] m (.bool true) := by
  by_cases h : few o 12 ∧ few i 12 ∧ sane n d
  · exact chains_in o i n d h.1 h.2.1 h.2.2 m
  · exact chains_out o i n d h m
end Go.Proofs.Ytmigenmibohnkaa
