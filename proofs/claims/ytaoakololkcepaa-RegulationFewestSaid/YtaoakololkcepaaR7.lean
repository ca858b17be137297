/- the law RegulationFewest, over contracts -/
import Derived.Test.YtaoakololkcepaaB33
import Derived.Test.YtaoakololkcepaaB41
import Derived.Test.YtaoakololkcepaaB54
import Derived.Test.YtaoakololkcepaaB53
import Derived.Test.YtaoakololkcepaaB49
set_option linter.unusedSimpArgs false
set_option linter.unusedVariables false
namespace Go.Proofs.Ytaoakololkcepaa
open Go.RowKit
attribute [local irreducible] WA WOs WDs WAn qThen qBlock tput
set_option maxHeartbeats 1000000
set_option maxRecDepth 20000
set_option linter.unusedSimpArgs false
set_option linter.unusedVariables false
set_option maxHeartbeats 4000000

theorem fewest_out (b : BnR) (hout : ¬ narrow b) (m : Mem) : Gives Try.prog 11 [.agg (bnV b)] m (.bool true) := by
  have hx0 := mssV_length (l := b.ms)
  unfold bnV
  refine Gives_in Try.func11 rfl Try.ntmps11 Try.results11 (by kernel_rfl) (by simp) rfl fun Q hQ => ?_
  (have FX := hx0; repeat' (first | (refine sx ?_ ?_ <;> intro h <;> first | (exfalso; omega) | skip) | (refine g_op ?_; refine g_call ?_; refine g_args ?_; (first | refine s_fn (lawake_c _) ?_ | refine s_fn (lnarrow_c _ _) ?_) <;> try first | omega | assumption) | refine ny ?_ | refine WA_block ?_))
  all_goals (try (exfalso; first | exact hout (by assumption) | omega))
  all_goals (refine r_es hQ ?_; try with_reducible rfl)
theorem tr_big {b : BnR} (hb : Bnd b) : 100000 < trS b.ads b.ads.length ↔ 100000 < trK b.ads b.ads.length := by
  have hw : ∀ i, i < b.ads.length → (b.ads.getD i adz).least ≤ (b.ads.getD i adz).most := fun i hi => by have := hb.le i hi; have := hb.mo i hi; omega
  have h : ∀ k, k ≤ b.ads.length → (trS b.ads k = trK b.ads k) ∨ (100000 < trS b.ads k ∧ 100000 < trK b.ads k) := by
    intro k
    induction k with
    | zero => intro _; exact .inl rfl
    | succ k ih =>
      intro hk
      have hm := trK_mono hw (k := k) 1 hk
      rcases ih (by omega) with h1 | ⟨h1, h2⟩
      · by_cases h3 : trS b.ads k ≤ 100000
        · left
          simp only [trS, trK]
          rw [if_pos h3, h1]
        · right
          have e : trS b.ads (k + 1) = trS b.ads k := by simp only [trS]; rw [if_neg h3]
          rw [e]
          omega
      · right
        have e : trS b.ads (k + 1) = trS b.ads k := by simp only [trS]; rw [if_neg (by omega)]
        rw [e]
        omega
  rcases h b.ads.length (Nat.le_refl _) with h1 | ⟨h1, h2⟩
  · rw [h1]
  · exact ⟨fun _ => h2, fun _ => h1⟩
theorem fewest_bad (b : BnR) (hN : narrow b) (h0 : bnErr b ≠ 0 ∨ 100000 < trK b.ads b.ads.length) (m : Mem) : Gives Try.prog 11 [.agg (bnV b)] m (.bool true) := by
  have hb := light_bl hN.1
  have hlo : (nsV ([] : List Int)).length = 0 := rfl
  have hna := fun m => lnarrow_c b m
  rw [decide_eq_true hN] at hna
  have hcp := fun m => rcopy_c b hb m
  have hcb := fun m => rcheckbench_c b hb m
  obtain ⟨c, hc, hgf, n, hn, htr⟩ : ∃ c : Int, (bnErr b ≠ 0 → c = bnErr b) ∧ (∀ m, Gives Try.prog 59 [.agg (bnV b)] m (.tup [.lst (nsV []), .int .i64 0, .int .i64 c])) ∧ ∃ n : Int, (bnErr b = 0 → 100000 < n ∧ c = 8) ∧ (bnErr b = 0 → ∀ m, Gives Try.prog 60 [.agg [.lst (mssV b.ms), .lst (adsV b.ads)]] m (.int .i64 n)) := by
    by_cases h : bnErr b = 0
    · have hbd := bnd_ok (bn_ok h)
      have ht : 100000 < trK b.ads b.ads.length := by omega
      refine ⟨8, fun h2 => absurd h h2, fun m => ?_, trS b.ads b.ads.length, fun _ => ⟨(tr_big hbd).2 ht, rfl⟩, fun _ m => rtries_c b hbd m⟩
      have h2 := gfewest_ok b hb h m
      unfold fwV at h2
      rw [if_pos ht] at h2
      exact Gives_weak h2 (wk_tup ⟨wk_nil, WkV.refl _, WkV.refl _, trivial⟩)
    · exact ⟨bnErr b, fun _ => rfl, fun m => Gives_weak (gfewest_bad b hb h m) (wk_tup ⟨wk_nil, WkV.refl _, WkV.refl _, trivial⟩), 0, fun h2 => absurd h2 h, fun h2 => absurd h2 h⟩
  unfold bnV at hgf ⊢
  generalize bnErr b = e at *
  refine Gives_in Try.func11 rfl Try.ntmps11 Try.results11 (by kernel_rfl) (by simp) rfl fun Q hQ => ?_
  (have FX := hlo; repeat' (first | (refine sx ?_ ?_ <;> intro h <;> first | (exfalso; omega) | skip) | (refine g_op ?_; refine g_call ?_; refine g_args ?_; (first | refine s_fn (lawake_c _) ?_ | refine s_fn (hna _) ?_ | refine s_fn (hcp _) ?_ | refine s_fn (hgf _) ?_ | refine s_fn (hcb _) ?_ | refine s_fn (htr (by omega) _) ?_) <;> try first | omega | assumption) | refine ny ?_ | refine WA_block ?_))
  all_goals (try (exfalso; omega))
  all_goals (refine r_es hQ ?_; try with_reducible rfl)
  all_goals (exact congrArg V.bool (by first | rfl | (rw [decide_eq_true (by assumption)]; rfl) | (rw [decide_eq_false (by assumption)]; rfl) | exact (decide_eq_true (by assumption)).symm | exact (decide_eq_false (by assumption)).symm | exact (decide_eq_true (by omega)).symm | exact (decide_eq_false (by omega)).symm))
theorem fewest_ok (b : BnR) (hN : narrow b) (h0 : bnErr b = 0) (ht : ¬ 100000 < trK b.ads b.ads.length) (m : Mem) : Gives Try.prog 11 [.agg (bnV b)] m (.bool true) := by
  have hb := light_bl hN.1
  have hk := bn_ok h0
  have hbd := bnd_ok hk
  have hna := fun m => lnarrow_c b m
  rw [decide_eq_true hN] at hna
  have hcp := fun m => rcopy_c b hb m
  have hcb := fun m => rcheckbench_c b hb m
  rw [h0] at hcb
  have htr := fun m => rtries_c b hbd m
  have hts := (not_congr (tr_big hbd)).2 ht
  have hgf := fun m => gfewest_ok b hb h0 m
  have hrf := fun m => rfewest_c b h0 m
  have hfo := fwB_ok (b := b) (fun i hi => by have := hbd.le i hi; have := hbd.mo i hi; omega)
  unfold fwV at hgf
  rw [if_neg ht] at hgf
  generalize trS b.ads b.ads.length = n at *
  generalize fwB b = s at *
  obtain ⟨f, l, p, q⟩ := s
  cases f with
  | false =>
    have hlo : (nsV ([] : List Int)).length = 0 := rfl
    have hbi := hlo
    have hpl := hlo
    have hck := hlo
    simp only [Bool.false_eq_true, if_false] at hgf
    have hgf := fun m => Gives_weak (v' := .tup [.lst (nsV []), .int .i64 0, .int .i64 12]) (hgf m) (wk_tup ⟨wk_nil, WkV.refl _, WkV.refl _, trivial⟩)
    dsimp only at hrf
    clear hfo
    unfold bnV at hgf ⊢
    refine Gives_in Try.func11 rfl Try.ntmps11 Try.results11 (by kernel_rfl) (by simp) rfl fun Q hQ => ?_
    (have FX := hlo; repeat' (first | (refine sx ?_ ?_ <;> intro h <;> first | (exfalso; omega) | skip) | (refine g_op ?_; refine g_call ?_; refine g_args ?_; (first | refine s_fn (lawake_c _) ?_ | refine s_fn (hna _) ?_ | refine s_fn (hcp _) ?_ | refine s_fn (hgf _) ?_ | refine s_fn (hcb _) ?_ | refine s_fn (htr _) ?_ | refine s_fn (hrf _) ?_ | refine s_fn (hbi _) ?_ | refine s_fn (hpl _) ?_ | refine s_fn (hck _) ?_) <;> try first | omega | assumption) | refine ny ?_ | refine WA_block ?_))
    all_goals (try (exfalso; omega))
    all_goals (refine r_es hQ ?_; try with_reducible rfl)
  | true =>
    have hlo := nsV_length (l := l)
    obtain ⟨g1, g2, g3, g4⟩ := hfo rfl
    dsimp only at g1 g2 g3 g4 hrf
    simp only [if_true] at hgf
    have hbi := fun m => bints_c l l (by have := g1.1; have := hbd.fa; omega) m
    simp only [decide_true] at hbi
    have he : bsErr b l = 0 := by unfold bsErr; rw [if_neg (by omega)]; exact stErr_iff.2 g1
    have hmk : mkE b l = if 50 < pasK b.ads l b.ads.length then 8 else 0 := by unfold mkE; rw [if_neg (by omega)]
    rw [← g3] at hmk
    by_cases h50 : 50 < p
    · rw [if_pos h50] at hmk
      have hpl := fun m => gPlanOf_bad b hb l (by omega) m
      rw [hmk] at hpl
      have hck := hlo
      unfold bnV at hgf hpl ⊢
      refine Gives_in Try.func11 rfl Try.ntmps11 Try.results11 (by kernel_rfl) (by simp) rfl fun Q hQ => ?_
      (have FX := hlo; repeat' (first | (refine sx ?_ ?_ <;> intro h <;> first | (exfalso; omega) | skip) | (refine g_op ?_; refine g_call ?_; refine g_args ?_; (first | refine s_fn (lawake_c _) ?_ | refine s_fn (hna _) ?_ | refine s_fn (hcp _) ?_ | refine s_fn (hgf _) ?_ | refine s_fn (hcb _) ?_ | refine s_fn (htr _) ?_ | refine s_fn (hrf _) ?_ | refine s_fn (hbi _) ?_ | refine s_fn (hpl _) ?_ | refine s_fn (hck _) ?_) <;> try first | omega | assumption) | refine ny ?_ | refine WA_block ?_))
      all_goals (try (exfalso; omega))
      all_goals (refine r_es hQ ?_; try with_reducible rfl)
      all_goals (exact congrArg V.bool (by first | rfl | (rw [decide_eq_true (by assumption)]; rfl) | (rw [decide_eq_false (by assumption)]; rfl) | exact (decide_eq_true (by assumption)).symm | exact (decide_eq_false (by assumption)).symm | exact (decide_eq_true (by omega)).symm | exact (decide_eq_false (by omega)).symm))
    · rw [if_neg h50] at hmk
      have hpl := fun m => gPlanOf_ok b hb l hmk m
      have hp0 := (pasK_bd (steps_bd hbd g1.2) hbd.pa b.ads.length (Nat.le_refl _)).1
      obtain ⟨e1, e2, e3⟩ := plO_ok hk g1 (n := (pasK b.ads l b.ads.length).toNat) (by omega) (by omega)
      generalize plO b l (pasK b.ads l b.ads.length).toNat = P at *
      have hck := fun m => gCheckPlan_ok b hb h0 P m
      have hce : cpE b P = 0 := by unfold cpE; rw [if_neg (by omega), e1, g2, if_neg (by simp)]
      rw [hce] at hck
      unfold bnV at hgf hpl hck ⊢
      generalize cpN b P = cn at *
      refine Gives_in Try.func11 rfl Try.ntmps11 Try.results11 (by kernel_rfl) (by simp) rfl fun Q hQ => ?_
      (have FX := hlo; repeat' (first | (refine sx ?_ ?_ <;> intro h <;> first | (exfalso; omega) | skip) | (refine g_op ?_; refine g_call ?_; refine g_args ?_; (first | refine s_fn (lawake_c _) ?_ | refine s_fn (hna _) ?_ | refine s_fn (hcp _) ?_ | refine s_fn (hgf _) ?_ | refine s_fn (hcb _) ?_ | refine s_fn (htr _) ?_ | refine s_fn (hrf _) ?_ | refine s_fn (hbi _) ?_ | refine s_fn (hpl _) ?_ | refine s_fn (hck _) ?_) <;> try first | omega | assumption) | refine ny ?_ | refine WA_block ?_))
      all_goals (try (exfalso; omega))
      all_goals (refine r_es hQ ?_; try with_reducible rfl)
theorem fewest_law (b : BnR) (m : Mem) : Gives Try.prog 11 [.agg (bnV b)] m (.bool true) := by
  by_cases h : narrow b
  · by_cases h0 : bnErr b ≠ 0 ∨ 100000 < trK b.ads b.ads.length
    · exact fewest_bad b h h0 m
    · exact fewest_ok b h (by omega) (by omega) m
  · exact fewest_out b h m
end Go.Proofs.Ytaoakololkcepaa
