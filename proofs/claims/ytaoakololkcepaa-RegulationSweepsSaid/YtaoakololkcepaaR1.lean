/- the law RegulationSweeps, over contracts -/
import Derived.Test.YtaoakololkcepaaB33
set_option linter.unusedSimpArgs false
set_option linter.unusedVariables false
namespace Go.Proofs.Ytaoakololkcepaa
open Go.RowKit
attribute [local irreducible] WA WOs WDs WAn qThen qBlock tput
set_option maxHeartbeats 1000000
set_option maxRecDepth 20000
set_option linter.unusedSimpArgs false
set_option linter.unusedVariables false
set_option maxHeartbeats 4000000

theorem sweeps_out (b : BnR) (l : List Int) (most : Int) (hout : ¬ (light b ∧ shal b ∧ ¬ 20 < (l.length : Int) ∧ ¬ (8 < most ∧ most ≤ 100))) (m : Mem) : Gives Try.prog 3 [.agg (bnV b), .lst (nsV l), .int .i64 most] m (.bool true) := by
  have hln := nsV_length (l := l)
  unfold bnV
  refine Gives_in Try.func3 rfl Try.ntmps3 Try.results3 (by kernel_rfl) (by simp) rfl fun Q hQ => ?_
  (have FX := hln; repeat' (first | (refine sx ?_ ?_ <;> intro h <;> first | (exfalso; omega) | skip) | (refine g_op ?_; refine g_call ?_; refine g_args ?_; (first | refine s_fn (lawake_c _) ?_ | refine s_fn (llight_c _ _) ?_ | refine s_fn (lshallow_c _ (light_bl (by assumption)).na _) ?_) <;> try first | omega | assumption) | refine ny ?_ | refine WA_block ?_))
  all_goals (try (exfalso; first | exact hout ⟨by assumption, by assumption, by assumption, by omega⟩ | omega))
  all_goals (refine r_es hQ ?_; try with_reducible rfl)
/-- what Sweep returns -/
def swL (b : BnR) (l : List Int) : List Int := if bsErr b l = 0 then sweepP b l else []
theorem gSweep_c (b : BnR) (hb : Bl b) (l : List Int) (m : Mem) : Gives Try.prog 18 [.agg (bnV b), .lst (nsV l)] m (.tup [.lst (nsV (swL b l)), .int .i64 (bsErr b l)]) := by
  unfold swL
  by_cases h : bsErr b l = 0
  · rw [if_pos h, h]
    exact gSweep_ok b hb l h m
  · rw [if_neg h]
    exact Gives_weak (gSweep_bad b hb l h m) (wk_tup ⟨wk_nil, WkV.refl _, trivial⟩)
/-- what Settle returns -/
def seL (b : BnR) (n : Int) : List (List Int) := if bnErr b ≠ 0 then [] else if ¬ (0 ≤ n ∧ n ≤ 100) then [] else match stI b n.toNat with
  | some k => stO b k
  | none => []
def seC (b : BnR) (n : Int) : Int := if bnErr b ≠ 0 then bnErr b else if ¬ (0 ≤ n ∧ n ≤ 100) then 2 else match stI b n.toNat with
  | some _ => 0
  | none => 12
theorem gSettle_c (b : BnR) (hb : Bl b) (n : Int) (m : Mem) : Gives Try.prog 21 [.agg (bnV b), .int .i64 n] m (.tup [.lst (rwV (seL b n)), .int .i64 (seC b n)]) := by
  unfold seL seC
  by_cases h : bnErr b = 0
  · have hq : ¬ bnErr b ≠ 0 := by omega
    rw [if_neg hq, if_neg hq]
    by_cases hn : 0 ≤ n ∧ n ≤ 100
    · have hq2 : ¬ ¬ (0 ≤ n ∧ n ≤ 100) := by omega
      rw [if_neg hq2, if_neg hq2]
      have h2 := gSettle_ok b hb h n.toNat (by omega) m
      rw [show ((n.toNat : Nat) : Int) = n by omega] at h2
      unfold setV at h2
      cases hs : stI b n.toNat with
      | none => rw [hs] at h2; exact h2
      | some k => rw [hs] at h2; exact h2
    · rw [if_pos hn, if_pos hn]
      exact Gives_weak (gSettle_range b hb h n hn m) (wk_tup ⟨wk_nil, WkV.refl _, trivial⟩)
  · rw [if_pos h, if_pos h]
    exact Gives_weak (gSettle_bad b hb h n m) (wk_tup ⟨wk_nil, WkV.refl _, trivial⟩)
theorem stO_lens {b : BnR} (hb : Bnd b) (k : Nat) : ∀ i, i < (stO b k).length → ((stO b k).getD i []).length ≤ 100000 := fun i hi => by
  rw [stO_len] at hi
  have : (stO b k).getD i [] = stK b (i + 1) := by
    unfold stO
    rw [List.getD_eq_getElem?_getD, List.getElem?_map, List.getElem?_range hi]; rfl
  rw [this, (stK_ok hb (i + 1)).1]
  have := hb.fa
  omega
theorem sweeps_in (b : BnR) (l : List Int) (most : Int) (hL : light b) (hS : shal b) (hl : ¬ 20 < (l.length : Int)) (hm : ¬ (8 < most ∧ most ≤ 100)) (m : Mem) : Gives Try.prog 3 [.agg (bnV b), .lst (nsV l), .int .i64 most] m (.bool true) := by
  have hb := light_bl hL
  have hln := nsV_length (l := l)
  have hli := fun m => llight_c b m
  rw [decide_eq_true hL] at hli
  have hsl := fun m => lshallow_c b hb.na m
  rw [decide_eq_true hS] at hsl
  have hcp := fun m => rcopy_c b hb m
  have hci := fun m => bcopyints_c l (by omega) m
  have hsw := fun m => gSweep_c b hb l m
  have hse := fun m => gSettle_c b hb most m
  have hst := fun m => lsteps_c b hb l m
  have hcb := fun m => rcheckbench_c b hb m
  have hls := nsV_length (l := swL b l)
  have hlx := rwV_length (l := seL b most)
  have hs0 : bsErr b l ≠ 0 → (swL b l).length = 0 := fun h => by unfold swL; rw [if_neg h]; rfl
  have hbn : bsErr b l = 0 → bnErr b = 0 ∧ stErr b.ads l = 0 := fun h => by
    unfold bsErr at h
    by_cases h2 : bnErr b = 0
    · rw [if_neg (by omega)] at h; exact ⟨h2, h⟩
    · rw [if_pos h2] at h; exact absurd h h2
  have hrs : bsErr b l = 0 → ∀ m, Gives Try.prog 24 [.agg [.lst (mssV b.ms), .lst (adsV b.ads)], .lst (nsV l)] m (.lst (nsV (swL b l))) := fun h m => by
    unfold swL
    rw [if_pos h]
    exact rsweep_c b (bn_ok (hbn h).1) l (stErr_iff.1 (hbn h).2) m
  have hbi0 : bsErr b l = 0 → (swL b l).length ≤ 100000 := fun h => by
    unfold swL
    rw [if_pos h, (sweepP_ok (stErr_iff.1 (hbn h).2)).1]
    have := (bn_ok (hbn h).1).fa
    omega
  have hbi : ∀ m, Gives Try.prog 23 [.lst (nsV (swL b l)), .lst (nsV (swL b l))] m (.bool true) := fun m => by
    have h := bints_c (swL b l) (swL b l) (by by_cases h : bsErr b l = 0; exact hbi0 h; have := hs0 h; omega) m
    rwa [decide_eq_true rfl] at h
  -- the sweeps that settle
  have hc1 : bnErr b ≠ 0 → seC b most = bnErr b ∧ (seL b most).length = 0 := fun h => by unfold seC seL; rw [if_pos h, if_pos h]; exact ⟨rfl, rfl⟩
  have hc2 : bnErr b = 0 → ¬ (0 ≤ most ∧ most ≤ 100) → seC b most = 2 ∧ (seL b most).length = 0 := fun h h2 => by unfold seC seL; rw [if_neg (by omega), if_pos h2, if_neg (by omega), if_pos h2]; exact ⟨rfl, rfl⟩
  obtain ⟨o, ho1, ho2, hrt, hbl⟩ : ∃ o : Int, (bnErr b = 0 → (0 ≤ most ∧ most ≤ 100) → o = 1 → seC b most = 0) ∧ (bnErr b = 0 → (0 ≤ most ∧ most ≤ 100) → o ≠ 1 → seC b most = 12 ∧ (seL b most).length = 0) ∧ (bnErr b = 0 → 0 ≤ most → most ≤ 100 → ∀ m, Gives Try.prog 27 [.agg [.lst (mssV b.ms), .lst (adsV b.ads)], .int .i64 most] m (.tup [.lst (rwV (seL b most)), .bool (decide (o = 1))])) ∧ (bnErr b = 0 → ∀ m, Gives Try.prog 28 [.lst (rwV (seL b most)), .lst (rwV (seL b most))] m (.bool true)) := by
    by_cases h : bnErr b = 0
    · by_cases h2 : 0 ≤ most ∧ most ≤ 100
      · have e1 : seL b most = match stI b most.toNat with | some k => stO b k | none => [] := by unfold seL; rw [if_neg (by omega), if_neg (by omega)]
        have e2 : seC b most = match stI b most.toNat with | some _ => 0 | none => 12 := by unfold seC; rw [if_neg (by omega), if_neg (by omega)]
        have h3 := fun m => rsettle_c b (bn_ok h) most.toNat (by omega) m
        rw [show ((most.toNat : Nat) : Int) = most by omega] at h3
        unfold setR at h3
        rw [e1, e2]
        cases hs : stI b most.toNat with
        | none =>
          rw [hs] at h3
          refine ⟨0, fun _ _ h => by omega, fun _ _ _ => ⟨rfl, rfl⟩, fun _ _ _ m => h3 m, fun _ m => ?_⟩
          have := blists_c [] [] (by decide) (fun i hi => by simp at hi) m
          rwa [decide_eq_true rfl] at this
        | some k =>
          rw [hs] at h3
          refine ⟨1, fun _ _ _ => rfl, fun _ _ h => by omega, fun _ _ _ m => h3 m, fun _ m => ?_⟩
          have hk : k < most.toNat + 1 := by
            unfold stI at hs
            exact List.mem_range.1 (List.mem_of_find?_eq_some hs)
          have := blists_c (stO b k) (stO b k) (by rw [stO_len]; omega) (stO_lens (bnd_ok (bn_ok h)) k) m
          rwa [decide_eq_true rfl] at this
      · refine ⟨0, fun _ h3 => absurd h3 h2, fun _ h3 => absurd h3 h2, fun _ h3 h4 => absurd ⟨h3, h4⟩ h2, fun _ m => ?_⟩
        have e : seL b most = [] := List.eq_nil_of_length_eq_zero (hc2 h h2).2
        rw [e]
        have := blists_c [] [] (by decide) (fun i hi => by simp at hi) m
        rwa [decide_eq_true rfl] at this
    · exact ⟨0, fun h3 => absurd h3 h, fun h3 => absurd h3 h, fun h3 => absurd h3 h, fun h3 => absurd h3 h⟩
  have hbn1 := fun h => (hbn h).1
  unfold bnV at hsw hse ⊢
  clear hbn hbi0 hb hL hS
  generalize swL b l = sl at *
  generalize seL b most = xl at *
  generalize seC b most = f at *
  generalize bsErr b l = e at *
  generalize bnErr b = c at *
  refine Gives_in Try.func3 rfl Try.ntmps3 Try.results3 (by kernel_rfl) (by simp) rfl fun Q hQ => ?_
  (have FX := And.intro hln (And.intro hls hlx); repeat' (first | (refine sx ?_ ?_ <;> intro h <;> first | (exfalso; omega) | skip) | (refine g_op ?_; refine g_call ?_; refine g_args ?_; (first | refine s_fn (lawake_c _) ?_ | refine s_fn (hli _) ?_ | refine s_fn (hsl _) ?_ | refine s_fn (hcp _) ?_ | refine s_fn (hci _) ?_ | refine s_fn (hsw _) ?_ | refine s_fn (hse _) ?_ | refine s_fn (hst _) ?_ | refine s_fn (hcb _) ?_ | refine s_fn (bwithin_c _ _ _ _) ?_ | refine s_fn (hrs (by omega) _) ?_ | refine s_fn (hbi _) ?_ | refine s_fn (hrt (by omega) (by omega) (by omega) _) ?_ | refine s_fn (hbl (by omega) _) ?_) <;> try first | omega | assumption) | refine ny ?_ | refine WA_block ?_))
  all_goals (try (exfalso; omega))
  all_goals (refine r_es hQ ?_; try with_reducible rfl)
theorem sweeps_law (b : BnR) (l : List Int) (most : Int) (m : Mem) : Gives Try.prog 3 [.agg (bnV b), .lst (nsV l), .int .i64 most] m (.bool true) := by
  by_cases h : light b ∧ shal b ∧ ¬ 20 < (l.length : Int) ∧ ¬ (8 < most ∧ most ≤ 100)
  · exact sweeps_in b l most h.1 h.2.1 h.2.2.1 h.2.2.2 m
  · exact sweeps_out b l most h m
end Go.Proofs.Ytaoakololkcepaa
