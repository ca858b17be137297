/- the law RegulationMakes, over contracts -/
import Derived.Test.YtaoakololkcepaaB33
import Derived.Test.YtaoakololkcepaaB41
import Derived.Test.YtaoakololkcepaaB44
import Derived.Test.YtaoakololkcepaaB50
import Derived.Test.YtaoakololkcepaaB51
set_option linter.unusedSimpArgs false
set_option linter.unusedVariables false
namespace Go.Proofs.Ytaoakololkcepaa
open Go.RowKit
attribute [local irreducible] WA WOs WDs WAn qThen qBlock tput
set_option maxHeartbeats 1000000
set_option maxRecDepth 20000
set_option linter.unusedSimpArgs false
set_option linter.unusedVariables false
set_option maxHeartbeats 4000000

theorem makes_out (b : BnR) (l : List Int) (hout : ¬ (light b ∧ ¬ 20 < (l.length : Int))) (m : Mem) : Gives Try.prog 10 [.agg (bnV b), .lst (nsV l)] m (.bool true) := by
  have hln := nsV_length (l := l)
  unfold bnV
  refine Gives_in Try.func10 rfl Try.ntmps10 Try.results10 (by kernel_rfl) (by simp) rfl fun Q hQ => ?_
  (have FX := hln; repeat' (first | (refine sx ?_ ?_ <;> intro h <;> first | (exfalso; omega) | skip) | (refine g_op ?_; refine g_call ?_; refine g_args ?_; (first | refine s_fn (lawake_c _) ?_ | refine s_fn (llight_c _ _) ?_) <;> try first | omega | assumption) | refine ny ?_ | refine WA_block ?_))
  all_goals (try (exfalso; first | exact hout ⟨by assumption, by assumption⟩ | omega))
  all_goals (refine r_es hQ ?_; try with_reducible rfl)
theorem makes_bad (b : BnR) (l : List Int) (hL : light b) (hl : ¬ 20 < (l.length : Int)) (h0 : mkE b l ≠ 0) (m : Mem) : Gives Try.prog 10 [.agg (bnV b), .lst (nsV l)] m (.bool true) := by
  have hb := light_bl hL
  have hln := nsV_length (l := l)
  have hlo : (plV []).length = 0 := rfl
  have hli := fun m => llight_c b m
  rw [decide_eq_true hL] at hli
  have hcp := fun m => rcopy_c b hb m
  have hci := fun m => bcopyints_c l (by omega) m
  have hps := fun m => gPasses_c b hb l m
  rw [if_neg h0] at hps
  have hpl := fun m => Gives_weak (v' := .tup [.lst (plV []), .int .i64 (mkE b l)]) (gPlanOf_bad b hb l h0 m) (wk_tup ⟨wk_nil, WkV.refl _, trivial⟩)
  have hst := fun m => lsteps_c b hb l m
  have hmk : mkE b l = if bsErr b l ≠ 0 then bsErr b l else if 50 < pasK b.ads l b.ads.length then 8 else 0 := rfl
  have hrp : bsErr b l = 0 → ∀ m, Gives Try.prog 55 [.agg [.lst (mssV b.ms), .lst (adsV b.ads)], .lst (nsV l)] m (.int .i64 (pasK b.ads l b.ads.length)) := fun h m => by
    unfold bsErr at h
    by_cases h1 : bnErr b = 0
    · rw [if_neg (by omega)] at h
      have hs := stErr_ok h
      exact rpasses_c b (bnd_ok (bn_ok h1)) l hs.1 (steps_bd (bnd_ok (bn_ok h1)) hs.2) m
    · rw [if_pos h1] at h; omega
  have hm2 : bsErr b l = 0 → 50 < pasK b.ads l b.ads.length ∧ mkE b l = 8 := fun h => by
    rw [if_neg (by omega)] at hmk
    by_cases h2 : 50 < pasK b.ads l b.ads.length
    · rw [if_pos h2] at hmk; exact ⟨h2, hmk⟩
    · rw [if_neg h2] at hmk; omega
  have hm3 : bsErr b l ≠ 0 → mkE b l = bsErr b l := fun h => by rw [if_pos h] at hmk; exact hmk
  clear hmk
  unfold bnV at hps hpl ⊢
  generalize mkE b l = e at *
  generalize bsErr b l = c at *
  generalize pasK b.ads l b.ads.length = n at *
  refine Gives_in Try.func10 rfl Try.ntmps10 Try.results10 (by kernel_rfl) (by simp) rfl fun Q hQ => ?_
  (have FX := And.intro hln hlo; repeat' (first | (refine sx ?_ ?_ <;> intro h <;> first | (exfalso; omega) | skip) | (refine g_op ?_; refine g_call ?_; refine g_args ?_; (first | refine s_fn (lawake_c _) ?_ | refine s_fn (hli _) ?_ | refine s_fn (hcp _) ?_ | refine s_fn (hci _) ?_ | refine s_fn (hps _) ?_ | refine s_fn (hpl _) ?_ | refine s_fn (hst _) ?_ | refine s_fn (hrp (by omega) _) ?_) <;> try first | omega | assumption) | refine ny ?_ | refine WA_block ?_))
  all_goals (try (exfalso; omega))
  all_goals (refine r_es hQ ?_; try with_reducible rfl)
  all_goals (exact congrArg V.bool (by first | rfl | (rw [decide_eq_true (by assumption)]; rfl) | (rw [decide_eq_false (by assumption)]; rfl) | exact (decide_eq_true (by assumption)).symm | exact (decide_eq_false (by assumption)).symm | exact (decide_eq_true (by omega)).symm | exact (decide_eq_false (by omega)).symm))
theorem makes_ok (b : BnR) (l : List Int) (hL : light b) (hl : ¬ 20 < (l.length : Int)) (h0 : mkE b l = 0) (m : Mem) : Gives Try.prog 10 [.agg (bnV b), .lst (nsV l)] m (.bool true) := by
  have hb := light_bl hL
  obtain ⟨h1, h2, hso, hp1, hp2⟩ := mk_ok h0
  have hk := bn_ok h1
  have hbd := bnd_ok hk
  have hln := nsV_length (l := l)
  have hli := fun m => llight_c b m
  rw [decide_eq_true hL] at hli
  have hcp := fun m => rcopy_c b hb m
  have hci := fun m => bcopyints_c l (by omega) m
  have hps := fun m => gPasses_c b hb l m
  rw [if_pos h0, h0] at hps
  have hpl := fun m => gPlanOf_ok b hb l h0 m
  have hst := fun m => lsteps_c b hb l m
  have he : bsErr b l = 0 := by unfold bsErr; rw [if_neg (by omega)]; exact h2
  rw [he] at hst
  have hrp := fun m => rpasses_c b hbd l hso.1 (steps_bd hbd hso.2) m
  have hro := fun m => rplanof_c b h1 l hso hp2 m
  obtain ⟨N, hN⟩ : ∃ N : Nat, pasK b.ads l b.ads.length = (N : Int) := ⟨(pasK b.ads l b.ads.length).toNat, by omega⟩
  rw [hN] at hps hpl hrp hro hp2
  rw [Int.toNat_natCast] at hpl hro
  have hlo : (plV (plO b l N)).length = N := by rw [plV_length, plO_length]
  have hpa : ∀ i, i < (plO b l N).length → ((plO b l N).getD i []).length ≤ 1000 := fun i hi => by
    rw [plO_length] at hi
    rw [plO_get hi]
    have := (pas_ok hk (lftN b l i)).1
    omega
  have hpn := fun m => lplan_c (plO b l N) (by rw [plO_length]; omega) hpa m
  have hsp := fun m => rsameplan_c (plO b l N) (by rw [plO_length]; omega) hpa m
  have hsu := fun m => gSums_ok b hb h1 (plO b l N) m
  obtain ⟨g1, g2, g3⟩ := plO_ok hk hso (n := N) (by omega) (by omega)
  rw [g1, g2, g3] at hsu
  have hbi := fun m => bints_c l l (by omega) m
  simp only [decide_true] at hbi
  unfold bnV at hps hpl hsu ⊢
  generalize plO b l N = P at *
  refine Gives_in Try.func10 rfl Try.ntmps10 Try.results10 (by kernel_rfl) (by simp) rfl fun Q hQ => ?_
  (have FX := And.intro hln hlo; repeat' (first | (refine sx ?_ ?_ <;> intro h <;> first | (exfalso; omega) | skip) | (refine g_op ?_; refine g_call ?_; refine g_args ?_; (first | refine s_fn (lawake_c _) ?_ | refine s_fn (hli _) ?_ | refine s_fn (hcp _) ?_ | refine s_fn (hci _) ?_ | refine s_fn (hps _) ?_ | refine s_fn (hpl _) ?_ | refine s_fn (hst _) ?_ | refine s_fn (hrp _) ?_ | refine s_fn (hro _) ?_ | refine s_fn (hsp _) ?_ | refine s_fn (hpn _) ?_ | refine s_fn (hsu _) ?_ | refine s_fn (hbi _) ?_) <;> try first | omega | assumption) | refine ny ?_ | refine WA_block ?_))
  all_goals (try (exfalso; omega))
  all_goals (refine r_es hQ ?_; try with_reducible rfl)
theorem makes_law (b : BnR) (l : List Int) (m : Mem) : Gives Try.prog 10 [.agg (bnV b), .lst (nsV l)] m (.bool true) := by
  by_cases h : light b ∧ ¬ 20 < (l.length : Int)
  · by_cases h0 : mkE b l = 0
    · exact makes_ok b l h.1 h.2 h0 m
    · exact makes_bad b l h.1 h.2 h0 m
  · exact makes_out b l h m
end Go.Proofs.Ytaoakololkcepaa
