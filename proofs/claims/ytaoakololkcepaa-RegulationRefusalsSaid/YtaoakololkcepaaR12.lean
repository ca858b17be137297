/- the law RegulationRefusals, over contracts -/
import Derived.Test.YtaoakololkcepaaB72
import Derived.Test.YtaoakololkcepaaB45
import Derived.Test.YtaoakololkcepaaB33
set_option linter.unusedSimpArgs false
set_option linter.unusedVariables false
namespace Go.Proofs.Ytaoakololkcepaa
open Go.RowKit
attribute [local irreducible] WA WOs WDs WAn qThen qBlock tput
set_option maxHeartbeats 1000000
set_option maxRecDepth 20000
set_option linter.unusedSimpArgs false
set_option linter.unusedVariables false
set_option maxHeartbeats 8000000

theorem refusals_out (b : BnR) (l : List Int) (hout : ¬ (light b ∧ ¬ 20 < (l.length : Int))) (m : Mem) : Gives Try.prog 7 [.agg (bnV b), .lst (nsV l)] m (.bool true) := by
  have hln := nsV_length (l := l)
  unfold bnV
  refine Gives_in Try.func7 rfl Try.ntmps7 Try.results7 (by kernel_rfl) (by simp) rfl fun Q hQ => ?_
  (have FX := hln; repeat' (first | (refine sx ?_ ?_ <;> intro h <;> first | (exfalso; omega) | skip) | (refine g_op ?_; refine g_call ?_; refine g_args ?_; (first | refine s_fn (lawake_c _) ?_ | refine s_fn (llight_c _ _) ?_) <;> try first | omega | assumption) | refine ny ?_ | refine WA_block ?_))
  all_goals (try (exfalso; first | exact hout ⟨by assumption, by assumption⟩ | omega))
  all_goals (refine r_es hQ ?_; try with_reducible rfl)
theorem refusals_bad (b : BnR) (l : List Int) (hL : light b) (h1 : ¬ 20 < (l.length : Int)) (h0 : bnErr b ≠ 0) (m : Mem) : Gives Try.prog 7 [.agg (bnV b), .lst (nsV l)] m (.bool true) := by
  have hb := light_bl hL
  have hln := nsV_length (l := l)
  have hli := fun m => llight_c b m
  rw [decide_eq_true hL] at hli
  have hcp := fun m => rcopy_c b hb m
  have hci := fun m => bcopyints_c l (by omega) m
  have hck := fun m => gCheckRefusal_c b hb l (by omega) m
  rw [if_pos h0] at hck
  have hre := fun m => gRefusal_bad b hb h0 m
  have hcb := fun m => rcheckbench_c b hb m
  unfold bnV at hck hre ⊢
  generalize bnErr b = c at *
  refine Gives_in Try.func7 rfl Try.ntmps7 Try.results7 (by kernel_rfl) (by simp) rfl fun Q hQ => ?_
  (have FX := hln; repeat' (first | (refine sx ?_ ?_ <;> intro h <;> first | (exfalso; omega) | skip) | (refine g_op ?_; refine g_call ?_; refine g_args ?_; (first | refine s_fn (lawake_c _) ?_ | refine s_fn (hli _) ?_ | refine s_fn (hcp _) ?_ | refine s_fn (hci _) ?_ | refine s_fn (hck _) ?_ | refine s_fn (hre _) ?_ | refine s_fn (hcb _) ?_) <;> try first | omega | assumption) | refine ny ?_ | refine WA_block ?_))
  all_goals (try (exfalso; omega))
  all_goals (refine r_es hQ ?_; try with_reducible rfl)
theorem refusals_ok (b : BnR) (l : List Int) (hL : light b) (h1 : ¬ 20 < (l.length : Int)) (h0 : bnErr b = 0) (m : Mem) : Gives Try.prog 7 [.agg (bnV b), .lst (nsV l)] m (.bool true) := by
  have hb := light_bl hL
  have hok := bn_ok h0
  have hbd := bnd_ok hok
  have hef : ∀ k, k < b.ads.length → (b.ads.getD k adz).effs.length ≤ 1000 := fun k hk => by have := (ad_ok (hok.ae k hk)).fe; omega
  have h6 : b.ms.length ≤ 5 := by
    have g1 := hL.1
    have g2 := hok.fm
    unfold lenL at g1
    omega
  have hln := nsV_length (l := l)
  have hlm := mssV_length (l := b.ms)
  have hli := fun m => llight_c b m
  rw [decide_eq_true hL] at hli
  have hcp := fun m => rcopy_c b hb m
  have hci := fun m => bcopyints_c l (by omega) m
  have hck := fun m => gCheckRefusal_c b hb l (by omega) m
  rw [if_neg (fun h => h h0)] at hck
  have hcw := fun m => rcheckweights_c b hbd hef l (by omega) m
  have hcb := fun m => rcheckbench_c b hb m
  rw [h0] at hcb
  have hre := fun m => gRefusal_ok b hb h0 (by omega) m
  have hrr := fun m => rRefusal_c b hbd hef m
  have hckW := fun w (h : reW b = some w) => reW_ck h
  have hwl := fun w (h : reW b = some w) => (reW_some h).1
  have hrc := hln
  have hbi := hln
  unfold gfV at hre
  unfold reV at hrr
  generalize hRW : reW b = RW at *
  cases RW with
  | none =>
    unfold gfO at hre
    dsimp only at hre hrr
    clear hckW hwl
    unfold bnV at hck hre ⊢
    generalize ckW b l = c at *
    refine Gives_in Try.func7 rfl Try.ntmps7 Try.results7 (by kernel_rfl) (by simp) rfl fun Q hQ => ?_
    (have FX := And.intro hln hlm; repeat' (first | (refine sx ?_ ?_ <;> intro h <;> first | (exfalso; omega) | skip) | (refine g_op ?_; refine g_call ?_; refine g_args ?_; (first | refine s_fn (lawake_c _) ?_ | refine s_fn (hli _) ?_ | refine s_fn (hcp _) ?_ | refine s_fn (hci _) ?_ | refine s_fn (hck _) ?_ | refine s_fn (hcw _) ?_ | refine s_fn (hre _) ?_ | refine s_fn (hrr _) ?_ | refine s_fn (hcb _) ?_ | refine s_fn (hrc _) ?_ | refine s_fn (hbi _) ?_) <;> try first | omega | assumption) | refine ny ?_ | refine WA_block ?_))
    all_goals (try (exfalso; omega))
    all_goals (refine r_es hQ ?_; try with_reducible rfl)
  | some w =>
    unfold gfO at hre
    dsimp only at hre hrr
    have hwl2 := hwl w rfl
    have hrc := fun m => gCheckRefusal_c b hb w (by omega) m
    rw [if_neg (fun h => h h0), hckW w rfl] at hrc
    have hbi := fun m => bints_c w w (by omega) m
    rw [decide_eq_true rfl] at hbi
    clear hckW hwl
    unfold bnV at hck hre hrc ⊢
    generalize ckW b l = c at *
    refine Gives_in Try.func7 rfl Try.ntmps7 Try.results7 (by kernel_rfl) (by simp) rfl fun Q hQ => ?_
    (have FX := And.intro hln hlm; repeat' (first | (refine sx ?_ ?_ <;> intro h <;> first | (exfalso; omega) | skip) | (refine g_op ?_; refine g_call ?_; refine g_args ?_; (first | refine s_fn (lawake_c _) ?_ | refine s_fn (hli _) ?_ | refine s_fn (hcp _) ?_ | refine s_fn (hci _) ?_ | refine s_fn (hck _) ?_ | refine s_fn (hcw _) ?_ | refine s_fn (hre _) ?_ | refine s_fn (hrr _) ?_ | refine s_fn (hcb _) ?_ | refine s_fn (hrc _) ?_ | refine s_fn (hbi _) ?_) <;> try first | omega | assumption) | refine ny ?_ | refine WA_block ?_))
    all_goals (try (exfalso; omega))
    all_goals (refine r_es hQ ?_; try with_reducible rfl)
theorem refusals_law (b : BnR) (l : List Int) (m : Mem) : Gives Try.prog 7 [.agg (bnV b), .lst (nsV l)] m (.bool true) := by
  by_cases h : light b ∧ ¬ 20 < (l.length : Int)
  · by_cases h0 : bnErr b = 0
    · exact refusals_ok b l h.1 h.2 h0 m
    · exact refusals_bad b l h.1 h.2 h0 m
  · exact refusals_out b l h m
end Go.Proofs.Ytaoakololkcepaa
