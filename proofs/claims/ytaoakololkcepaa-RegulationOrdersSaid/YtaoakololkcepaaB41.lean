/- contracts: passes and plans of a bench; plans copied -/
import Derived.Test.YtaoakololkcepaaB39
import Derived.Test.YtaoakololkcepaaB17
import Derived.Test.YtaoakololkcepaaYN
set_option linter.unusedSimpArgs false
set_option linter.unusedVariables false
namespace Go.Proofs.Ytaoakololkcepaa
open Go.RowKit
attribute [local irreducible] WA WOs WDs WAn qThen qBlock tput
set_option maxHeartbeats 1000000
set_option maxRecDepth 20000
set_option linter.unusedSimpArgs false
set_option linter.unusedVariables false
set_option maxHeartbeats 4000000
theorem ok_af {b : BnR} (hk : Bok b) : ∀ i, i < b.ads.length → (b.ads.getD i adz).after.length ≤ 1000 := fun i hi => by
  have := (aln_of hk.fa hk.ae).af i hi
  omega

theorem gSums_bad (b : BnR) (hb : Bl b) (h0 : bnErr b ≠ 0) (l : List (List StR)) (m : Mem) : Gives Try.prog 46 [.agg (bnV b), .lst (plV l)] m (.tup [.nilsl, .int .i64 0, .int .i64 (bnErr b)]) := by
  have hx0 := h0
  have hcp := h0
  have hop := fun m => gopen_bad b hb h0 m
  unfold bnV at hop ⊢
  refine Gives_in Try.func46 rfl Try.ntmps46 Try.results46 (by kernel_rfl) (by simp) rfl fun Q hQ => ?_
  (have FX := hx0; repeat' (first | (refine sx ?_ ?_ <;> intro h <;> first | (exfalso; omega) | skip) | (refine g_op ?_; refine g_call ?_; refine g_args ?_; (first | refine s_fn (hop _) ?_ | refine s_fn (hcp _) ?_) <;> try first | omega | assumption) | refine ny ?_ | refine WA_block ?_))
  all_goals (try (exfalso; omega))
  all_goals ((refine r_es hQ ?_; try with_reducible rfl))
theorem gSums_ok (b : BnR) (hb : Bl b) (h0 : bnErr b = 0) (l : List (List StR)) (m : Mem) : Gives Try.prog 46 [.agg (bnV b), .lst (plV l)] m (.tup [.lst (nsV (smS b l)), .int .i64 (smN b l), .int .i64 (smE b l)]) := by
  have hx0 := h0
  have hk := bn_ok h0
  have hcp := fun m => gsums_c b (bnd_ok hk) (ok_af hk) l m
  have hop := fun m => gopen_ok b hb h0 m
  unfold bnV at hop ⊢
  refine CallA_in Try.func46 rfl Try.ntmps46 Try.results46 (by kernel_rfl) (by simp) fun Q hQ => ?_
  (have FX := hx0; repeat' (first | (refine sx ?_ ?_ <;> intro h <;> first | (exfalso; omega) | skip) | (refine g_op ?_; refine g_call ?_; refine g_args ?_; (first | refine s_fn (hop _) ?_ | refine s_fn (hcp _) ?_) <;> try first | omega | assumption) | refine ny ?_ | refine WA_block ?_))
  all_goals (try (exfalso; omega))
  all_goals (refine r_esA hQ (fin_lii (nsV_plain _) ⟨rfl, rfl⟩))

end Go.Proofs.Ytaoakololkcepaa
