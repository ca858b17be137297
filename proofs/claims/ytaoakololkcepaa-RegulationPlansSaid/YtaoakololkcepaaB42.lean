/- contracts: the reference's check of a plan; plans copied, short ones -/
import Derived.Test.YtaoakololkcepaaB41
import Derived.Test.YtaoakololkcepaaB40
import Derived.Test.YtaoakololkcepaaB27
set_option linter.unusedSimpArgs false
set_option linter.unusedVariables false
namespace Go.Proofs.Ytaoakololkcepaa
open Go.RowKit
attribute [local irreducible] WA WOs WDs WAn qThen qBlock tput
set_option maxHeartbeats 1000000
set_option maxRecDepth 20000
set_option linter.unusedSimpArgs false
set_option linter.unusedVariables false
set_option maxHeartbeats 4000000

theorem rcheckplan_c (b : BnR) (hb : Bnd b) (hA : Aln b.ads) (hef : ∀ k, k < b.ads.length → (b.ads.getD k adz).effs.length ≤ 1000) (l : List (List StR)) (m : Mem) : Gives Try.prog 50 [.agg [.lst (mssV b.ms), .lst (adsV b.ads)], .lst (plV l)] m (.tup [.int .i64 (cpN b l), .int .i64 (cpE b l)]) := by
  have hok := fun h => smS_ok hb (pl := l) h
  have hsm := fun m => rsums_c b hb hA l m
  have hbr := hb
  have hfm := hb.fm
  unfold cpN cpE
  generalize smE b l = e at *
  generalize smN b l = n at *
  generalize smS b l = s at *
  by_cases he : e = 0
  · have hok := hok he
    rw [if_neg (by omega), if_neg (by omega)]
    have hbr := fun m => rbroken_c b hb hef s hok.1 (steps_bd hb hok.2) m
    have hle := brkP_le b s b.ms.length
    generalize brkP b s b.ms.length = bp at *
    have hln := nuV_length (l := bp)
    cases bp with
    | nil =>
      have hln : (nuV ([] : List Nat)).length = 0 := rfl
      have hga := hln
      rw [if_neg (by simp)]
      refine Gives_in Try.func50 rfl Try.ntmps50 Try.results50 (by kernel_rfl) (by simp) rfl fun Q hQ => ?_
      (have FX := And.intro hln hga; repeat' (first | (refine sx ?_ ?_ <;> intro h <;> first | (exfalso; omega) | skip) | (refine g_op ?_; refine g_call ?_; refine g_args ?_; (first | refine s_fn (hsm _) ?_ | refine s_fn (hbr _) ?_) <;> try first | omega | assumption) | refine ny ?_ | refine WA_block ?_))
      all_goals (try (exfalso; omega))
      all_goals ((refine r_es hQ ?_; try with_reducible rfl))
      all_goals rfl
    | cons p r =>
      have hga : (nuV (p :: r))[0]? = some [V.int .i64 (p : Int)] := rfl
      have hln : (nuV (p :: r)).length = r.length + 1 := nuV_length
      rw [if_pos (by simp)]
      refine Gives_in Try.func50 rfl Try.ntmps50 Try.results50 (by kernel_rfl) (by simp) rfl fun Q hQ => ?_
      (have FX := And.intro hln hga; repeat' (first | (refine sx ?_ ?_ <;> intro h <;> first | (exfalso; omega) | skip) | (refine g_op ?_; refine g_call ?_; refine g_args ?_; (first | refine s_fn (hsm _) ?_ | refine s_fn (hbr _) ?_) <;> try first | omega | assumption) | refine ny ?_ | refine WA_block ?_))
      all_goals (try (exfalso; omega))
      all_goals ((refine r_es hQ ?_; try with_reducible rfl))
      all_goals rfl
  · have hln := hfm
    have hga := hfm
    rw [if_pos (by omega), if_pos (by omega)]
    refine Gives_in Try.func50 rfl Try.ntmps50 Try.results50 (by kernel_rfl) (by simp) rfl fun Q hQ => ?_
    (have FX := And.intro hln hga; repeat' (first | (refine sx ?_ ?_ <;> intro h <;> first | (exfalso; omega) | skip) | (refine g_op ?_; refine g_call ?_; refine g_args ?_; (first | refine s_fn (hsm _) ?_ | refine s_fn (hbr _) ?_) <;> try first | omega | assumption) | refine ny ?_ | refine WA_block ?_))
    all_goals (try (exfalso; omega))
    all_goals ((refine r_es hQ ?_; try with_reducible rfl))
end Go.Proofs.Ytaoakololkcepaa
