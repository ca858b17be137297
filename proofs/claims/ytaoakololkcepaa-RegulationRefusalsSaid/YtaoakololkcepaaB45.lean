/- contracts: proofs of refusal are checked; how many steps there are; narrow benches -/
import Derived.Test.YtaoakololkcepaaBZ
import Derived.Test.YtaoakololkcepaaB17
set_option linter.unusedSimpArgs false
set_option linter.unusedVariables false
namespace Go.Proofs.Ytaoakololkcepaa
open Go.RowKit
attribute [local irreducible] WA WOs WDs WAn qThen qBlock tput
set_option maxHeartbeats 1000000
set_option maxRecDepth 20000
set_option linter.unusedSimpArgs false
set_option linter.unusedVariables false
set_option maxHeartbeats 4000000

theorem gCheckRefusal_c (b : BnR) (hb : Bl b) (ws : List Int) (hl : ws.length ≤ 100000) (m : Mem) : Gives Try.prog 41 [.agg (bnV b), .lst (nsV ws)] m (.int .i64 (if bnErr b ≠ 0 then bnErr b else ckW b ws)) := by
  have hlm := mssV_length (l := b.ms)
  have hln := nsV_length (l := ws)
  have hsm := hlm
  have hwe := hlm
  by_cases h0 : bnErr b = 0
  · have hbd := bnd_ok (bn_ok h0)
    have hop := fun m => gopen_ok b hb h0 m
    rw [if_neg (by omega)]
    have hsm := fun m => gsmall_c 100 (by decide) ws m hl
    unfold ckW
    unfold bnV at hop ⊢
    by_cases h1 : ws.length = b.ms.length
    · rw [if_neg (by omega)]
      by_cases h2 : smallP 100 ws
      · rw [if_neg (fun g => g h2)]
        rw [decide_eq_true h2] at hsm
        have hwe := fun m => gweighed_c b hbd ws h1 (wOk_of h2) m
        by_cases h3 : mtW b ws
        · rw [if_pos h3]
          unfold mtW at h3
          generalize cnL b ws b.ads.length = a1 at *
          generalize cnH b ws b.ads.length = a2 at *
          generalize wtL b ws b.ms.length = a3 at *
          generalize wtH b ws b.ms.length = a4 at *
          refine Gives_in Try.func41 rfl Try.ntmps41 Try.results41 (by kernel_rfl) (by simp) rfl fun Q hQ => ?_
          (have FX := And.intro hlm hln; repeat' (first | (refine sx ?_ ?_ <;> intro h <;> first | (exfalso; omega) | skip) | (refine g_op ?_; refine g_call ?_; refine g_args ?_; (first | refine s_fn (hop _) ?_ | refine s_fn (hsm _) ?_ | refine s_fn (hwe _) ?_ | refine s_fn (gmeets_c _ _ _ _ _) ?_) <;> try first | omega | assumption) | refine ny ?_ | refine WA_block ?_))
          all_goals (try (exfalso; first | omega | contradiction))
          all_goals ((refine r_es hQ ?_; try with_reducible rfl))
        · rw [if_neg h3]
          unfold mtW at h3
          generalize cnL b ws b.ads.length = a1 at *
          generalize cnH b ws b.ads.length = a2 at *
          generalize wtL b ws b.ms.length = a3 at *
          generalize wtH b ws b.ms.length = a4 at *
          refine Gives_in Try.func41 rfl Try.ntmps41 Try.results41 (by kernel_rfl) (by simp) rfl fun Q hQ => ?_
          (have FX := And.intro hlm hln; repeat' (first | (refine sx ?_ ?_ <;> intro h <;> first | (exfalso; omega) | skip) | (refine g_op ?_; refine g_call ?_; refine g_args ?_; (first | refine s_fn (hop _) ?_ | refine s_fn (hsm _) ?_ | refine s_fn (hwe _) ?_ | refine s_fn (gmeets_c _ _ _ _ _) ?_) <;> try first | omega | assumption) | refine ny ?_ | refine WA_block ?_))
          all_goals (try (exfalso; first | omega | contradiction))
          all_goals ((refine r_es hQ ?_; try with_reducible rfl))
      · rw [if_pos h2]
        rw [decide_eq_false h2] at hsm
        refine Gives_in Try.func41 rfl Try.ntmps41 Try.results41 (by kernel_rfl) (by simp) rfl fun Q hQ => ?_
        (have FX := And.intro hlm hln; repeat' (first | (refine sx ?_ ?_ <;> intro h <;> first | (exfalso; omega) | skip) | (refine g_op ?_; refine g_call ?_; refine g_args ?_; (first | refine s_fn (hop _) ?_ | refine s_fn (hsm _) ?_ | refine s_fn (hwe _) ?_ | refine s_fn (gmeets_c _ _ _ _ _) ?_) <;> try first | omega | assumption) | refine ny ?_ | refine WA_block ?_))
        all_goals (try (exfalso; omega))
        all_goals ((refine r_es hQ ?_; try with_reducible rfl))
    · rw [if_pos h1]
      refine Gives_in Try.func41 rfl Try.ntmps41 Try.results41 (by kernel_rfl) (by simp) rfl fun Q hQ => ?_
      (have FX := And.intro hlm hln; repeat' (first | (refine sx ?_ ?_ <;> intro h <;> first | (exfalso; omega) | skip) | (refine g_op ?_; refine g_call ?_; refine g_args ?_; (first | refine s_fn (hop _) ?_ | refine s_fn (hsm _) ?_ | refine s_fn (hwe _) ?_ | refine s_fn (gmeets_c _ _ _ _ _) ?_) <;> try first | omega | assumption) | refine ny ?_ | refine WA_block ?_))
      all_goals (try (exfalso; omega))
      all_goals ((refine r_es hQ ?_; try with_reducible rfl))
  · rw [if_pos h0]
    have hop := fun m => gopen_bad b hb h0 m
    unfold bnV at hop ⊢
    refine Gives_in Try.func41 rfl Try.ntmps41 Try.results41 (by kernel_rfl) (by simp) rfl fun Q hQ => ?_
    (have FX := And.intro hlm hln; repeat' (first | (refine sx ?_ ?_ <;> intro h <;> first | (exfalso; omega) | skip) | (refine g_op ?_; refine g_call ?_; refine g_args ?_; (first | refine s_fn (hop _) ?_ | refine s_fn (hsm _) ?_ | refine s_fn (hwe _) ?_ | refine s_fn (gmeets_c _ _ _ _ _) ?_) <;> try first | omega | assumption) | refine ny ?_ | refine WA_block ?_))
    all_goals (try (exfalso; omega))
    all_goals ((refine r_es hQ ?_; try with_reducible rfl))
end Go.Proofs.Ytaoakololkcepaa
