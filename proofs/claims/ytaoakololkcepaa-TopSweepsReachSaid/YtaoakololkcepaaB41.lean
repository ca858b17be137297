/- contracts: passes and plans of a bench; plans copied -/
import Derived.Test.YtaoakololkcepaaB39
import Derived.Test.YtaoakololkcepaaB17
import Derived.Test.YtaoakololkcepaaYN
set_option linter.unusedSimpArgs false
set_option linter.unusedVariables false
namespace Go.Proofs.Ytaoakololkcepaa
open Go.RowKit
attribute [local irreducible] WA WOs WDs WAn qThen qBlock tput
set_option maxHeartbeats 1000000
set_option maxRecDepth 20000
set_option linter.unusedSimpArgs false
set_option linter.unusedVariables false
set_option maxHeartbeats 4000000
theorem ok_af {b : BnR} (hk : Bok b) : ∀ i, i < b.ads.length → (b.ads.getD i adz).after.length ≤ 1000 := fun i hi => by
  have := (aln_of hk.fa hk.ae).af i hi
  omega

theorem gCheckPass_ok (b : BnR) (hb : Bl b) (h0 : bnErr b = 0) (l : List StR) (m : Mem) : Gives Try.prog 51 [.agg (bnV b), .lst (stsV l)] m (.tup [.int .i64 (psV b.ads l).1, .int .i64 (psV b.ads l).2]) := by
  have hx0 := h0
  have hk := bn_ok h0
  have hcp := fun m => gcheckpass_c b (bnd_ok hk) (ok_af hk) l m
  have hop := fun m => gopen_ok b hb h0 m
  unfold bnV at hop ⊢
  refine Gives_in Try.func51 rfl Try.ntmps51 Try.results51 (by kernel_rfl) (by simp) rfl fun Q hQ => ?_
  (have FX := hx0; repeat' (first | (refine sx ?_ ?_ <;> intro h <;> first | (exfalso; omega) | skip) | (refine g_op ?_; refine g_call ?_; refine g_args ?_; (first | refine s_fn (hop _) ?_ | refine s_fn (hcp _) ?_) <;> try first | omega | assumption) | refine ny ?_ | refine WA_block ?_))
  all_goals (try (exfalso; omega))
  all_goals ((refine r_es hQ ?_; try with_reducible rfl))

theorem gSums_bad (b : BnR) (hb : Bl b) (h0 : bnErr b ≠ 0) (l : List (List StR)) (m : Mem) : Gives Try.prog 46 [.agg (bnV b), .lst (plV l)] m (.tup [.nilsl, .int .i64 0, .int .i64 (bnErr b)]) := by
  have hx0 := h0
  have hcp := h0
  have hop := fun m => gopen_bad b hb h0 m
  unfold bnV at hop ⊢
  refine Gives_in Try.func46 rfl Try.ntmps46 Try.results46 (by kernel_rfl) (by simp) rfl fun Q hQ => ?_
  (have FX := hx0; repeat' (first | (refine sx ?_ ?_ <;> intro h <;> first | (exfalso; omega) | skip) | (refine g_op ?_; refine g_call ?_; refine g_args ?_; (first | refine s_fn (hop _) ?_ | refine s_fn (hcp _) ?_) <;> try first | omega | assumption) | refine ny ?_ | refine WA_block ?_))
  all_goals (try (exfalso; omega))
  all_goals ((refine r_es hQ ?_; try with_reducible rfl))
theorem gSums_ok (b : BnR) (hb : Bl b) (h0 : bnErr b = 0) (l : List (List StR)) (m : Mem) : Gives Try.prog 46 [.agg (bnV b), .lst (plV l)] m (.tup [.lst (nsV (smS b l)), .int .i64 (smN b l), .int .i64 (smE b l)]) := by
  have hx0 := h0
  have hk := bn_ok h0
  have hcp := fun m => gsums_c b (bnd_ok hk) (ok_af hk) l m
  have hop := fun m => gopen_ok b hb h0 m
  unfold bnV at hop ⊢
  refine CallA_in Try.func46 rfl Try.ntmps46 Try.results46 (by kernel_rfl) (by simp) fun Q hQ => ?_
  (have FX := hx0; repeat' (first | (refine sx ?_ ?_ <;> intro h <;> first | (exfalso; omega) | skip) | (refine g_op ?_; refine g_call ?_; refine g_args ?_; (first | refine s_fn (hop _) ?_ | refine s_fn (hcp _) ?_) <;> try first | omega | assumption) | refine ny ?_ | refine WA_block ?_))
  all_goals (try (exfalso; omega))
  all_goals (refine r_esA hQ (fin_lii (nsV_plain _) ⟨rfl, rfl⟩))

theorem gCheckPlan_bad (b : BnR) (hb : Bl b) (h0 : bnErr b ≠ 0) (l : List (List StR)) (m : Mem) : Gives Try.prog 48 [.agg (bnV b), .lst (plV l)] m (.tup [.int .i64 0, .int .i64 (bnErr b)]) := by
  have hx0 := h0
  have hcp := h0
  have hop := fun m => gopen_bad b hb h0 m
  unfold bnV at hop ⊢
  refine Gives_in Try.func48 rfl Try.ntmps48 Try.results48 (by kernel_rfl) (by simp) rfl fun Q hQ => ?_
  (have FX := hx0; repeat' (first | (refine sx ?_ ?_ <;> intro h <;> first | (exfalso; omega) | skip) | (refine g_op ?_; refine g_call ?_; refine g_args ?_; (first | refine s_fn (hop _) ?_ | refine s_fn (hcp _) ?_) <;> try first | omega | assumption) | refine ny ?_ | refine WA_block ?_))
  all_goals (try (exfalso; omega))
  all_goals ((refine r_es hQ ?_; try with_reducible rfl))
theorem gCheckPlan_ok (b : BnR) (hb : Bl b) (h0 : bnErr b = 0) (l : List (List StR)) (m : Mem) : Gives Try.prog 48 [.agg (bnV b), .lst (plV l)] m (.tup [.int .i64 (cpN b l), .int .i64 (cpE b l)]) := by
  have hx0 := h0
  have hk := bn_ok h0
  have hbd := bnd_ok hk
  have hcp := fun m => gsums_c b hbd (ok_af hk) l m
  have hop := fun m => gopen_ok b hb h0 m
  have hbk := hx0
  have hok := fun h => smS_ok hbd (pl := l) h
  unfold cpN cpE
  unfold bnV at hop ⊢
  generalize smE b l = e at *
  generalize smN b l = n at *
  generalize smS b l = s at *
  by_cases he : e = 0
  · have hok := hok he
    have hbk := fun m => gbroken_c b s m
    rw [if_neg (by omega), if_neg (by omega)]
    refine Gives_in Try.func48 rfl Try.ntmps48 Try.results48 (by kernel_rfl) (by simp) rfl fun Q hQ => ?_
    (have FX := hx0; repeat' (first | (refine sx ?_ ?_ <;> intro h <;> first | (exfalso; omega) | skip) | (refine g_op ?_; refine g_call ?_; refine g_args ?_; (first | refine s_fn (hop _) ?_ | refine s_fn (hcp _) ?_ | refine s_fn (hbk _) ?_) <;> try first | omega | assumption) | refine ny ?_ | refine WA_block ?_))
    all_goals (try (exfalso; omega))
    refine WA_rfA (fun m' => brkP b s b.ms.length = [] ∧ ∃ X, m' = lend m ++ [.cells .own 25 2 [[.lst (mssV b.ms), .lst (adsV b.ads)]], .cells .own 3 1 [[.int .i64 0]], .cells .own 29 1 [[.int .i64 0]], .dead] ++ X) (fun c m' => c = .ret ∧ brkP b s b.ms.length ≠ [] ∧ ∃ X, m' = lend m ++ [.cells .own 25 2 [[.lst (mssV b.ms), .lst (adsV b.ads)]], .cells .own 3 1 [[.int .i64 ((brkP b s b.ms.length).getD 0 0 : Nat)]], .cells .own 29 1 [[.int .i64 26]], .dead] ++ X) (fun lp LB LL LD hY => ?_) (fun m' hm => ?_) (fun c m' hm => ?_)
    · refine gbroken1_stop b hbd s hok.1 (steps_bd hbd hok.2) lp _ _ ?_ ?_
      · intro h
        exact ⟨_, rfl, .inl ⟨by simp, h, [], by simp⟩⟩
      · intro i hi h0 h1 x
        have hne := brk_ne hi h1
        have hf := brk_first hi h0 h1
        have hsp : (lend m ++ [Blk.cells .own 25 2 [[.lst (mssV b.ms), .lst (adsV b.ads)]], .cells .own 3 1 [[.int .i64 0]], .cells .own 29 1 [[.int .i64 0]]]) ++ [LB] ++ [x] = (lend m ++ [Blk.cells .own 25 2 [[.lst (mssV b.ms), .lst (adsV b.ads)]], .cells .own 3 1 [[.int .i64 0]], .cells .own 29 1 [[.int .i64 0]]]) ++ LB :: [x] := by simp
        rw [hsp]
        refine hY _ _ _ _ rfl ?_
        simp only [setPs, List.append_assoc, List.cons_append, List.nil_append]
        (have FX := hx0; repeat' (first | (refine sx ?_ ?_ <;> intro h <;> first | (exfalso; omega) | skip) | (refine g_op ?_; refine g_call ?_; refine g_args ?_; (first | refine s_fn (hop _) ?_ | refine s_fn (hcp _) ?_ | refine s_fn (hbk _) ?_) <;> try first | omega | assumption) | refine ny ?_ | refine WA_block ?_))
        refine ⟨rfl, by simp, ?_⟩
        (have FX := hx0; repeat' (first | (refine sx ?_ ?_ <;> intro h <;> first | (exfalso; omega) | skip) | (refine g_op ?_; refine g_call ?_; refine g_args ?_; (first | refine s_fn (hop _) ?_ | refine s_fn (hcp _) ?_ | refine s_fn (hbk _) ?_) <;> try first | omega | assumption) | refine ny ?_ | refine WA_block ?_))
        refine rndQ_ret (A := lend m ++ [Blk.cells .own 25 2 [[.lst (mssV b.ms), .lst (adsV b.ads)]], .cells .own 3 1 [[.int .i64 i]], .cells .own 29 1 [[.int .i64 26]]]) (X := [x]) (by simp) (by simp) ?_
        exact ⟨rfl, _, rfl, _, rfl, .inr ⟨.ret, by simp, rfl, hne, [x], by rw [hf]; simp⟩⟩
    · obtain ⟨h0, X, rfl⟩ := hm
      rw [h0, if_neg (by simp)] at hQ
      simp only [List.append_assoc, List.cons_append, List.nil_append]
      (have FX := hx0; repeat' (first | (refine sx ?_ ?_ <;> intro h <;> first | (exfalso; omega) | skip) | (refine g_op ?_; refine g_call ?_; refine g_args ?_; (first | refine s_fn (hop _) ?_ | refine s_fn (hcp _) ?_ | refine s_fn (hbk _) ?_) <;> try first | omega | assumption) | refine ny ?_ | refine WA_block ?_))
      all_goals ((refine r_es hQ ?_; try with_reducible rfl))
      all_goals rfl
    · obtain ⟨rfl, h0, X, rfl⟩ := hm
      rw [if_pos h0] at hQ
      simp only [List.append_assoc, List.cons_append, List.nil_append]
      (have FX := hx0; repeat' (first | (refine sx ?_ ?_ <;> intro h <;> first | (exfalso; omega) | skip) | (refine g_op ?_; refine g_call ?_; refine g_args ?_; (first | refine s_fn (hop _) ?_ | refine s_fn (hcp _) ?_ | refine s_fn (hbk _) ?_) <;> try first | omega | assumption) | refine ny ?_ | refine WA_block ?_))
      all_goals ((refine r_es hQ ?_; try with_reducible rfl))
  · rw [if_pos (by omega), if_pos (by omega)]
    refine Gives_in Try.func48 rfl Try.ntmps48 Try.results48 (by kernel_rfl) (by simp) rfl fun Q hQ => ?_
    (have FX := hx0; repeat' (first | (refine sx ?_ ?_ <;> intro h <;> first | (exfalso; omega) | skip) | (refine g_op ?_; refine g_call ?_; refine g_args ?_; (first | refine s_fn (hop _) ?_ | refine s_fn (hcp _) ?_ | refine s_fn (hbk _) ?_) <;> try first | omega | assumption) | refine ny ?_ | refine WA_block ?_))
    all_goals (try (exfalso; omega))
    all_goals ((refine r_es hQ ?_; try with_reducible rfl))
end Go.Proofs.Ytaoakololkcepaa
