/- the law RegulationDisturbs, over contracts -/
import Derived.Test.YtaoakololkcepaaB67
import Derived.Test.YtaoakololkcepaaB68
import Derived.Test.YtaoakololkcepaaB33
set_option linter.unusedSimpArgs false
set_option linter.unusedVariables false
namespace Go.Proofs.Ytaoakololkcepaa
open Go.RowKit
attribute [local irreducible] WA WOs WDs WAn qThen qBlock tput
set_option maxHeartbeats 1000000
set_option maxRecDepth 20000
set_option linter.unusedSimpArgs false
set_option linter.unusedVariables false
set_option maxHeartbeats 4000000
theorem uR11_13_15 {N : Nat} {l : List Oper} {t : List (Nat × V)} {m : Mem} {Q : Exit → List (Nat × V) → Mem → Prop} (h : RgN Try.prog N l t m Q (fun i => if i == 3 || i == 7 || i == 8 then .q else .p) [.one 0, .one 1, .one 2, .one 3, .one 4, .one 5, .one 6, .one 7, .one 8]) : WA Try.prog N (.region 15 l.toArray true) t m Q := d_rgN h
theorem disturbs_out (b : BnR) (hout : ¬ light b) (m : Mem) : Gives Try.prog 13 [.agg (bnV b)] m (.bool true) := by
  unfold bnV
  refine Gives_in Try.func13 rfl Try.ntmps13 Try.results13 (by kernel_rfl) (by simp) rfl fun Q hQ => ?_
  (repeat' (first | (refine sx ?_ ?_ <;> intro h <;> first | (exfalso; omega) | skip) | (refine g_op ?_; refine g_call ?_; refine g_args ?_; (first | refine s_fn (lawake_c _) ?_ | refine s_fn (llight_c _ _) ?_) <;> try first | omega | assumption) | refine ny ?_ | refine WA_block ?_ | (refine uR11_13_15 ?_; refine ⟨by kernel_rfl, ?_⟩) | ((first | refine grp_cons (fun _ => lawake_c _) ?_ | refine grp_cons (fun _ => llight_c _ _) ?_) <;> try first | omega | assumption) | (refine g_d ?_; refine d_args ?_; (first | refine d_fn (lawake_c _) ?_ | refine d_fn (llight_c _ _) ?_ | refine d_fnQ (fun _ => lawake_c _) ?_ | refine d_fnQ (fun _ => llight_c _ _) ?_) <;> try first | omega | assumption) | (refine g_d ?_; (first | refine d_fnY (lawake_c _) ?_ | refine d_fnY (llight_c _ _) ?_) <;> try first | omega | assumption)))
  all_goals (try (exfalso; first | exact hout (by assumption) | omega))
  all_goals (refine r_es hQ ?_; try with_reducible rfl)
theorem disturbs_bad (b : BnR) (hL : light b) (h0 : bnErr b ≠ 0) (m : Mem) : Gives Try.prog 13 [.agg (bnV b)] m (.bool true) := by
  have hb := light_bl hL
  have hlm := mssV_length (l := b.ms)
  have hli := fun m => llight_c b m
  rw [decide_eq_true hL] at hli
  have hcp := fun m => rcopy_c b hb m
  have hcb := fun m => rcheckbench_c b hb m
  have hdi := fun m => gDisturbs_bad b hb h0 m
  unfold bnV at hdi ⊢
  generalize bnErr b = c at *
  refine Gives_in Try.func13 rfl Try.ntmps13 Try.results13 (by kernel_rfl) (by simp) rfl fun Q hQ => ?_
  (have FX := hlm; repeat' (first | (refine sx ?_ ?_ <;> intro h <;> first | (exfalso; omega) | skip) | (refine g_op ?_; refine g_call ?_; refine g_args ?_; (first | refine s_fn (lawake_c _) ?_ | refine s_fn (hli _) ?_ | refine s_fn (hcp _) ?_ | refine s_fn (hdi _) ?_ | refine s_fn (hcb _) ?_) <;> try first | omega | assumption) | refine ny ?_ | refine WA_block ?_ | (refine uR11_13_15 ?_; refine ⟨by kernel_rfl, ?_⟩) | ((first | refine grp_cons (fun _ => lawake_c _) ?_ | refine grp_cons (fun _ => hli _) ?_ | refine grp_cons (fun _ => hcp _) ?_ | refine grp_cons (fun _ => hdi _) ?_ | refine grp_cons (fun _ => hcb _) ?_) <;> try first | omega | assumption) | (refine g_d ?_; refine d_args ?_; (first | refine d_fn (lawake_c _) ?_ | refine d_fn (hli _) ?_ | refine d_fn (hcp _) ?_ | refine d_fn (hdi _) ?_ | refine d_fn (hcb _) ?_ | refine d_fnQ (fun _ => lawake_c _) ?_ | refine d_fnQ (fun _ => hli _) ?_ | refine d_fnQ (fun _ => hcp _) ?_ | refine d_fnQ (fun _ => hdi _) ?_ | refine d_fnQ (fun _ => hcb _) ?_) <;> try first | omega | assumption) | (refine g_d ?_; (first | refine d_fnY (lawake_c _) ?_ | refine d_fnY (hli _) ?_ | refine d_fnY (hcp _) ?_ | refine d_fnY (hdi _) ?_ | refine d_fnY (hcb _) ?_) <;> try first | omega | assumption)))
  all_goals (try (exfalso; omega))
  all_goals (refine r_es hQ ?_; try with_reducible rfl)
theorem disturbs_ok (b : BnR) (hL : light b) (h0 : bnErr b = 0) (m : Mem) : Gives Try.prog 13 [.agg (bnV b)] m (.bool true) := by
  have hb := light_bl hL
  have hok := bn_ok h0
  have hli := fun m => llight_c b m
  rw [decide_eq_true hL] at hli
  have h4 : b.ads.length ≤ 4 := by
    have h1 := hL.1
    have h2 := hok.fa
    unfold lenL at h1
    omega
  have hcp := fun m => rcopy_c b hb m
  have hcb := fun m => rcheckbench_c b hb m
  rw [h0] at hcb
  have hdi := fun m => gDisturbs_ok b hb h0 h4 m
  have hrd := fun m => rDisturbs_c b hok m
  have hbd := dqK_len b (ordB b.ads) (ordB b.ads).length
  have hol := ordB_len b.ads
  have hbd2 : (dqK b (ordB b.ads) (ordB b.ads).length).length ≤ 16 := Nat.le_trans hbd (Nat.mul_le_mul (show _ ≤ 4 by omega) (show _ ≤ 4 by omega))
  clear hbd
  have hln := prsV_length (l := dqK b (ordB b.ads) (ordB b.ads).length)
  have hga := hln
  have hgt := fun i h => prsV_get (l := dqK b (ordB b.ads) (ordB b.ads).length) (i := i) h
  unfold bnV at hdi ⊢
  generalize dqK b (ordB b.ads) (ordB b.ads).length = T at *
  refine Gives_in Try.func13 rfl Try.ntmps13 Try.results13 (by kernel_rfl) (by simp) rfl fun Q hQ => ?_
  (have FX := And.intro hln hga; repeat' (first | (refine sx ?_ ?_ <;> intro h <;> first | (exfalso; omega) | skip) | (refine g_op ?_; refine g_call ?_; refine g_args ?_; (first | refine s_fn (lawake_c _) ?_ | refine s_fn (hli _) ?_ | refine s_fn (hcp _) ?_ | refine s_fn (hdi _) ?_ | refine s_fn (hcb _) ?_ | refine s_fn (hrd _) ?_) <;> try first | omega | assumption) | refine ny ?_ | refine WA_block ?_ | (refine uR11_13_15 ?_; refine ⟨by kernel_rfl, ?_⟩) | ((first | refine grp_cons (fun _ => lawake_c _) ?_ | refine grp_cons (fun _ => hli _) ?_ | refine grp_cons (fun _ => hcp _) ?_ | refine grp_cons (fun _ => hdi _) ?_ | refine grp_cons (fun _ => hcb _) ?_ | refine grp_cons (fun _ => hrd _) ?_) <;> try first | omega | assumption) | (refine g_d ?_; refine d_args ?_; (first | refine d_fn (lawake_c _) ?_ | refine d_fn (hli _) ?_ | refine d_fn (hcp _) ?_ | refine d_fn (hdi _) ?_ | refine d_fn (hcb _) ?_ | refine d_fn (hrd _) ?_ | refine d_fnQ (fun _ => lawake_c _) ?_ | refine d_fnQ (fun _ => hli _) ?_ | refine d_fnQ (fun _ => hcp _) ?_ | refine d_fnQ (fun _ => hdi _) ?_ | refine d_fnQ (fun _ => hcb _) ?_ | refine d_fnQ (fun _ => hrd _) ?_) <;> try first | omega | assumption) | (refine g_d ?_; (first | refine d_fnY (lawake_c _) ?_ | refine d_fnY (hli _) ?_ | refine d_fnY (hcp _) ?_ | refine d_fnY (hdi _) ?_ | refine d_fnY (hcb _) ?_ | refine d_fnY (hrd _) ?_) <;> try first | omega | assumption)))
  all_goals (try (exfalso; omega))
  refine WA_whileK (σ := Nat) [3, 6, 7] (fun i => [.lst (prsV T), .lst (prsV T), .int .i64 i]) (fun _ => [.cells .own 25 2 [[.lst (mssV b.ms), .lst (adsV b.ads)]]]) 1 (fun i => i ≤ T.length) (fun i => T.length - i) 0 (Nat.zero_le _) tv_ rfl (fun _ => rfl) (by intro s s' _ _; simp [conB, conS, V.keeps, V.plain, Blk.flat, flatL, plainL, V.flat]) (by intro s s' _ _; simp [conB, conS, V.keeps, V.plain, Blk.flat, flatL, plainL, V.flat]) ?_
  rintro i hi1 K hK
  simp only [zipT]
  clear FX hga
  rcases Nat.lt_or_ge i T.length with hi | hi
  · have hga := hgt i hi
    unfold prV at hga
    (have FX := And.intro hln hga; repeat' (first | (refine sx ?_ ?_ <;> intro h <;> first | (exfalso; omega) | skip) | (refine g_op ?_; refine g_call ?_; refine g_args ?_; (first | refine s_fn (lawake_c _) ?_ | refine s_fn (hli _) ?_ | refine s_fn (hcp _) ?_ | refine s_fn (hdi _) ?_ | refine s_fn (hcb _) ?_ | refine s_fn (hrd _) ?_) <;> try first | omega | assumption) | refine ny ?_ | refine WA_block ?_ | (refine uR11_13_15 ?_; refine ⟨by kernel_rfl, ?_⟩) | ((first | refine grp_cons (fun _ => lawake_c _) ?_ | refine grp_cons (fun _ => hli _) ?_ | refine grp_cons (fun _ => hcp _) ?_ | refine grp_cons (fun _ => hdi _) ?_ | refine grp_cons (fun _ => hcb _) ?_ | refine grp_cons (fun _ => hrd _) ?_) <;> try first | omega | assumption) | (refine g_d ?_; refine d_args ?_; (first | refine d_fn (lawake_c _) ?_ | refine d_fn (hli _) ?_ | refine d_fn (hcp _) ?_ | refine d_fn (hdi _) ?_ | refine d_fn (hcb _) ?_ | refine d_fn (hrd _) ?_ | refine d_fnQ (fun _ => lawake_c _) ?_ | refine d_fnQ (fun _ => hli _) ?_ | refine d_fnQ (fun _ => hcp _) ?_ | refine d_fnQ (fun _ => hdi _) ?_ | refine d_fnQ (fun _ => hcb _) ?_ | refine d_fnQ (fun _ => hrd _) ?_) <;> try first | omega | assumption) | (refine g_d ?_; (first | refine d_fnY (lawake_c _) ?_ | refine d_fnY (hli _) ?_ | refine d_fnY (hcp _) ?_ | refine d_fnY (hdi _) ?_ | refine d_fnY (hcb _) ?_ | refine d_fnY (hrd _) ?_) <;> try first | omega | assumption)))
    all_goals (try (exfalso; first | omega | contradiction))
    all_goals (refine nextL_ hK (i + 1) hi (by omega))
  · obtain rfl : i = T.length := by omega
    have hga := hln
    (have FX := And.intro hln hga; repeat' (first | (refine sx ?_ ?_ <;> intro h <;> first | (exfalso; omega) | skip) | (refine g_op ?_; refine g_call ?_; refine g_args ?_; (first | refine s_fn (lawake_c _) ?_ | refine s_fn (hli _) ?_ | refine s_fn (hcp _) ?_ | refine s_fn (hdi _) ?_ | refine s_fn (hcb _) ?_ | refine s_fn (hrd _) ?_) <;> try first | omega | assumption) | refine ny ?_ | refine WA_block ?_ | (refine uR11_13_15 ?_; refine ⟨by kernel_rfl, ?_⟩) | ((first | refine grp_cons (fun _ => lawake_c _) ?_ | refine grp_cons (fun _ => hli _) ?_ | refine grp_cons (fun _ => hcp _) ?_ | refine grp_cons (fun _ => hdi _) ?_ | refine grp_cons (fun _ => hcb _) ?_ | refine grp_cons (fun _ => hrd _) ?_) <;> try first | omega | assumption) | (refine g_d ?_; refine d_args ?_; (first | refine d_fn (lawake_c _) ?_ | refine d_fn (hli _) ?_ | refine d_fn (hcp _) ?_ | refine d_fn (hdi _) ?_ | refine d_fn (hcb _) ?_ | refine d_fn (hrd _) ?_ | refine d_fnQ (fun _ => lawake_c _) ?_ | refine d_fnQ (fun _ => hli _) ?_ | refine d_fnQ (fun _ => hcp _) ?_ | refine d_fnQ (fun _ => hdi _) ?_ | refine d_fnQ (fun _ => hcb _) ?_ | refine d_fnQ (fun _ => hrd _) ?_) <;> try first | omega | assumption) | (refine g_d ?_; (first | refine d_fnY (lawake_c _) ?_ | refine d_fnY (hli _) ?_ | refine d_fnY (hcp _) ?_ | refine d_fnY (hdi _) ?_ | refine d_fnY (hcb _) ?_ | refine d_fnY (hrd _) ?_) <;> try first | omega | assumption)))
    all_goals (try (exfalso; omega))
    all_goals (refine r_es hQ ?_; try with_reducible rfl)
theorem disturbs_law (b : BnR) (m : Mem) : Gives Try.prog 13 [.agg (bnV b)] m (.bool true) := by
  by_cases hL : light b
  · by_cases h0 : bnErr b = 0
    · exact disturbs_ok b hL h0 m
    · exact disturbs_bad b hL h0 m
  · exact disturbs_out b hL m
end Go.Proofs.Ytaoakololkcepaa
