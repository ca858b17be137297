/- the law RegulationReach, over contracts -/
import Derived.Test.YtaoakololkcepaaB35
import Derived.Test.YtaoakololkcepaaB33
set_option linter.unusedSimpArgs false
set_option linter.unusedVariables false
namespace Go.Proofs.Ytaoakololkcepaa
open Go.RowKit
attribute [local irreducible] WA WOs WDs WAn qThen qBlock tput
set_option maxHeartbeats 1000000
set_option maxRecDepth 20000
set_option linter.unusedSimpArgs false
set_option linter.unusedVariables false
set_option maxHeartbeats 4000000
theorem uR2_5_14 {N : Nat} {l : List Oper} {t : List (Nat × V)} {m : Mem} {Q : Exit → List (Nat × V) → Mem → Prop} (h : RgN Try.prog N l t m Q (fun i => if i == 3 || i == 4 || i == 6 || i == 7 then .q else .p) [.one 0, .one 1, .one 2, .one 3, .one 4, .one 5, .one 6, .one 7, .one 8, .one 9]) : WA Try.prog N (.region 14 l.toArray true) t m Q := d_rgN h
theorem reach_out (b : BnR) (i : Int) (hout : ¬ light b) (m : Mem) : Gives Try.prog 5 [.agg (bnV b), .int .i64 i] m (.bool true) := by
  unfold bnV
  refine Gives_in Try.func5 rfl Try.ntmps5 Try.results5 (by kernel_rfl) (by simp) rfl fun Q hQ => ?_
  (repeat' (first | (refine sx ?_ ?_ <;> intro h <;> first | (exfalso; omega) | skip) | (refine g_op ?_; refine g_call ?_; refine g_args ?_; (first | refine s_fn (lawake_c _) ?_ | refine s_fn (llight_c _ _) ?_) <;> try first | omega | assumption) | refine ny ?_ | refine WA_block ?_ | (refine uR2_5_14 ?_; refine ⟨by kernel_rfl, ?_⟩) | ((first | refine grp_cons (fun _ => lawake_c _) ?_ | refine grp_cons (fun _ => llight_c _ _) ?_) <;> try first | omega | assumption) | (refine g_d ?_; refine d_args ?_; (first | refine d_fn (lawake_c _) ?_ | refine d_fn (llight_c _ _) ?_ | refine d_fnQ (fun _ => lawake_c _) ?_ | refine d_fnQ (fun _ => llight_c _ _) ?_) <;> try first | omega | assumption) | (refine g_d ?_; (first | refine d_fnY (lawake_c _) ?_ | refine d_fnY (llight_c _ _) ?_) <;> try first | omega | assumption)))
  all_goals (try (exfalso; first | exact hout (by assumption) | omega))
  all_goals (refine r_es hQ ?_; try with_reducible rfl)
theorem reach_bad (b : BnR) (i : Int) (hL : light b) (h0 : bnErr b ≠ 0) (m : Mem) : Gives Try.prog 5 [.agg (bnV b), .int .i64 i] m (.bool true) := by
  have hb := light_bl hL
  have hlm := mssV_length (l := b.ms)
  have hli := fun m => llight_c b m
  rw [decide_eq_true hL] at hli
  have hcp := fun m => rcopy_c b hb m
  have hcb := fun m => rcheckbench_c b hb m
  have hre := fun m => gReach_bad b hb h0 i m
  have hou := fun m => gOut_bad b hb h0 m
  unfold bnV at hre hou ⊢
  generalize bnErr b = c at *
  refine Gives_in Try.func5 rfl Try.ntmps5 Try.results5 (by kernel_rfl) (by simp) rfl fun Q hQ => ?_
  (have FX := hlm; repeat' (first | (refine sx ?_ ?_ <;> intro h <;> first | (exfalso; omega) | skip) | (refine g_op ?_; refine g_call ?_; refine g_args ?_; (first | refine s_fn (lawake_c _) ?_ | refine s_fn (hli _) ?_ | refine s_fn (hcp _) ?_ | refine s_fn (hre _) ?_ | refine s_fn (hou _) ?_ | refine s_fn (hcb _) ?_) <;> try first | omega | assumption) | refine ny ?_ | refine WA_block ?_ | (refine uR2_5_14 ?_; refine ⟨by kernel_rfl, ?_⟩) | ((first | refine grp_cons (fun _ => lawake_c _) ?_ | refine grp_cons (fun _ => hli _) ?_ | refine grp_cons (fun _ => hcp _) ?_ | refine grp_cons (fun _ => hre _) ?_ | refine grp_cons (fun _ => hou _) ?_ | refine grp_cons (fun _ => hcb _) ?_) <;> try first | omega | assumption) | (refine g_d ?_; refine d_args ?_; (first | refine d_fn (lawake_c _) ?_ | refine d_fn (hli _) ?_ | refine d_fn (hcp _) ?_ | refine d_fn (hre _) ?_ | refine d_fn (hou _) ?_ | refine d_fn (hcb _) ?_ | refine d_fnQ (fun _ => lawake_c _) ?_ | refine d_fnQ (fun _ => hli _) ?_ | refine d_fnQ (fun _ => hcp _) ?_ | refine d_fnQ (fun _ => hre _) ?_ | refine d_fnQ (fun _ => hou _) ?_ | refine d_fnQ (fun _ => hcb _) ?_) <;> try first | omega | assumption) | (refine g_d ?_; (first | refine d_fnY (lawake_c _) ?_ | refine d_fnY (hli _) ?_ | refine d_fnY (hcp _) ?_ | refine d_fnY (hre _) ?_ | refine d_fnY (hou _) ?_ | refine d_fnY (hcb _) ?_) <;> try first | omega | assumption)))
  all_goals (try (exfalso; omega))
  all_goals (refine r_es hQ ?_; try with_reducible rfl)
theorem bints_r (l : List Nat) (hl : l.length ≤ 100000) (m : Mem) : Gives Try.prog 23 [.lst (nuV l), .lst (nuV l)] m (.bool true) := by
  have e : nuV l = nsV (l.map fun (n : Nat) => (n : Int)) := by simp [nuV, nsV, Function.comp_def]
  have h := bints_c (l.map fun (n : Nat) => (n : Int)) (l.map fun (n : Nat) => (n : Int)) (by rw [List.length_map]; exact hl) m
  rw [e]
  rwa [decide_eq_true rfl] at h
theorem reach_range (b : BnR) (i : Int) (hL : light b) (h0 : bnErr b = 0) (hi : ¬ (0 ≤ i ∧ i ≤ (b.ms.length : Int) - 1)) (m : Mem) : Gives Try.prog 5 [.agg (bnV b), .int .i64 i] m (.bool true) := by
  have hb := light_bl hL
  have hok := bn_ok h0
  have hbd := bnd_ok hok
  have hfm := hbd.fm
  have hef : ∀ k, k < b.ads.length → (b.ads.getD k adz).effs.length ≤ 1000 := fun k hk => by have := (ad_ok (hok.ae k hk)).fe; omega
  have hlm := mssV_length (l := b.ms)
  have hli := fun m => llight_c b m
  rw [decide_eq_true hL] at hli
  have hcp := fun m => rcopy_c b hb m
  have hcb := fun m => rcheckbench_c b hb m
  rw [h0] at hcb
  have hre := fun m => gReach_out b hb h0 i hi m
  have hou := fun m => gOut_ok b hb h0 m
  have hro := fun m => rout_c b hbd hef m
  have hol := outP_le b b.ms.length
  have hbi := fun m => bints_r (outP b b.ms.length) (by omega) m
  have hrr := hlm
  unfold bnV at hre hou ⊢
  generalize outP b b.ms.length = out at *
  refine Gives_in Try.func5 rfl Try.ntmps5 Try.results5 (by kernel_rfl) (by simp) rfl fun Q hQ => ?_
  (have FX := hlm; repeat' (first | (refine sx ?_ ?_ <;> intro h <;> first | (exfalso; omega) | skip) | (refine g_op ?_; refine g_call ?_; refine g_args ?_; (first | refine s_fn (lawake_c _) ?_ | refine s_fn (hli _) ?_ | refine s_fn (hcp _) ?_ | refine s_fn (hre _) ?_ | refine s_fn (hou _) ?_ | refine s_fn (hcb _) ?_ | refine s_fn (hro _) ?_ | refine s_fn (hbi _) ?_ | refine s_fn (bwithin_c _ _ _ _) ?_ | refine s_fn (hrr _) ?_) <;> try first | omega | assumption) | refine ny ?_ | refine WA_block ?_ | (refine uR2_5_14 ?_; refine ⟨by kernel_rfl, ?_⟩) | ((first | refine grp_cons (fun _ => lawake_c _) ?_ | refine grp_cons (fun _ => hli _) ?_ | refine grp_cons (fun _ => hcp _) ?_ | refine grp_cons (fun _ => hre _) ?_ | refine grp_cons (fun _ => hou _) ?_ | refine grp_cons (fun _ => hcb _) ?_ | refine grp_cons (fun _ => hro _) ?_ | refine grp_cons (fun _ => hbi _) ?_ | refine grp_cons (fun _ => bwithin_c _ _ _ _) ?_ | refine grp_cons (fun _ => hrr _) ?_) <;> try first | omega | assumption) | (refine g_d ?_; refine d_args ?_; (first | refine d_fn (lawake_c _) ?_ | refine d_fn (hli _) ?_ | refine d_fn (hcp _) ?_ | refine d_fn (hre _) ?_ | refine d_fn (hou _) ?_ | refine d_fn (hcb _) ?_ | refine d_fn (hro _) ?_ | refine d_fn (hbi _) ?_ | refine d_fn (bwithin_c _ _ _ _) ?_ | refine d_fn (hrr _) ?_ | refine d_fnQ (fun _ => lawake_c _) ?_ | refine d_fnQ (fun _ => hli _) ?_ | refine d_fnQ (fun _ => hcp _) ?_ | refine d_fnQ (fun _ => hre _) ?_ | refine d_fnQ (fun _ => hou _) ?_ | refine d_fnQ (fun _ => hcb _) ?_ | refine d_fnQ (fun _ => hro _) ?_ | refine d_fnQ (fun _ => hbi _) ?_ | refine d_fnQ (fun _ => bwithin_c _ _ _ _) ?_ | refine d_fnQ (fun _ => hrr _) ?_) <;> try first | omega | assumption) | (refine g_d ?_; (first | refine d_fnY (lawake_c _) ?_ | refine d_fnY (hli _) ?_ | refine d_fnY (hcp _) ?_ | refine d_fnY (hre _) ?_ | refine d_fnY (hou _) ?_ | refine d_fnY (hcb _) ?_ | refine d_fnY (hro _) ?_ | refine d_fnY (hbi _) ?_ | refine d_fnY (bwithin_c _ _ _ _) ?_ | refine d_fnY (hrr _) ?_) <;> try first | omega | assumption)))
  all_goals (try (exfalso; omega))
  all_goals (refine r_es hQ ?_; try with_reducible rfl)
theorem reach_ok (b : BnR) (i : Nat) (hL : light b) (h0 : bnErr b = 0) (hi : i < b.ms.length) (m : Mem) : Gives Try.prog 5 [.agg (bnV b), .int .i64 i] m (.bool true) := by
  have hb := light_bl hL
  have hok := bn_ok h0
  have hbd := bnd_ok hok
  have hfm := hbd.fm
  have hef : ∀ k, k < b.ads.length → (b.ads.getD k adz).effs.length ≤ 1000 := fun k hk => by have := (ad_ok (hok.ae k hk)).fe; omega
  have hlm := mssV_length (l := b.ms)
  have hli := fun m => llight_c b m
  rw [decide_eq_true hL] at hli
  have hcp := fun m => rcopy_c b hb m
  have hcb := fun m => rcheckbench_c b hb m
  rw [h0] at hcb
  have hre := fun m => gReach_ok b hb h0 i hi m
  have hrr := fun m => rreach_c b hbd hef i hi m
  have hou := fun m => gOut_ok b hb h0 m
  have hro := fun m => rout_c b hbd hef m
  have hol := outP_le b b.ms.length
  have hbi := fun m => bints_r (outP b b.ms.length) (by omega) m
  unfold bnV at hre hou ⊢
  generalize outP b b.ms.length = out at *
  generalize rcL b i b.ads.length = lo at *
  generalize rcH b i b.ads.length = hi' at *
  refine Gives_in Try.func5 rfl Try.ntmps5 Try.results5 (by kernel_rfl) (by simp) rfl fun Q hQ => ?_
  (have FX := hlm; repeat' (first | (refine sx ?_ ?_ <;> intro h <;> first | (exfalso; omega) | skip) | (refine g_op ?_; refine g_call ?_; refine g_args ?_; (first | refine s_fn (lawake_c _) ?_ | refine s_fn (hli _) ?_ | refine s_fn (hcp _) ?_ | refine s_fn (hre _) ?_ | refine s_fn (hou _) ?_ | refine s_fn (hcb _) ?_ | refine s_fn (hro _) ?_ | refine s_fn (hbi _) ?_ | refine s_fn (bwithin_c _ _ _ _) ?_ | refine s_fn (hrr _) ?_) <;> try first | omega | assumption) | refine ny ?_ | refine WA_block ?_ | (refine uR2_5_14 ?_; refine ⟨by kernel_rfl, ?_⟩) | ((first | refine grp_cons (fun _ => lawake_c _) ?_ | refine grp_cons (fun _ => hli _) ?_ | refine grp_cons (fun _ => hcp _) ?_ | refine grp_cons (fun _ => hre _) ?_ | refine grp_cons (fun _ => hou _) ?_ | refine grp_cons (fun _ => hcb _) ?_ | refine grp_cons (fun _ => hro _) ?_ | refine grp_cons (fun _ => hbi _) ?_ | refine grp_cons (fun _ => bwithin_c _ _ _ _) ?_ | refine grp_cons (fun _ => hrr _) ?_) <;> try first | omega | assumption) | (refine g_d ?_; refine d_args ?_; (first | refine d_fn (lawake_c _) ?_ | refine d_fn (hli _) ?_ | refine d_fn (hcp _) ?_ | refine d_fn (hre _) ?_ | refine d_fn (hou _) ?_ | refine d_fn (hcb _) ?_ | refine d_fn (hro _) ?_ | refine d_fn (hbi _) ?_ | refine d_fn (bwithin_c _ _ _ _) ?_ | refine d_fn (hrr _) ?_ | refine d_fnQ (fun _ => lawake_c _) ?_ | refine d_fnQ (fun _ => hli _) ?_ | refine d_fnQ (fun _ => hcp _) ?_ | refine d_fnQ (fun _ => hre _) ?_ | refine d_fnQ (fun _ => hou _) ?_ | refine d_fnQ (fun _ => hcb _) ?_ | refine d_fnQ (fun _ => hro _) ?_ | refine d_fnQ (fun _ => hbi _) ?_ | refine d_fnQ (fun _ => bwithin_c _ _ _ _) ?_ | refine d_fnQ (fun _ => hrr _) ?_) <;> try first | omega | assumption) | (refine g_d ?_; (first | refine d_fnY (lawake_c _) ?_ | refine d_fnY (hli _) ?_ | refine d_fnY (hcp _) ?_ | refine d_fnY (hre _) ?_ | refine d_fnY (hou _) ?_ | refine d_fnY (hcb _) ?_ | refine d_fnY (hro _) ?_ | refine d_fnY (hbi _) ?_ | refine d_fnY (bwithin_c _ _ _ _) ?_ | refine d_fnY (hrr _) ?_) <;> try first | omega | assumption)))
  all_goals (try (exfalso; omega))
  all_goals (refine r_es hQ ?_; try with_reducible rfl)
theorem reach_law (b : BnR) (i : Int) (m : Mem) : Gives Try.prog 5 [.agg (bnV b), .int .i64 i] m (.bool true) := by
  by_cases hL : light b
  · by_cases h0 : bnErr b = 0
    · by_cases hi : 0 ≤ i ∧ i ≤ (b.ms.length : Int) - 1
      · have h := reach_ok b i.toNat hL h0 (by omega) m
        rwa [show ((i.toNat : Nat) : Int) = i by omega] at h
      · exact reach_range b i hL h0 hi m
    · exact reach_bad b i hL h0 m
  · exact reach_out b i hL m
end Go.Proofs.Ytaoakololkcepaa
