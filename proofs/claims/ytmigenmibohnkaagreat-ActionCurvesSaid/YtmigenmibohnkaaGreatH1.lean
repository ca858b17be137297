/- the law ActionCurves, over contracts -/
import Derived.Test.YtmigenmibohnkaaGreatC39
import Derived.Test.YtmigenmibohnkaaGreatC6
set_option linter.unusedSimpArgs false
set_option linter.unusedVariables false
namespace Go.Proofs.YtmigenmibohnkaaGreat
open Go.RowKit
attribute [local irreducible] WA WOs WDs WAn qThen qBlock tput
set_option maxHeartbeats 1000000
set_option maxRecDepth 20000
set_option linter.unusedSimpArgs false
set_option linter.unusedVariables false
attribute [local irreducible] smB cut sm
theorem curves_out (l : List Rk) (n d : Int) (hout : ¬ (few l 12 ∧ sane n d)) (m : Mem) : Gives Tryz.prog 3 [.agg [.lst (rksV l)], .agg [.int .i64 n, .int .i64 d]] m (.bool true) := by
  refine Gives_in Tryz.func3 rfl Tryz.ntmps3 Tryz.results3 (by kernel_rfl) (by simp) rfl fun Q hQ => ?_
  (repeat' (first | refine s_tp ?_ | refine s_tn ?_ | refine d_tp ?_ | refine d_tn ?_ | ((first | apply WOs_splitD | apply WOs_splitN | apply WDs_splitD | apply WDs_splitN) <;> intro h <;> first | (exfalso; omega) | skip) | (refine g_op ?_; first | (refine g_call ?_; refine g_args ?_; first | ((first | refine s_fn (lawake_c _) ?_ | refine s_fn (lfew_c _ _ _) ?_ | refine s_fn (lsane_d _ _ _) ?_) <;> try first | omega | assumption) | fail) | refine s_mv ?_ | refine s_as ?_ | refine s_bin ?_ | refine s_ld ?_ | refine s_ia ?_ | refine s_fa ?_ | refine s_fd ?_ | refine s_ix ?_ | refine s_un ?_ | refine s_op ?_) | refine nx ?_ | refine WA_block ?_ | (refine d_raw (id := 5) ?_; refine ⟨fun i => if i == 8 then .f else if i == 1 || i == 3 || i == 7 then .a else if i == 0 || i == 2 then .q else .p, [.one 0, .one 2, .grp [1, 3] [7], .one 4, .one 5, .one 6, .one 8, .one 9], by kernel_rfl, ?_⟩) | (refine d_raw (id := 6) ?_; refine ⟨fun i => if i == 8 then .f else if i == 1 || i == 3 || i == 7 then .a else if i == 0 || i == 2 then .q else .p, [.one 0, .one 2, .grp [1, 3] [7], .one 4, .one 5, .one 6, .one 8, .one 9], by kernel_rfl, ?_⟩) | (refine d_raw (id := 14) ?_; refine ⟨fun i => if i == 3 || i == 4 || i == 5 || i == 6 || i == 7 then .q else .p, [.one 0, .one 1, .one 2, .one 3, .one 4, .one 5, .one 6, .one 7, .one 8], by kernel_rfl, ?_⟩) | ((first | refine grp_cons (fun _ => lawake_c _) ?_ | refine grp_cons (fun _ => lfew_c _ _ _) ?_ | refine grp_cons (fun _ => lsane_d _ _ _) ?_) <;> try first | omega | assumption) | (refine g_d ?_; first | (refine d_args ?_; first | ((first | refine d_fn (lawake_c _) ?_ | refine d_fn (lfew_c _ _ _) ?_ | refine d_fn (lsane_d _ _ _) ?_ | refine d_fnQ (fun _ => lawake_c _) ?_ | refine d_fnQ (fun _ => lfew_c _ _ _) ?_ | refine d_fnQ (fun _ => lsane_d _ _ _) ?_) <;> try first | omega | assumption) | fail) | ((first | refine d_fnY (lawake_c _) ?_ | refine d_fnY (lfew_c _ _ _) ?_ | refine d_fnY (lsane_d _ _ _) ?_) <;> try first | omega | assumption) | refine d_op ?_)))
  all_goals (try (exfalso; first | exact hout ⟨by assumption, by assumption⟩ | omega))
  all_goals (refine r_es hQ ?_; try with_reducible rfl)
theorem curves_err (l : List Rk) (n d : Int) (hf : few l 12) (hs : sane n d) (h : atE l n d ≠ 0) (m : Mem) : Gives Tryz.prog 3 [.agg [.lst (rksV l)], .agg [.int .i64 n, .int .i64 d]] m (.bool true) := by
  obtain ⟨hB, hl⟩ := few_b hf
  obtain ⟨b1, b2⟩ := sane_b hs
  have hfw := fun m => lfew_c l 12 m
  rw [decide_eq_true hf] at hfw
  have hsn := fun m => lsane_d n d m
  rw [decide_eq_true hs] at hsn
  have hcu := fun m => lcurve_c l (by omega) m
  have hva := fun m => avalue_c l hB n d b1 b2 m
  have hsl := fun m => aslope_c l hB n d b1 b2 m
  have hrc := fun m => rcheckcurve_c l hB m
  have hac := fun m => acheckcurve_c l hB m
  have hrf := fun m => rcheckfrac_c n d b1 b2 m
  unfold valR at hva
  unfold slpR at hsl
  rw [if_pos h] at hva hsl
  simp only [rchV, frO] at hva hsl
  by_cases h1 : cuErr l = 0
  · have he : atE l n d = frErr n d := by unfold atE; rw [if_neg (by omega)]
    rw [he] at hva hsl h
    rw [h1] at hrc hac
    have hx0 := h
    refine Gives_in Tryz.func3 rfl Tryz.ntmps3 Tryz.results3 (by kernel_rfl) (by simp) rfl fun Q hQ => ?_
    (have FX := hx0; repeat' (first | refine s_tp ?_ | refine s_tn ?_ | refine d_tp ?_ | refine d_tn ?_ | ((first | apply WOs_splitD | apply WOs_splitN | apply WDs_splitD | apply WDs_splitN) <;> intro h <;> first | (exfalso; omega) | skip) | (refine g_op ?_; first | (refine g_call ?_; refine g_args ?_; first | ((first | refine s_fn (lawake_c _) ?_ | refine s_fn (hfw _) ?_ | refine s_fn (hsn _) ?_ | refine s_fn (hcu _) ?_ | refine s_fn (hva _) ?_ | refine s_fn (hsl _) ?_ | refine s_fn (hrc _) ?_ | refine s_fn (hac _) ?_ | refine s_fn (hrf _) ?_ | refine s_fn (lnone_c _ _ _) ?_) <;> try first | omega | assumption) | fail) | refine s_mv ?_ | refine s_as ?_ | refine s_bin ?_ | refine s_ld ?_ | refine s_ia ?_ | refine s_fa ?_ | refine s_fd ?_ | refine s_ix ?_ | refine s_un ?_ | refine s_op ?_) | refine nx ?_ | refine WA_block ?_ | (refine d_raw (id := 5) ?_; refine ⟨fun i => if i == 8 then .f else if i == 1 || i == 3 || i == 7 then .a else if i == 0 || i == 2 then .q else .p, [.one 0, .one 2, .grp [1, 3] [7], .one 4, .one 5, .one 6, .one 8, .one 9], by kernel_rfl, ?_⟩) | (refine d_raw (id := 6) ?_; refine ⟨fun i => if i == 8 then .f else if i == 1 || i == 3 || i == 7 then .a else if i == 0 || i == 2 then .q else .p, [.one 0, .one 2, .grp [1, 3] [7], .one 4, .one 5, .one 6, .one 8, .one 9], by kernel_rfl, ?_⟩) | (refine d_raw (id := 14) ?_; refine ⟨fun i => if i == 3 || i == 4 || i == 5 || i == 6 || i == 7 then .q else .p, [.one 0, .one 1, .one 2, .one 3, .one 4, .one 5, .one 6, .one 7, .one 8], by kernel_rfl, ?_⟩) | ((first | refine grp_cons (fun _ => lawake_c _) ?_ | refine grp_cons (fun _ => hfw _) ?_ | refine grp_cons (fun _ => hsn _) ?_ | refine grp_cons (fun _ => hcu _) ?_ | refine grp_cons (fun _ => hva _) ?_ | refine grp_cons (fun _ => hsl _) ?_ | refine grp_cons (fun _ => hrc _) ?_ | refine grp_cons (fun _ => hac _) ?_ | refine grp_cons (fun _ => hrf _) ?_ | refine grp_cons (fun _ => lnone_c _ _ _) ?_) <;> try first | omega | assumption) | (refine g_d ?_; first | (refine d_args ?_; first | ((first | refine d_fn (lawake_c _) ?_ | refine d_fn (hfw _) ?_ | refine d_fn (hsn _) ?_ | refine d_fn (hcu _) ?_ | refine d_fn (hva _) ?_ | refine d_fn (hsl _) ?_ | refine d_fn (hrc _) ?_ | refine d_fn (hac _) ?_ | refine d_fn (hrf _) ?_ | refine d_fn (lnone_c _ _ _) ?_ | refine d_fnQ (fun _ => lawake_c _) ?_ | refine d_fnQ (fun _ => hfw _) ?_ | refine d_fnQ (fun _ => hsn _) ?_ | refine d_fnQ (fun _ => hcu _) ?_ | refine d_fnQ (fun _ => hva _) ?_ | refine d_fnQ (fun _ => hsl _) ?_ | refine d_fnQ (fun _ => hrc _) ?_ | refine d_fnQ (fun _ => hac _) ?_ | refine d_fnQ (fun _ => hrf _) ?_ | refine d_fnQ (fun _ => lnone_c _ _ _) ?_) <;> try first | omega | assumption) | fail) | ((first | refine d_fnY (lawake_c _) ?_ | refine d_fnY (hfw _) ?_ | refine d_fnY (hsn _) ?_ | refine d_fnY (hcu _) ?_ | refine d_fnY (hva _) ?_ | refine d_fnY (hsl _) ?_ | refine d_fnY (hrc _) ?_ | refine d_fnY (hac _) ?_ | refine d_fnY (hrf _) ?_ | refine d_fnY (lnone_c _ _ _) ?_) <;> try first | omega | assumption) | refine d_op ?_)))
    all_goals (try (exfalso; omega))
    all_goals (refine r_es hQ ?_; try with_reducible rfl)
  · have he : atE l n d = cuErr l := by unfold atE; rw [if_pos h1]
    rw [he] at hva hsl h
    have hx0 := h
    refine Gives_in Tryz.func3 rfl Tryz.ntmps3 Tryz.results3 (by kernel_rfl) (by simp) rfl fun Q hQ => ?_
    (have FX := hx0; repeat' (first | refine s_tp ?_ | refine s_tn ?_ | refine d_tp ?_ | refine d_tn ?_ | ((first | apply WOs_splitD | apply WOs_splitN | apply WDs_splitD | apply WDs_splitN) <;> intro h <;> first | (exfalso; omega) | skip) | (refine g_op ?_; first | (refine g_call ?_; refine g_args ?_; first | ((first | refine s_fn (lawake_c _) ?_ | refine s_fn (hfw _) ?_ | refine s_fn (hsn _) ?_ | refine s_fn (hcu _) ?_ | refine s_fn (hva _) ?_ | refine s_fn (hsl _) ?_ | refine s_fn (hrc _) ?_ | refine s_fn (hac _) ?_ | refine s_fn (hrf _) ?_ | refine s_fn (lnone_c _ _ _) ?_) <;> try first | omega | assumption) | fail) | refine s_mv ?_ | refine s_as ?_ | refine s_bin ?_ | refine s_ld ?_ | refine s_ia ?_ | refine s_fa ?_ | refine s_fd ?_ | refine s_ix ?_ | refine s_un ?_ | refine s_op ?_) | refine nx ?_ | refine WA_block ?_ | (refine d_raw (id := 5) ?_; refine ⟨fun i => if i == 8 then .f else if i == 1 || i == 3 || i == 7 then .a else if i == 0 || i == 2 then .q else .p, [.one 0, .one 2, .grp [1, 3] [7], .one 4, .one 5, .one 6, .one 8, .one 9], by kernel_rfl, ?_⟩) | (refine d_raw (id := 6) ?_; refine ⟨fun i => if i == 8 then .f else if i == 1 || i == 3 || i == 7 then .a else if i == 0 || i == 2 then .q else .p, [.one 0, .one 2, .grp [1, 3] [7], .one 4, .one 5, .one 6, .one 8, .one 9], by kernel_rfl, ?_⟩) | (refine d_raw (id := 14) ?_; refine ⟨fun i => if i == 3 || i == 4 || i == 5 || i == 6 || i == 7 then .q else .p, [.one 0, .one 1, .one 2, .one 3, .one 4, .one 5, .one 6, .one 7, .one 8], by kernel_rfl, ?_⟩) | ((first | refine grp_cons (fun _ => lawake_c _) ?_ | refine grp_cons (fun _ => hfw _) ?_ | refine grp_cons (fun _ => hsn _) ?_ | refine grp_cons (fun _ => hcu _) ?_ | refine grp_cons (fun _ => hva _) ?_ | refine grp_cons (fun _ => hsl _) ?_ | refine grp_cons (fun _ => hrc _) ?_ | refine grp_cons (fun _ => hac _) ?_ | refine grp_cons (fun _ => hrf _) ?_ | refine grp_cons (fun _ => lnone_c _ _ _) ?_) <;> try first | omega | assumption) | (refine g_d ?_; first | (refine d_args ?_; first | ((first | refine d_fn (lawake_c _) ?_ | refine d_fn (hfw _) ?_ | refine d_fn (hsn _) ?_ | refine d_fn (hcu _) ?_ | refine d_fn (hva _) ?_ | refine d_fn (hsl _) ?_ | refine d_fn (hrc _) ?_ | refine d_fn (hac _) ?_ | refine d_fn (hrf _) ?_ | refine d_fn (lnone_c _ _ _) ?_ | refine d_fnQ (fun _ => lawake_c _) ?_ | refine d_fnQ (fun _ => hfw _) ?_ | refine d_fnQ (fun _ => hsn _) ?_ | refine d_fnQ (fun _ => hcu _) ?_ | refine d_fnQ (fun _ => hva _) ?_ | refine d_fnQ (fun _ => hsl _) ?_ | refine d_fnQ (fun _ => hrc _) ?_ | refine d_fnQ (fun _ => hac _) ?_ | refine d_fnQ (fun _ => hrf _) ?_ | refine d_fnQ (fun _ => lnone_c _ _ _) ?_) <;> try first | omega | assumption) | fail) | ((first | refine d_fnY (lawake_c _) ?_ | refine d_fnY (hfw _) ?_ | refine d_fnY (hsn _) ?_ | refine d_fnY (hcu _) ?_ | refine d_fnY (hva _) ?_ | refine d_fnY (hsl _) ?_ | refine d_fnY (hrc _) ?_ | refine d_fnY (hac _) ?_ | refine d_fnY (hrf _) ?_ | refine d_fnY (lnone_c _ _ _) ?_) <;> try first | omega | assumption) | refine d_op ?_)))
    all_goals (try (exfalso; omega))
    all_goals (refine r_es hQ ?_; try with_reducible rfl)
theorem curves_ok (l : List Rk) (n d : Int) (hf : few l 12) (hs : sane n d) (h : atE l n d = 0) (m : Mem) : Gives Tryz.prog 3 [.agg [.lst (rksV l)], .agg [.int .i64 n, .int .i64 d]] m (.bool true) := by
  obtain ⟨hB, hl⟩ := few_b hf
  obtain ⟨b1, b2⟩ := sane_b hs
  have hfw := fun m => lfew_c l 12 m
  rw [decide_eq_true hf] at hfw
  have hsn := fun m => lsane_d n d m
  rw [decide_eq_true hs] at hsn
  have hcu := fun m => lcurve_c l (by omega) m
  have hva := fun m => avalue_c l hB n d b1 b2 m
  have hsl := fun m => aslope_c l hB n d b1 b2 m
  have hrc := fun m => rcheckcurve_c l hB m
  have hac := fun m => acheckcurve_c l hB m
  have hrf := fun m => rcheckfrac_c n d b1 b2 m
  obtain ⟨hv, hks, g1, g2, g3, g4⟩ := atE_ok h
  have h1 : cuErr l = 0 := by
    unfold atE at h
    split at h
    · contradiction
    · omega
  unfold valR at hva
  unfold slpR at hsl
  rw [if_neg (by omega)] at hva hsl
  rw [h1] at hrc hac
  rw [g1] at hrf
  rw [hks] at hfw hcu hva hsl hrc hac ⊢
  generalize l.map toP = c at *
  generalize toQ (n, d) = q at *
  subst g2; subst g3
  have hrs := fun m => rslopeat_c c q hv g4 m
  by_cases ho : valOk c q
  · rw [if_pos ho] at hva
    simp only [rchV, frO] at hva hsl
    have hrv := fun m => rvalue_ok c q hv g4 ho m
    refine Gives_in Tryz.func3 rfl Tryz.ntmps3 Tryz.results3 (by kernel_rfl) (by simp) rfl fun Q hQ => ?_
    (repeat' (first | refine s_tp ?_ | refine s_tn ?_ | refine d_tp ?_ | refine d_tn ?_ | ((first | apply WOs_splitD | apply WOs_splitN | apply WDs_splitD | apply WDs_splitN) <;> intro h <;> first | (exfalso; omega) | skip) | (refine g_op ?_; first | (refine g_call ?_; refine g_args ?_; first | ((first | refine s_fn (lawake_c _) ?_ | refine s_fn (hfw _) ?_ | refine s_fn (hsn _) ?_ | refine s_fn (hcu _) ?_ | refine s_fn (hva _) ?_ | refine s_fn (hsl _) ?_ | refine s_fn (hrc _) ?_ | refine s_fn (hac _) ?_ | refine s_fn (hrf _) ?_ | refine s_fn (lnone_c _ _ _) ?_ | refine s_fn (hrs _) ?_ | refine s_fn (hrv _) ?_) <;> try first | omega | assumption) | fail) | refine s_mv ?_ | refine s_as ?_ | refine s_bin ?_ | refine s_ld ?_ | refine s_ia ?_ | refine s_fa ?_ | refine s_fd ?_ | refine s_ix ?_ | refine s_un ?_ | refine s_op ?_) | refine nx ?_ | refine WA_block ?_ | (refine d_raw (id := 5) ?_; refine ⟨fun i => if i == 8 then .f else if i == 1 || i == 3 || i == 7 then .a else if i == 0 || i == 2 then .q else .p, [.one 0, .one 2, .grp [1, 3] [7], .one 4, .one 5, .one 6, .one 8, .one 9], by kernel_rfl, ?_⟩) | (refine d_raw (id := 6) ?_; refine ⟨fun i => if i == 8 then .f else if i == 1 || i == 3 || i == 7 then .a else if i == 0 || i == 2 then .q else .p, [.one 0, .one 2, .grp [1, 3] [7], .one 4, .one 5, .one 6, .one 8, .one 9], by kernel_rfl, ?_⟩) | (refine d_raw (id := 14) ?_; refine ⟨fun i => if i == 3 || i == 4 || i == 5 || i == 6 || i == 7 then .q else .p, [.one 0, .one 1, .one 2, .one 3, .one 4, .one 5, .one 6, .one 7, .one 8], by kernel_rfl, ?_⟩) | ((first | refine grp_cons (fun _ => lawake_c _) ?_ | refine grp_cons (fun _ => hfw _) ?_ | refine grp_cons (fun _ => hsn _) ?_ | refine grp_cons (fun _ => hcu _) ?_ | refine grp_cons (fun _ => hva _) ?_ | refine grp_cons (fun _ => hsl _) ?_ | refine grp_cons (fun _ => hrc _) ?_ | refine grp_cons (fun _ => hac _) ?_ | refine grp_cons (fun _ => hrf _) ?_ | refine grp_cons (fun _ => lnone_c _ _ _) ?_ | refine grp_cons (fun _ => hrs _) ?_ | refine grp_cons (fun _ => hrv _) ?_) <;> try first | omega | assumption) | (refine g_d ?_; first | (refine d_args ?_; first | ((first | refine d_fn (lawake_c _) ?_ | refine d_fn (hfw _) ?_ | refine d_fn (hsn _) ?_ | refine d_fn (hcu _) ?_ | refine d_fn (hva _) ?_ | refine d_fn (hsl _) ?_ | refine d_fn (hrc _) ?_ | refine d_fn (hac _) ?_ | refine d_fn (hrf _) ?_ | refine d_fn (lnone_c _ _ _) ?_ | refine d_fn (hrs _) ?_ | refine d_fn (hrv _) ?_ | refine d_fnQ (fun _ => lawake_c _) ?_ | refine d_fnQ (fun _ => hfw _) ?_ | refine d_fnQ (fun _ => hsn _) ?_ | refine d_fnQ (fun _ => hcu _) ?_ | refine d_fnQ (fun _ => hva _) ?_ | refine d_fnQ (fun _ => hsl _) ?_ | refine d_fnQ (fun _ => hrc _) ?_ | refine d_fnQ (fun _ => hac _) ?_ | refine d_fnQ (fun _ => hrf _) ?_ | refine d_fnQ (fun _ => lnone_c _ _ _) ?_ | refine d_fnQ (fun _ => hrs _) ?_ | refine d_fnQ (fun _ => hrv _) ?_) <;> try first | omega | assumption) | fail) | ((first | refine d_fnY (lawake_c _) ?_ | refine d_fnY (hfw _) ?_ | refine d_fnY (hsn _) ?_ | refine d_fnY (hcu _) ?_ | refine d_fnY (hva _) ?_ | refine d_fnY (hsl _) ?_ | refine d_fnY (hrc _) ?_ | refine d_fnY (hac _) ?_ | refine d_fnY (hrf _) ?_ | refine d_fnY (lnone_c _ _ _) ?_ | refine d_fnY (hrs _) ?_ | refine d_fnY (hrv _) ?_) <;> try first | omega | assumption) | refine d_op ?_)))
    all_goals (try (exfalso; omega))
    all_goals (refine r_es hQ ?_; try with_reducible rfl)
  · rw [if_neg ho] at hva
    simp only [rchV, frO] at hva hsl
    obtain ⟨a, b, hrv⟩ := rvalue_bad c q hv g4 ho
    refine Gives_in Tryz.func3 rfl Tryz.ntmps3 Tryz.results3 (by kernel_rfl) (by simp) rfl fun Q hQ => ?_
    (repeat' (first | refine s_tp ?_ | refine s_tn ?_ | refine d_tp ?_ | refine d_tn ?_ | ((first | apply WOs_splitD | apply WOs_splitN | apply WDs_splitD | apply WDs_splitN) <;> intro h <;> first | (exfalso; omega) | skip) | (refine g_op ?_; first | (refine g_call ?_; refine g_args ?_; first | ((first | refine s_fn (lawake_c _) ?_ | refine s_fn (hfw _) ?_ | refine s_fn (hsn _) ?_ | refine s_fn (hcu _) ?_ | refine s_fn (hva _) ?_ | refine s_fn (hsl _) ?_ | refine s_fn (hrc _) ?_ | refine s_fn (hac _) ?_ | refine s_fn (hrf _) ?_ | refine s_fn (lnone_c _ _ _) ?_ | refine s_fn (hrs _) ?_ | refine s_fn (hrv _) ?_) <;> try first | omega | assumption) | fail) | refine s_mv ?_ | refine s_as ?_ | refine s_bin ?_ | refine s_ld ?_ | refine s_ia ?_ | refine s_fa ?_ | refine s_fd ?_ | refine s_ix ?_ | refine s_un ?_ | refine s_op ?_) | refine nx ?_ | refine WA_block ?_ | (refine d_raw (id := 5) ?_; refine ⟨fun i => if i == 8 then .f else if i == 1 || i == 3 || i == 7 then .a else if i == 0 || i == 2 then .q else .p, [.one 0, .one 2, .grp [1, 3] [7], .one 4, .one 5, .one 6, .one 8, .one 9], by kernel_rfl, ?_⟩) | (refine d_raw (id := 6) ?_; refine ⟨fun i => if i == 8 then .f else if i == 1 || i == 3 || i == 7 then .a else if i == 0 || i == 2 then .q else .p, [.one 0, .one 2, .grp [1, 3] [7], .one 4, .one 5, .one 6, .one 8, .one 9], by kernel_rfl, ?_⟩) | (refine d_raw (id := 14) ?_; refine ⟨fun i => if i == 3 || i == 4 || i == 5 || i == 6 || i == 7 then .q else .p, [.one 0, .one 1, .one 2, .one 3, .one 4, .one 5, .one 6, .one 7, .one 8], by kernel_rfl, ?_⟩) | ((first | refine grp_cons (fun _ => lawake_c _) ?_ | refine grp_cons (fun _ => hfw _) ?_ | refine grp_cons (fun _ => hsn _) ?_ | refine grp_cons (fun _ => hcu _) ?_ | refine grp_cons (fun _ => hva _) ?_ | refine grp_cons (fun _ => hsl _) ?_ | refine grp_cons (fun _ => hrc _) ?_ | refine grp_cons (fun _ => hac _) ?_ | refine grp_cons (fun _ => hrf _) ?_ | refine grp_cons (fun _ => lnone_c _ _ _) ?_ | refine grp_cons (fun _ => hrs _) ?_ | refine grp_cons (fun _ => hrv _) ?_) <;> try first | omega | assumption) | (refine g_d ?_; first | (refine d_args ?_; first | ((first | refine d_fn (lawake_c _) ?_ | refine d_fn (hfw _) ?_ | refine d_fn (hsn _) ?_ | refine d_fn (hcu _) ?_ | refine d_fn (hva _) ?_ | refine d_fn (hsl _) ?_ | refine d_fn (hrc _) ?_ | refine d_fn (hac _) ?_ | refine d_fn (hrf _) ?_ | refine d_fn (lnone_c _ _ _) ?_ | refine d_fn (hrs _) ?_ | refine d_fn (hrv _) ?_ | refine d_fnQ (fun _ => lawake_c _) ?_ | refine d_fnQ (fun _ => hfw _) ?_ | refine d_fnQ (fun _ => hsn _) ?_ | refine d_fnQ (fun _ => hcu _) ?_ | refine d_fnQ (fun _ => hva _) ?_ | refine d_fnQ (fun _ => hsl _) ?_ | refine d_fnQ (fun _ => hrc _) ?_ | refine d_fnQ (fun _ => hac _) ?_ | refine d_fnQ (fun _ => hrf _) ?_ | refine d_fnQ (fun _ => lnone_c _ _ _) ?_ | refine d_fnQ (fun _ => hrs _) ?_ | refine d_fnQ (fun _ => hrv _) ?_) <;> try first | omega | assumption) | fail) | ((first | refine d_fnY (lawake_c _) ?_ | refine d_fnY (hfw _) ?_ | refine d_fnY (hsn _) ?_ | refine d_fnY (hcu _) ?_ | refine d_fnY (hva _) ?_ | refine d_fnY (hsl _) ?_ | refine d_fnY (hrc _) ?_ | refine d_fnY (hac _) ?_ | refine d_fnY (hrf _) ?_ | refine d_fnY (lnone_c _ _ _) ?_ | refine d_fnY (hrs _) ?_ | refine d_fnY (hrv _) ?_) <;> try first | omega | assumption) | refine d_op ?_)))
    all_goals (try (exfalso; omega))
    all_goals (refine r_es hQ ?_; try with_reducible rfl)
theorem curves_law (l : List Rk) (n d : Int) (m : Mem) : Gives Tryz.prog 3 [.agg [.lst (rksV l)], .agg [.int .i64 n, .int .i64 d]] m (.bool true) := by
  by_cases h : few l 12 ∧ sane n d
  · by_cases h0 : atE l n d = 0
    · exact curves_ok l n d h.1 h.2 h0 m
    · exact curves_err l n d h.1 h.2 h0 m
  · exact curves_out l n d h m
end Go.Proofs.YtmigenmibohnkaaGreat
