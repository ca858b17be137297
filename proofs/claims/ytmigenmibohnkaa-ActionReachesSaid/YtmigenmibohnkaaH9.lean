/- the law ActionReaches, over contracts -/
import Derived.Test.YtmigenmibohnkaaC41
import Derived.Test.YtmigenmibohnkaaC45
import Derived.Test.YtmigenmibohnkaaC6
set_option linter.unusedSimpArgs false
set_option linter.unusedVariables false
namespace Go.Proofs.Ytmigenmibohnkaa
open Go.RowKit
attribute [local irreducible] WA WOs WDs WAn qThen qBlock tput
set_option maxHeartbeats 1000000
set_option maxRecDepth 20000
set_option linter.unusedSimpArgs false
set_option linter.unusedVariables false
attribute [local irreducible] smB cut sm
theorem uH9_4_5 {N : Nat} {l : List Oper} {t : List (Nat × V)} {m : Mem} {Q : Exit → List (Nat × V) → Mem → Prop} (h : RgN Try.prog N l t m Q (fun i => if i == 9 then .f else if i == 1 || i == 4 || i == 8 then .a else if i == 0 || i == 2 then .q else .p) [.one 0, .one 2, .one 3, .grp true [1, 4] [8], .one 5, .one 6, .one 7, .one 9, .one 10]) : WA Try.prog N (.region 5 l.toArray true) t m Q := d_rgN h
theorem reaches_out (l : List Rk) (n d : Int) (f : Bool) (hout : ¬ (few l 12 ∧ sane n d)) (m : Mem) : Gives Try.prog 4 [.agg [.lst (rksV l)], .agg [.int .i64 n, .int .i64 d], .bool f] m (.bool true) := by
  refine Gives_in Try.func4 rfl Try.ntmps4 Try.results4 (by kernel_rfl) (by simp) rfl fun Q hQ => ?_
  (repeat' (first | (refine sx ?_ ?_ <;> intro h <;> first | (exfalso; omega) | skip) | (refine g_op ?_; refine g_call ?_; refine g_args ?_; (first | refine s_fn (lawake_c _) ?_ | refine s_fn (lfew_c _ _ _) ?_ | refine s_fn (lsane_d _ _ _) ?_) <;> try first | omega | assumption) | refine ny ?_ | refine WA_block ?_ | (refine uH9_4_5 ?_; refine ⟨by kernel_rfl, ?_⟩) | ((first | refine grp_cons (fun _ => lawake_c _) ?_ | refine grp_cons (fun _ => lfew_c _ _ _) ?_ | refine grp_cons (fun _ => lsane_d _ _ _) ?_) <;> try first | omega | assumption) | (refine g_d ?_; refine d_args ?_; (first | refine d_fn (lawake_c _) ?_ | refine d_fn (lfew_c _ _ _) ?_ | refine d_fn (lsane_d _ _ _) ?_ | refine d_fnQ (fun _ => lawake_c _) ?_ | refine d_fnQ (fun _ => lfew_c _ _ _) ?_ | refine d_fnQ (fun _ => lsane_d _ _ _) ?_) <;> try first | omega | assumption) | (refine g_d ?_; (first | refine d_fnY (lawake_c _) ?_ | refine d_fnY (lfew_c _ _ _) ?_ | refine d_fnY (lsane_d _ _ _) ?_) <;> try first | omega | assumption)))
  all_goals (try (exfalso; first | exact hout ⟨by assumption, by assumption⟩ | omega))
  all_goals (refine r_es hQ ?_; try with_reducible rfl)
theorem reaches_err (l : List Rk) (n d : Int) (f : Bool) (hf : few l 12) (hs : sane n d) (h : atE l n d ≠ 0) (m : Mem) : Gives Try.prog 4 [.agg [.lst (rksV l)], .agg [.int .i64 n, .int .i64 d], .bool f] m (.bool true) := by
  obtain ⟨hB, hl⟩ := few_b hf
  obtain ⟨b1, b2⟩ := sane_b hs
  have hfw := fun m => lfew_c l 12 m
  rw [decide_eq_true hf] at hfw
  have hsn := fun m => lsane_d n d m
  rw [decide_eq_true hs] at hsn
  have hcu := fun m => lcurve_c l (by omega) m
  have hre := fun m => areachx_c l hB n d b1 b2 f m
  have hrc := fun m => rcheckcurve_c l hB m
  have hrf := fun m => rcheckfrac_c n d b1 b2 m
  unfold rcR at hre
  rw [if_pos h] at hre
  simp only [rchV, frO] at hre
  by_cases h1 : cuErr l = 0
  · have he : atE l n d = frErr n d := by unfold atE; rw [if_neg (by omega)]
    rw [he] at hre h
    rw [h1] at hrc
    have hx0 := h
    refine Gives_in Try.func4 rfl Try.ntmps4 Try.results4 (by kernel_rfl) (by simp) rfl fun Q hQ => ?_
    (have FX := hx0; repeat' (first | (refine sx ?_ ?_ <;> intro h <;> first | (exfalso; omega) | skip) | (refine g_op ?_; refine g_call ?_; refine g_args ?_; (first | refine s_fn (lawake_c _) ?_ | refine s_fn (hfw _) ?_ | refine s_fn (hsn _) ?_ | refine s_fn (hcu _) ?_ | refine s_fn (hre _) ?_ | refine s_fn (hrc _) ?_ | refine s_fn (hrf _) ?_ | refine s_fn (lnone_c _ _ _) ?_) <;> try first | omega | assumption) | refine ny ?_ | refine WA_block ?_ | (refine uH9_4_5 ?_; refine ⟨by kernel_rfl, ?_⟩) | ((first | refine grp_cons (fun _ => lawake_c _) ?_ | refine grp_cons (fun _ => hfw _) ?_ | refine grp_cons (fun _ => hsn _) ?_ | refine grp_cons (fun _ => hcu _) ?_ | refine grp_cons (fun _ => hre _) ?_ | refine grp_cons (fun _ => hrc _) ?_ | refine grp_cons (fun _ => hrf _) ?_ | refine grp_cons (fun _ => lnone_c _ _ _) ?_) <;> try first | omega | assumption) | (refine g_d ?_; refine d_args ?_; (first | refine d_fn (lawake_c _) ?_ | refine d_fn (hfw _) ?_ | refine d_fn (hsn _) ?_ | refine d_fn (hcu _) ?_ | refine d_fn (hre _) ?_ | refine d_fn (hrc _) ?_ | refine d_fn (hrf _) ?_ | refine d_fn (lnone_c _ _ _) ?_ | refine d_fnQ (fun _ => lawake_c _) ?_ | refine d_fnQ (fun _ => hfw _) ?_ | refine d_fnQ (fun _ => hsn _) ?_ | refine d_fnQ (fun _ => hcu _) ?_ | refine d_fnQ (fun _ => hre _) ?_ | refine d_fnQ (fun _ => hrc _) ?_ | refine d_fnQ (fun _ => hrf _) ?_ | refine d_fnQ (fun _ => lnone_c _ _ _) ?_) <;> try first | omega | assumption) | (refine g_d ?_; (first | refine d_fnY (lawake_c _) ?_ | refine d_fnY (hfw _) ?_ | refine d_fnY (hsn _) ?_ | refine d_fnY (hcu _) ?_ | refine d_fnY (hre _) ?_ | refine d_fnY (hrc _) ?_ | refine d_fnY (hrf _) ?_ | refine d_fnY (lnone_c _ _ _) ?_) <;> try first | omega | assumption)))
    all_goals (try (exfalso; omega))
    all_goals (refine r_es hQ ?_; try with_reducible rfl)
  · have he : atE l n d = cuErr l := by unfold atE; rw [if_pos h1]
    rw [he] at hre h
    have hx0 := h
    refine Gives_in Try.func4 rfl Try.ntmps4 Try.results4 (by kernel_rfl) (by simp) rfl fun Q hQ => ?_
    (have FX := hx0; repeat' (first | (refine sx ?_ ?_ <;> intro h <;> first | (exfalso; omega) | skip) | (refine g_op ?_; refine g_call ?_; refine g_args ?_; (first | refine s_fn (lawake_c _) ?_ | refine s_fn (hfw _) ?_ | refine s_fn (hsn _) ?_ | refine s_fn (hcu _) ?_ | refine s_fn (hre _) ?_ | refine s_fn (hrc _) ?_ | refine s_fn (hrf _) ?_ | refine s_fn (lnone_c _ _ _) ?_) <;> try first | omega | assumption) | refine ny ?_ | refine WA_block ?_ | (refine uH9_4_5 ?_; refine ⟨by kernel_rfl, ?_⟩) | ((first | refine grp_cons (fun _ => lawake_c _) ?_ | refine grp_cons (fun _ => hfw _) ?_ | refine grp_cons (fun _ => hsn _) ?_ | refine grp_cons (fun _ => hcu _) ?_ | refine grp_cons (fun _ => hre _) ?_ | refine grp_cons (fun _ => hrc _) ?_ | refine grp_cons (fun _ => hrf _) ?_ | refine grp_cons (fun _ => lnone_c _ _ _) ?_) <;> try first | omega | assumption) | (refine g_d ?_; refine d_args ?_; (first | refine d_fn (lawake_c _) ?_ | refine d_fn (hfw _) ?_ | refine d_fn (hsn _) ?_ | refine d_fn (hcu _) ?_ | refine d_fn (hre _) ?_ | refine d_fn (hrc _) ?_ | refine d_fn (hrf _) ?_ | refine d_fn (lnone_c _ _ _) ?_ | refine d_fnQ (fun _ => lawake_c _) ?_ | refine d_fnQ (fun _ => hfw _) ?_ | refine d_fnQ (fun _ => hsn _) ?_ | refine d_fnQ (fun _ => hcu _) ?_ | refine d_fnQ (fun _ => hre _) ?_ | refine d_fnQ (fun _ => hrc _) ?_ | refine d_fnQ (fun _ => hrf _) ?_ | refine d_fnQ (fun _ => lnone_c _ _ _) ?_) <;> try first | omega | assumption) | (refine g_d ?_; (first | refine d_fnY (lawake_c _) ?_ | refine d_fnY (hfw _) ?_ | refine d_fnY (hsn _) ?_ | refine d_fnY (hcu _) ?_ | refine d_fnY (hre _) ?_ | refine d_fnY (hrc _) ?_ | refine d_fnY (hrf _) ?_ | refine d_fnY (lnone_c _ _ _) ?_) <;> try first | omega | assumption)))
    all_goals (try (exfalso; omega))
    all_goals (refine r_es hQ ?_; try with_reducible rfl)
theorem reaches_ok (l : List Rk) (n d : Int) (f : Bool) (hf : few l 12) (hs : sane n d) (h : atE l n d = 0) (m : Mem) : Gives Try.prog 4 [.agg [.lst (rksV l)], .agg [.int .i64 n, .int .i64 d], .bool f] m (.bool true) := by
  obtain ⟨hB, hl⟩ := few_b hf
  obtain ⟨b1, b2⟩ := sane_b hs
  have hfw := fun m => lfew_c l 12 m
  rw [decide_eq_true hf] at hfw
  have hsn := fun m => lsane_d n d m
  rw [decide_eq_true hs] at hsn
  have hcu := fun m => lcurve_c l (by omega) m
  have hre := fun m => areachx_c l hB n d b1 b2 f m
  have hrc := fun m => rcheckcurve_c l hB m
  have hrf := fun m => rcheckfrac_c n d b1 b2 m
  obtain ⟨hv, hks, g1, g2, g3, g4⟩ := atE_ok h
  have h1 : cuErr l = 0 := atE_at h
  unfold rcR at hre
  rw [if_neg (by omega)] at hre
  rw [h1] at hrc
  rw [g1] at hrf
  rw [hks] at hfw hcu hre hrc ⊢
  generalize l.map toP = c at *
  generalize toQ (n, d) = q at *
  subst g2; subst g3
  have hrr := fun m => rreach_c c q f hv g4 m
  rcases rch_code c q f with ⟨x, hq⟩ | hq | hq
  all_goals
    rw [hq] at hre hrr
    simp only [rchV, frO] at hre hrr
    refine Gives_in Try.func4 rfl Try.ntmps4 Try.results4 (by kernel_rfl) (by simp) rfl fun Q hQ => ?_
    (repeat' (first | (refine sx ?_ ?_ <;> intro h <;> first | (exfalso; omega) | skip) | (refine g_op ?_; refine g_call ?_; refine g_args ?_; (first | refine s_fn (lawake_c _) ?_ | refine s_fn (hfw _) ?_ | refine s_fn (hsn _) ?_ | refine s_fn (hcu _) ?_ | refine s_fn (hre _) ?_ | refine s_fn (hrc _) ?_ | refine s_fn (hrf _) ?_ | refine s_fn (lnone_c _ _ _) ?_ | refine s_fn (hrr _) ?_) <;> try first | omega | assumption) | refine ny ?_ | refine WA_block ?_ | (refine uH9_4_5 ?_; refine ⟨by kernel_rfl, ?_⟩) | ((first | refine grp_cons (fun _ => lawake_c _) ?_ | refine grp_cons (fun _ => hfw _) ?_ | refine grp_cons (fun _ => hsn _) ?_ | refine grp_cons (fun _ => hcu _) ?_ | refine grp_cons (fun _ => hre _) ?_ | refine grp_cons (fun _ => hrc _) ?_ | refine grp_cons (fun _ => hrf _) ?_ | refine grp_cons (fun _ => lnone_c _ _ _) ?_ | refine grp_cons (fun _ => hrr _) ?_) <;> try first | omega | assumption) | (refine g_d ?_; refine d_args ?_; (first | refine d_fn (lawake_c _) ?_ | refine d_fn (hfw _) ?_ | refine d_fn (hsn _) ?_ | refine d_fn (hcu _) ?_ | refine d_fn (hre _) ?_ | refine d_fn (hrc _) ?_ | refine d_fn (hrf _) ?_ | refine d_fn (lnone_c _ _ _) ?_ | refine d_fn (hrr _) ?_ | refine d_fnQ (fun _ => lawake_c _) ?_ | refine d_fnQ (fun _ => hfw _) ?_ | refine d_fnQ (fun _ => hsn _) ?_ | refine d_fnQ (fun _ => hcu _) ?_ | refine d_fnQ (fun _ => hre _) ?_ | refine d_fnQ (fun _ => hrc _) ?_ | refine d_fnQ (fun _ => hrf _) ?_ | refine d_fnQ (fun _ => lnone_c _ _ _) ?_ | refine d_fnQ (fun _ => hrr _) ?_) <;> try first | omega | assumption) | (refine g_d ?_; (first | refine d_fnY (lawake_c _) ?_ | refine d_fnY (hfw _) ?_ | refine d_fnY (hsn _) ?_ | refine d_fnY (hcu _) ?_ | refine d_fnY (hre _) ?_ | refine d_fnY (hrc _) ?_ | refine d_fnY (hrf _) ?_ | refine d_fnY (lnone_c _ _ _) ?_ | refine d_fnY (hrr _) ?_) <;> try first | omega | assumption)))
    all_goals (try (exfalso; omega))
    all_goals (refine r_es hQ ?_; try with_reducible rfl)
theorem reaches_law (l : List Rk) (n d : Int) (f : Bool) (m : Mem) : Gives Try.prog 4 [.agg [.lst (rksV l)], .agg [.int .i64 n, .int .i64 d], .bool f] m (.bool true) := by
  by_cases h : few l 12 ∧ sane n d
  · by_cases h0 : atE l n d = 0
    · exact reaches_ok l n d f h.1 h.2 h0 m
    · exact reaches_err l n d f h.1 h.2 h0 m
  · exact reaches_out l n d f h m
end Go.Proofs.Ytmigenmibohnkaa
