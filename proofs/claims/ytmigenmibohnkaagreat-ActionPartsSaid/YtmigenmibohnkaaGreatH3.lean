/- the law ActionComposes, over contracts -/
import Derived.Test.YtmigenmibohnkaaGreatC50
import Derived.Test.YtmigenmibohnkaaGreatC42
import Derived.Test.YtmigenmibohnkaaGreatC39
set_option linter.unusedSimpArgs false
set_option linter.unusedVariables false
namespace Go.Proofs.YtmigenmibohnkaaGreat
open Go.RowKit
attribute [local irreducible] WA WOs WDs WAn qThen qBlock tput
set_option maxHeartbeats 1000000
set_option maxRecDepth 20000
set_option linter.unusedSimpArgs false
set_option linter.unusedVariables false
attribute [local irreducible] smB cut sm
theorem uH3_25_6 {N : Nat} {l : List Oper} {t : List (Nat × V)} {m : Mem} {Q : Exit → List (Nat × V) → Mem → Prop} (h : RgN Tryz.prog N l t m Q (fun i => if i == 1 || i == 4 || i == 6 || i == 9 || i == 10 then .q else .p) [.one 0, .one 1, .one 2, .one 3, .one 4, .one 5, .one 6, .one 7, .one 8, .one 9, .one 10]) : WA Tryz.prog N (.region 6 l.toArray true) t m Q := d_rgN h
theorem rsamecurve_c (l : List Pt) (hl : l.length ≤ 1000) (m : Mem) : Gives Tryz.prog 25 [.agg [.lst (ptsV l)], .agg [.lst (ptsV l)]] m (.bool true) := by
  have hla := ptsV_length (c := l)
  have hga := hla
  refine Gives_in Tryz.func25 rfl Tryz.ntmps25 Tryz.results25 (by kernel_rfl) (by simp) rfl fun Q hQ => ?_
  (have FX := And.intro hla hga; repeat' (first | (refine sx ?_ ?_ <;> intro h <;> first | (exfalso; omega) | skip) | refine ny ?_ | refine WA_block ?_ | (refine uH3_25_6 ?_; refine ⟨by kernel_rfl, ?_⟩)))
  all_goals (try (exfalso; omega))
  refine WA_whileK (σ := Nat) [2, 3, 5] (fun i => [.ptr (lend m).length 0 0, .ptr ((lend m).length + 1) 0 0, .int .i64 i]) (fun _ => [.cells .own 24 1 [[.lst (ptsV l)]], .cells .own 24 1 [[.lst (ptsV l)]]]) 2 (fun i => i ≤ l.length) (fun i => l.length - i) 0 (Nat.zero_le _) tv_ rfl (fun _ => rfl) (by intro s s' _ _; simp [conB, conS, V.keeps, V.plain, Blk.flat, flatL, V.flat]) (by intro s s' _ _; simp [conB, conS, V.keeps, V.plain, Blk.flat, flatL, V.flat]) ?_
  rintro i hi1 K hK
  simp only [zipT]
  clear FX hga
  rcases Nat.lt_or_ge i l.length with hi | hi
  · have hga := ptsV_get hi
    unfold ptV at hga
    (have FX := And.intro hla hga; repeat' (first | (refine sx ?_ ?_ <;> intro h <;> first | (exfalso; omega) | skip) | refine ny ?_ | refine WA_block ?_ | (refine uH3_25_6 ?_; refine ⟨by kernel_rfl, ?_⟩)))
    all_goals (try (exfalso; omega))
    all_goals (refine nextL_ hK (i + 1) hi (by omega))
  · have hga := hla
    (have FX := And.intro hla hga; repeat' (first | (refine sx ?_ ?_ <;> intro h <;> first | (exfalso; omega) | skip) | refine ny ?_ | refine WA_block ?_ | (refine uH3_25_6 ?_; refine ⟨by kernel_rfl, ?_⟩)))
    all_goals (try (exfalso; omega))
    all_goals (refine r_es hQ ?_; try with_reducible rfl)
theorem uH3_4_5 {N : Nat} {l : List Oper} {t : List (Nat × V)} {m : Mem} {Q : Exit → List (Nat × V) → Mem → Prop} (h : RgN Tryz.prog N l t m Q (fun i => if i == 9 then .f else if i == 1 || i == 3 || i == 4 || i == 8 then .a else if i == 0 || i == 2 then .q else .p) [.one 0, .one 2, .grp true [1, 3, 4] [8], .one 5, .one 6, .one 7, .one 9, .one 10]) : WA Tryz.prog N (.region 5 l.toArray true) t m Q := d_rgN h
theorem composes_out (o i : List Rk) (hout : ¬ (few o 12 ∧ few i 12)) (m : Mem) : Gives Tryz.prog 4 [.agg [.lst (rksV o)], .agg [.lst (rksV i)]] m (.bool true) := by
  refine Gives_in Tryz.func4 rfl Tryz.ntmps4 Tryz.results4 (by kernel_rfl) (by simp) rfl fun Q hQ => ?_
  (repeat' (first | (refine sx ?_ ?_ <;> intro h <;> first | (exfalso; omega) | skip) | (refine g_op ?_; refine g_call ?_; refine g_args ?_; (first | refine s_fn (lawake_c _) ?_ | refine s_fn (lfew_c _ _ _) ?_) <;> try first | omega | assumption) | refine ny ?_ | refine WA_block ?_ | (refine uH3_4_5 ?_; refine ⟨by kernel_rfl, ?_⟩) | ((first | refine grp_cons (fun _ => lawake_c _) ?_ | refine grp_cons (fun _ => lfew_c _ _ _) ?_) <;> try first | omega | assumption) | (refine g_d ?_; refine d_args ?_; (first | refine d_fn (lawake_c _) ?_ | refine d_fn (lfew_c _ _ _) ?_ | refine d_fnQ (fun _ => lawake_c _) ?_ | refine d_fnQ (fun _ => lfew_c _ _ _) ?_) <;> try first | omega | assumption) | (refine g_d ?_; (first | refine d_fnY (lawake_c _) ?_ | refine d_fnY (lfew_c _ _ _) ?_) <;> try first | omega | assumption)))
  all_goals (try (exfalso; first | exact hout ⟨by assumption, by assumption⟩ | omega))
  all_goals (refine r_es hQ ?_; try with_reducible rfl)
theorem composes_in (o i : List Rk) (hfo : few o 12) (hfi : few i 12) (m : Mem) : Gives Tryz.prog 4 [.agg [.lst (rksV o)], .agg [.lst (rksV i)]] m (.bool true) := by
  obtain ⟨hBo, hlo⟩ := few_b hfo
  obtain ⟨hBi, hli⟩ := few_b hfi
  have hf1 := fun m => lfew_c o 12 m
  rw [decide_eq_true hfo] at hf1
  have hf2 := fun m => lfew_c i 12 m
  rw [decide_eq_true hfi] at hf2
  have hc1 := fun m => lcurve_c o (by omega) m
  have hc2 := fun m => lcurve_c i (by omega) m
  have hco := fun m => acomposex_c o i hBo hBi m
  unfold cpV at hco
  have hk1 := fun m => rcheckcurve_c o hBo m
  have hk2 := fun m => rcheckcurve_c i hBi m
  by_cases h1 : cuErr o = 0
  · by_cases h2 : cuErr i = 0
    · rw [if_neg (by omega), if_neg (by omega)] at hco
      rw [h1] at hk1
      rw [h2] at hk2
      have hx0 := h1
      obtain ⟨v1, e1⟩ := cuErr_ok h1
      obtain ⟨v2, e2⟩ := cuErr_ok h2
      have k1 : rksV o = ptsV (o.map toP) := by rw [ptsV_raw, e1]
      have k2 : rksV i = ptsV (i.map toP) := by rw [ptsV_raw, e2]
      obtain ⟨z, b, g1, hrc, g3, g4⟩ := rcompose_v (o.map toP) (i.map toP) v1 v2
      rw [← k1, ← k2] at hrc
      cases hcp : compP (o.map toP) (i.map toP) with
      | none =>
        obtain rfl := g4 hcp
        rw [hcp] at hco
        simp only [crv] at hco
        refine Gives_in Tryz.func4 rfl Tryz.ntmps4 Tryz.results4 (by kernel_rfl) (by simp) rfl fun Q hQ => ?_
        (have FX := hx0; repeat' (first | (refine sx ?_ ?_ <;> intro h <;> first | (exfalso; omega) | skip) | (refine g_op ?_; refine g_call ?_; refine g_args ?_; (first | refine s_fn (lawake_c _) ?_ | refine s_fn (hf1 _) ?_ | refine s_fn (hf2 _) ?_ | refine s_fn (hc1 _) ?_ | refine s_fn (hc2 _) ?_ | refine s_fn (hco _) ?_ | refine s_fn (hk1 _) ?_ | refine s_fn (hk2 _) ?_ | refine s_fn (hrc _) ?_) <;> try first | omega | assumption) | refine ny ?_ | refine WA_block ?_ | (refine uH3_4_5 ?_; refine ⟨by kernel_rfl, ?_⟩) | ((first | refine grp_cons (fun _ => lawake_c _) ?_ | refine grp_cons (fun _ => hf1 _) ?_ | refine grp_cons (fun _ => hf2 _) ?_ | refine grp_cons (fun _ => hc1 _) ?_ | refine grp_cons (fun _ => hc2 _) ?_ | refine grp_cons (fun _ => hco _) ?_ | refine grp_cons (fun _ => hk1 _) ?_ | refine grp_cons (fun _ => hk2 _) ?_ | refine grp_cons (fun _ => hrc _) ?_) <;> try first | omega | assumption) | (refine g_d ?_; refine d_args ?_; (first | refine d_fn (lawake_c _) ?_ | refine d_fn (hf1 _) ?_ | refine d_fn (hf2 _) ?_ | refine d_fn (hc1 _) ?_ | refine d_fn (hc2 _) ?_ | refine d_fn (hco _) ?_ | refine d_fn (hk1 _) ?_ | refine d_fn (hk2 _) ?_ | refine d_fn (hrc _) ?_ | refine d_fnQ (fun _ => lawake_c _) ?_ | refine d_fnQ (fun _ => hf1 _) ?_ | refine d_fnQ (fun _ => hf2 _) ?_ | refine d_fnQ (fun _ => hc1 _) ?_ | refine d_fnQ (fun _ => hc2 _) ?_ | refine d_fnQ (fun _ => hco _) ?_ | refine d_fnQ (fun _ => hk1 _) ?_ | refine d_fnQ (fun _ => hk2 _) ?_ | refine d_fnQ (fun _ => hrc _) ?_) <;> try first | omega | assumption) | (refine g_d ?_; (first | refine d_fnY (lawake_c _) ?_ | refine d_fnY (hf1 _) ?_ | refine d_fnY (hf2 _) ?_ | refine d_fnY (hc1 _) ?_ | refine d_fnY (hc2 _) ?_ | refine d_fnY (hco _) ?_ | refine d_fnY (hk1 _) ?_ | refine d_fnY (hk2 _) ?_ | refine d_fnY (hrc _) ?_) <;> try first | omega | assumption)))
        all_goals (try (exfalso; omega))
        all_goals (refine r_es hQ ?_; try with_reducible rfl)
      | some l =>
        obtain ⟨rfl, rfl⟩ := g3 l hcp
        rw [hcp] at hco
        simp only [crv] at hco
        have hl60 := (compP_some hcp).2.2.1
        have hsc := fun m => rsamecurve_c l (by omega) m
        refine Gives_in Tryz.func4 rfl Tryz.ntmps4 Tryz.results4 (by kernel_rfl) (by simp) rfl fun Q hQ => ?_
        (have FX := hx0; repeat' (first | (refine sx ?_ ?_ <;> intro h <;> first | (exfalso; omega) | skip) | (refine g_op ?_; refine g_call ?_; refine g_args ?_; (first | refine s_fn (lawake_c _) ?_ | refine s_fn (hf1 _) ?_ | refine s_fn (hf2 _) ?_ | refine s_fn (hc1 _) ?_ | refine s_fn (hc2 _) ?_ | refine s_fn (hco _) ?_ | refine s_fn (hk1 _) ?_ | refine s_fn (hk2 _) ?_ | refine s_fn (hrc _) ?_ | refine s_fn (hsc _) ?_) <;> try first | omega | assumption) | refine ny ?_ | refine WA_block ?_ | (refine uH3_4_5 ?_; refine ⟨by kernel_rfl, ?_⟩) | ((first | refine grp_cons (fun _ => lawake_c _) ?_ | refine grp_cons (fun _ => hf1 _) ?_ | refine grp_cons (fun _ => hf2 _) ?_ | refine grp_cons (fun _ => hc1 _) ?_ | refine grp_cons (fun _ => hc2 _) ?_ | refine grp_cons (fun _ => hco _) ?_ | refine grp_cons (fun _ => hk1 _) ?_ | refine grp_cons (fun _ => hk2 _) ?_ | refine grp_cons (fun _ => hrc _) ?_ | refine grp_cons (fun _ => hsc _) ?_) <;> try first | omega | assumption) | (refine g_d ?_; refine d_args ?_; (first | refine d_fn (lawake_c _) ?_ | refine d_fn (hf1 _) ?_ | refine d_fn (hf2 _) ?_ | refine d_fn (hc1 _) ?_ | refine d_fn (hc2 _) ?_ | refine d_fn (hco _) ?_ | refine d_fn (hk1 _) ?_ | refine d_fn (hk2 _) ?_ | refine d_fn (hrc _) ?_ | refine d_fn (hsc _) ?_ | refine d_fnQ (fun _ => lawake_c _) ?_ | refine d_fnQ (fun _ => hf1 _) ?_ | refine d_fnQ (fun _ => hf2 _) ?_ | refine d_fnQ (fun _ => hc1 _) ?_ | refine d_fnQ (fun _ => hc2 _) ?_ | refine d_fnQ (fun _ => hco _) ?_ | refine d_fnQ (fun _ => hk1 _) ?_ | refine d_fnQ (fun _ => hk2 _) ?_ | refine d_fnQ (fun _ => hrc _) ?_ | refine d_fnQ (fun _ => hsc _) ?_) <;> try first | omega | assumption) | (refine g_d ?_; (first | refine d_fnY (lawake_c _) ?_ | refine d_fnY (hf1 _) ?_ | refine d_fnY (hf2 _) ?_ | refine d_fnY (hc1 _) ?_ | refine d_fnY (hc2 _) ?_ | refine d_fnY (hco _) ?_ | refine d_fnY (hk1 _) ?_ | refine d_fnY (hk2 _) ?_ | refine d_fnY (hrc _) ?_ | refine d_fnY (hsc _) ?_) <;> try first | omega | assumption)))
        all_goals (try (exfalso; omega))
        all_goals (refine r_es hQ ?_; try with_reducible rfl)
    · rw [if_neg (by omega), if_pos (by omega)] at hco
      have hx0 := And.intro h1 h2
      rw [h1] at hk1
      refine Gives_in Tryz.func4 rfl Tryz.ntmps4 Tryz.results4 (by kernel_rfl) (by simp) rfl fun Q hQ => ?_
      (have FX := hx0; repeat' (first | (refine sx ?_ ?_ <;> intro h <;> first | (exfalso; omega) | skip) | (refine g_op ?_; refine g_call ?_; refine g_args ?_; (first | refine s_fn (lawake_c _) ?_ | refine s_fn (hf1 _) ?_ | refine s_fn (hf2 _) ?_ | refine s_fn (hc1 _) ?_ | refine s_fn (hc2 _) ?_ | refine s_fn (hco _) ?_ | refine s_fn (hk1 _) ?_ | refine s_fn (hk2 _) ?_) <;> try first | omega | assumption) | refine ny ?_ | refine WA_block ?_ | (refine uH3_4_5 ?_; refine ⟨by kernel_rfl, ?_⟩) | ((first | refine grp_cons (fun _ => lawake_c _) ?_ | refine grp_cons (fun _ => hf1 _) ?_ | refine grp_cons (fun _ => hf2 _) ?_ | refine grp_cons (fun _ => hc1 _) ?_ | refine grp_cons (fun _ => hc2 _) ?_ | refine grp_cons (fun _ => hco _) ?_ | refine grp_cons (fun _ => hk1 _) ?_ | refine grp_cons (fun _ => hk2 _) ?_) <;> try first | omega | assumption) | (refine g_d ?_; refine d_args ?_; (first | refine d_fn (lawake_c _) ?_ | refine d_fn (hf1 _) ?_ | refine d_fn (hf2 _) ?_ | refine d_fn (hc1 _) ?_ | refine d_fn (hc2 _) ?_ | refine d_fn (hco _) ?_ | refine d_fn (hk1 _) ?_ | refine d_fn (hk2 _) ?_ | refine d_fnQ (fun _ => lawake_c _) ?_ | refine d_fnQ (fun _ => hf1 _) ?_ | refine d_fnQ (fun _ => hf2 _) ?_ | refine d_fnQ (fun _ => hc1 _) ?_ | refine d_fnQ (fun _ => hc2 _) ?_ | refine d_fnQ (fun _ => hco _) ?_ | refine d_fnQ (fun _ => hk1 _) ?_ | refine d_fnQ (fun _ => hk2 _) ?_) <;> try first | omega | assumption) | (refine g_d ?_; (first | refine d_fnY (lawake_c _) ?_ | refine d_fnY (hf1 _) ?_ | refine d_fnY (hf2 _) ?_ | refine d_fnY (hc1 _) ?_ | refine d_fnY (hc2 _) ?_ | refine d_fnY (hco _) ?_ | refine d_fnY (hk1 _) ?_ | refine d_fnY (hk2 _) ?_) <;> try first | omega | assumption)))
      all_goals (try (exfalso; omega))
      all_goals (refine r_es hQ ?_; try with_reducible rfl)
  · rw [if_pos (by omega)] at hco
    have hx0 := h1
    refine Gives_in Tryz.func4 rfl Tryz.ntmps4 Tryz.results4 (by kernel_rfl) (by simp) rfl fun Q hQ => ?_
    (have FX := hx0; repeat' (first | (refine sx ?_ ?_ <;> intro h <;> first | (exfalso; omega) | skip) | (refine g_op ?_; refine g_call ?_; refine g_args ?_; (first | refine s_fn (lawake_c _) ?_ | refine s_fn (hf1 _) ?_ | refine s_fn (hf2 _) ?_ | refine s_fn (hc1 _) ?_ | refine s_fn (hc2 _) ?_ | refine s_fn (hco _) ?_ | refine s_fn (hk1 _) ?_) <;> try first | omega | assumption) | refine ny ?_ | refine WA_block ?_ | (refine uH3_4_5 ?_; refine ⟨by kernel_rfl, ?_⟩) | ((first | refine grp_cons (fun _ => lawake_c _) ?_ | refine grp_cons (fun _ => hf1 _) ?_ | refine grp_cons (fun _ => hf2 _) ?_ | refine grp_cons (fun _ => hc1 _) ?_ | refine grp_cons (fun _ => hc2 _) ?_ | refine grp_cons (fun _ => hco _) ?_ | refine grp_cons (fun _ => hk1 _) ?_) <;> try first | omega | assumption) | (refine g_d ?_; refine d_args ?_; (first | refine d_fn (lawake_c _) ?_ | refine d_fn (hf1 _) ?_ | refine d_fn (hf2 _) ?_ | refine d_fn (hc1 _) ?_ | refine d_fn (hc2 _) ?_ | refine d_fn (hco _) ?_ | refine d_fn (hk1 _) ?_ | refine d_fnQ (fun _ => lawake_c _) ?_ | refine d_fnQ (fun _ => hf1 _) ?_ | refine d_fnQ (fun _ => hf2 _) ?_ | refine d_fnQ (fun _ => hc1 _) ?_ | refine d_fnQ (fun _ => hc2 _) ?_ | refine d_fnQ (fun _ => hco _) ?_ | refine d_fnQ (fun _ => hk1 _) ?_) <;> try first | omega | assumption) | (refine g_d ?_; (first | refine d_fnY (lawake_c _) ?_ | refine d_fnY (hf1 _) ?_ | refine d_fnY (hf2 _) ?_ | refine d_fnY (hc1 _) ?_ | refine d_fnY (hc2 _) ?_ | refine d_fnY (hco _) ?_ | refine d_fnY (hk1 _) ?_) <;> try first | omega | assumption)))
    all_goals (try (exfalso; omega))
    all_goals (refine r_es hQ ?_; try with_reducible rfl)
theorem composes_law (o i : List Rk) (m : Mem) : Gives Tryz.prog 4 [.agg [.lst (rksV o)], .agg [.lst (rksV i)]] m (.bool true) := by
  by_cases h : few o 12 ∧ few i 12
  · exact composes_in o i h.1 h.2 m
  · exact composes_out o i h m
end Go.Proofs.YtmigenmibohnkaaGreat
