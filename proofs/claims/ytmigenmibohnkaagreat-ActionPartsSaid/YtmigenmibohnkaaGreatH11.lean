/- the law ActionParts, over contracts -/
import Derived.Test.YtmigenmibohnkaaGreatC50
import Derived.Test.YtmigenmibohnkaaGreatC47
import Derived.Test.YtmigenmibohnkaaGreatH3
set_option linter.unusedSimpArgs false
set_option linter.unusedVariables false
namespace Go.Proofs.YtmigenmibohnkaaGreat
open Go.RowKit
attribute [local irreducible] WA WOs WDs WAn qThen qBlock tput
set_option maxHeartbeats 1000000
set_option maxRecDepth 20000
set_option linter.unusedSimpArgs false
set_option linter.unusedVariables false
set_option maxHeartbeats 8000000
attribute [local irreducible] smB cut sm
theorem uH11_7_6 {N : Nat} {l : List Oper} {t : List (Nat × V)} {m : Mem} {Q : Exit → List (Nat × V) → Mem → Prop} (h : RgN Tryz.prog N l t m Q (fun i => if i == 9 then .f else if i == 1 || i == 4 || i == 8 then .a else if i == 0 || i == 3 then .q else .p) [.one 0, .one 2, .one 3, .grp true [1, 4] [8], .one 5, .one 6, .one 7, .one 9, .one 10]) : WA Tryz.prog N (.region 6 l.toArray true) t m Q := d_rgN h
theorem uH11_7_7 {N : Nat} {l : List Oper} {t : List (Nat × V)} {m : Mem} {Q : Exit → List (Nat × V) → Mem → Prop} (h : RgN Tryz.prog N l t m Q (fun i => if i == 9 then .f else if i == 1 || i == 4 || i == 8 then .a else if i == 0 || i == 3 then .q else .p) [.one 0, .one 2, .one 3, .grp true [1, 4] [8], .one 5, .one 6, .one 7, .one 9, .one 10]) : WA Tryz.prog N (.region 7 l.toArray true) t m Q := d_rgN h
theorem uH11_7_22 {N : Nat} {l : List Oper} {t : List (Nat × V)} {m : Mem} {Q : Exit → List (Nat × V) → Mem → Prop} (h : RgN Tryz.prog N l t m Q (fun i => if i == 3 || i == 4 || i == 5 || i == 6 || i == 7 then .q else .p) [.one 0, .one 1, .one 2, .one 3, .one 4, .one 5, .one 6, .one 7, .one 8]) : WA Tryz.prog N (.region 22 l.toArray true) t m Q := d_rgN h
theorem parts_out (a : ActR) (s : List UInt8) (n d : Int) (hout : ¬ (light a ∧ ¬ 30 < (s.length : Int) ∧ sane n d)) (m : Mem) : Gives Tryz.prog 7 [.agg (actV a), .str s, .agg [.int .i64 n, .int .i64 d]] m (.bool true) := by
  have hlg := fun m => llight_c a m
  unfold actV at hlg ⊢
  refine Gives_in Tryz.func7 rfl Tryz.ntmps7 Tryz.results7 (by kernel_rfl) (by simp) rfl fun Q hQ => ?_
  (repeat' (first | (refine sx ?_ ?_ <;> intro h <;> first | (exfalso; omega) | skip) | (refine g_op ?_; refine g_call ?_; refine g_args ?_; (first | refine s_fn (lawake_c _) ?_ | refine s_fn (hlg _) ?_ | refine s_fn (lsane_d _ _ _) ?_) <;> try first | omega | assumption) | refine ny ?_ | refine WA_block ?_ | (refine uH11_7_6 ?_; refine ⟨by kernel_rfl, ?_⟩) | (refine uH11_7_7 ?_; refine ⟨by kernel_rfl, ?_⟩) | (refine uH11_7_22 ?_; refine ⟨by kernel_rfl, ?_⟩) | ((first | refine grp_cons (fun _ => lawake_c _) ?_ | refine grp_cons (fun _ => hlg _) ?_ | refine grp_cons (fun _ => lsane_d _ _ _) ?_) <;> try first | omega | assumption) | (refine g_d ?_; refine d_args ?_; (first | refine d_fn (lawake_c _) ?_ | refine d_fn (hlg _) ?_ | refine d_fn (lsane_d _ _ _) ?_ | refine d_fnQ (fun _ => lawake_c _) ?_ | refine d_fnQ (fun _ => hlg _) ?_ | refine d_fnQ (fun _ => lsane_d _ _ _) ?_) <;> try first | omega | assumption) | (refine g_d ?_; (first | refine d_fnY (lawake_c _) ?_ | refine d_fnY (hlg _) ?_ | refine d_fnY (lsane_d _ _ _) ?_) <;> try first | omega | assumption)))
  all_goals (try (exfalso; first | exact hout ⟨by assumption, by assumption, by assumption⟩ | omega))
  all_goals (refine r_es hQ ?_; try with_reducible rfl)
theorem parts_in (a : ActR) (s : List UInt8) (n d : Int) (hL : light a) (hs : ¬ 30 < (s.length : Int)) (hsa : sane n d) (m : Mem) : Gives Tryz.prog 7 [.agg (actV a), .str s, .agg [.int .i64 n, .int .i64 d]] m (.bool true) := by
  have hlt := light_lt hL
  obtain ⟨b1, b2⟩ := sane_b hsa
  have hlg := fun m => llight_c a m
  rw [decide_eq_true hL] at hlg
  have hsn := fun m => lsane_d n d m
  rw [decide_eq_true hsa] at hsn
  have hcp := fun m => lcopied_l a hL m
  have hcu := fun m => acurve_c a hlt s m
  have hpo := fun m => aposition_c a hlt s n d b1 b2 m
  have hra := fun m => aratio_c a hlt s n d b1 b2 m
  have hac := fun m => rcheckaction_c a hlt m
  have hpa := fun m => rpartat_c a.parts s m hlt.np
  unfold posV at hpo
  unfold ratV at hra
  by_cases hp : ptE a s = 0
  · obtain ⟨h1, h2, h3⟩ := prI_ok hp
    rw [psE_dp hp] at hpo hra
    rw [if_neg (by omega)] at hcu
    rw [h1] at hac
    have hx0 := h2
    unfold prI at hx0
    obtain ⟨z, b, _, g2, g3, hrc⟩ := rcvof_c a hlt h1 (prI a s).toNat h3
    have hcd := fun m => rcheckdip_c a h1 n d b1 b2 m
    have hv0 := fun c hc => cvP_valid (acErr_pts h1) (l := c) h3 hc
    rw [show fidx (isP s) a.parts = (((prI a s).toNat : Nat) : Int) from hx0] at hpa
    generalize (prI a s).toNat = j at *
    unfold actV at hlg hcp hcu hpo hra hac hrc hcd ⊢
    cases hc : cvP a j with
    | none =>
      obtain rfl := g3 hc
      rw [hc] at hcu hpo hra
      by_cases hd : dipErr a n d = 0
      · rw [if_neg (by omega)] at hpo hra
        rw [hd] at hcd
        simp only [crv, frO] at hcu hpo hra
        refine Gives_in Tryz.func7 rfl Tryz.ntmps7 Tryz.results7 (by kernel_rfl) (by simp) rfl fun Q hQ => ?_
        (have FX := hx0; repeat' (first | (refine sx ?_ ?_ <;> intro h <;> first | (exfalso; omega) | skip) | (refine g_op ?_; refine g_call ?_; refine g_args ?_; (first | refine s_fn (lawake_c _) ?_ | refine s_fn (hlg _) ?_ | refine s_fn (hsn _) ?_ | refine s_fn (hcp _) ?_ | refine s_fn (hcu _) ?_ | refine s_fn (hpo _) ?_ | refine s_fn (hra _) ?_ | refine s_fn (hac _) ?_ | refine s_fn (hpa _) ?_ | refine s_fn (hrc _) ?_ | refine s_fn (hcd _) ?_ | refine s_fn (lnone_c _ _ _) ?_) <;> try first | omega | assumption) | refine ny ?_ | refine WA_block ?_ | (refine uH11_7_6 ?_; refine ⟨by kernel_rfl, ?_⟩) | (refine uH11_7_7 ?_; refine ⟨by kernel_rfl, ?_⟩) | (refine uH11_7_22 ?_; refine ⟨by kernel_rfl, ?_⟩) | ((first | refine grp_cons (fun _ => lawake_c _) ?_ | refine grp_cons (fun _ => hlg _) ?_ | refine grp_cons (fun _ => hsn _) ?_ | refine grp_cons (fun _ => hcp _) ?_ | refine grp_cons (fun _ => hcu _) ?_ | refine grp_cons (fun _ => hpo _) ?_ | refine grp_cons (fun _ => hra _) ?_ | refine grp_cons (fun _ => hac _) ?_ | refine grp_cons (fun _ => hpa _) ?_ | refine grp_cons (fun _ => hrc _) ?_ | refine grp_cons (fun _ => hcd _) ?_ | refine grp_cons (fun _ => lnone_c _ _ _) ?_) <;> try first | omega | assumption) | (refine g_d ?_; refine d_args ?_; (first | refine d_fn (lawake_c _) ?_ | refine d_fn (hlg _) ?_ | refine d_fn (hsn _) ?_ | refine d_fn (hcp _) ?_ | refine d_fn (hcu _) ?_ | refine d_fn (hpo _) ?_ | refine d_fn (hra _) ?_ | refine d_fn (hac _) ?_ | refine d_fn (hpa _) ?_ | refine d_fn (hrc _) ?_ | refine d_fn (hcd _) ?_ | refine d_fn (lnone_c _ _ _) ?_ | refine d_fnQ (fun _ => lawake_c _) ?_ | refine d_fnQ (fun _ => hlg _) ?_ | refine d_fnQ (fun _ => hsn _) ?_ | refine d_fnQ (fun _ => hcp _) ?_ | refine d_fnQ (fun _ => hcu _) ?_ | refine d_fnQ (fun _ => hpo _) ?_ | refine d_fnQ (fun _ => hra _) ?_ | refine d_fnQ (fun _ => hac _) ?_ | refine d_fnQ (fun _ => hpa _) ?_ | refine d_fnQ (fun _ => hrc _) ?_ | refine d_fnQ (fun _ => hcd _) ?_ | refine d_fnQ (fun _ => lnone_c _ _ _) ?_) <;> try first | omega | assumption) | (refine g_d ?_; (first | refine d_fnY (lawake_c _) ?_ | refine d_fnY (hlg _) ?_ | refine d_fnY (hsn _) ?_ | refine d_fnY (hcp _) ?_ | refine d_fnY (hcu _) ?_ | refine d_fnY (hpo _) ?_ | refine d_fnY (hra _) ?_ | refine d_fnY (hac _) ?_ | refine d_fnY (hpa _) ?_ | refine d_fnY (hrc _) ?_ | refine d_fnY (hcd _) ?_ | refine d_fnY (lnone_c _ _ _) ?_) <;> try first | omega | assumption)))
        all_goals (try (exfalso; omega))
        all_goals (refine r_es hQ ?_; try with_reducible rfl)
      · rw [if_pos hd] at hpo hra
        have hx0 := And.intro hx0 hd
        simp only [crv, frO] at hcu hpo hra
        refine Gives_in Tryz.func7 rfl Tryz.ntmps7 Tryz.results7 (by kernel_rfl) (by simp) rfl fun Q hQ => ?_
        (have FX := hx0; repeat' (first | (refine sx ?_ ?_ <;> intro h <;> first | (exfalso; omega) | skip) | (refine g_op ?_; refine g_call ?_; refine g_args ?_; (first | refine s_fn (lawake_c _) ?_ | refine s_fn (hlg _) ?_ | refine s_fn (hsn _) ?_ | refine s_fn (hcp _) ?_ | refine s_fn (hcu _) ?_ | refine s_fn (hpo _) ?_ | refine s_fn (hra _) ?_ | refine s_fn (hac _) ?_ | refine s_fn (hpa _) ?_ | refine s_fn (hrc _) ?_ | refine s_fn (hcd _) ?_ | refine s_fn (lnone_c _ _ _) ?_) <;> try first | omega | assumption) | refine ny ?_ | refine WA_block ?_ | (refine uH11_7_6 ?_; refine ⟨by kernel_rfl, ?_⟩) | (refine uH11_7_7 ?_; refine ⟨by kernel_rfl, ?_⟩) | (refine uH11_7_22 ?_; refine ⟨by kernel_rfl, ?_⟩) | ((first | refine grp_cons (fun _ => lawake_c _) ?_ | refine grp_cons (fun _ => hlg _) ?_ | refine grp_cons (fun _ => hsn _) ?_ | refine grp_cons (fun _ => hcp _) ?_ | refine grp_cons (fun _ => hcu _) ?_ | refine grp_cons (fun _ => hpo _) ?_ | refine grp_cons (fun _ => hra _) ?_ | refine grp_cons (fun _ => hac _) ?_ | refine grp_cons (fun _ => hpa _) ?_ | refine grp_cons (fun _ => hrc _) ?_ | refine grp_cons (fun _ => hcd _) ?_ | refine grp_cons (fun _ => lnone_c _ _ _) ?_) <;> try first | omega | assumption) | (refine g_d ?_; refine d_args ?_; (first | refine d_fn (lawake_c _) ?_ | refine d_fn (hlg _) ?_ | refine d_fn (hsn _) ?_ | refine d_fn (hcp _) ?_ | refine d_fn (hcu _) ?_ | refine d_fn (hpo _) ?_ | refine d_fn (hra _) ?_ | refine d_fn (hac _) ?_ | refine d_fn (hpa _) ?_ | refine d_fn (hrc _) ?_ | refine d_fn (hcd _) ?_ | refine d_fn (lnone_c _ _ _) ?_ | refine d_fnQ (fun _ => lawake_c _) ?_ | refine d_fnQ (fun _ => hlg _) ?_ | refine d_fnQ (fun _ => hsn _) ?_ | refine d_fnQ (fun _ => hcp _) ?_ | refine d_fnQ (fun _ => hcu _) ?_ | refine d_fnQ (fun _ => hpo _) ?_ | refine d_fnQ (fun _ => hra _) ?_ | refine d_fnQ (fun _ => hac _) ?_ | refine d_fnQ (fun _ => hpa _) ?_ | refine d_fnQ (fun _ => hrc _) ?_ | refine d_fnQ (fun _ => hcd _) ?_ | refine d_fnQ (fun _ => lnone_c _ _ _) ?_) <;> try first | omega | assumption) | (refine g_d ?_; (first | refine d_fnY (lawake_c _) ?_ | refine d_fnY (hlg _) ?_ | refine d_fnY (hsn _) ?_ | refine d_fnY (hcp _) ?_ | refine d_fnY (hcu _) ?_ | refine d_fnY (hpo _) ?_ | refine d_fnY (hra _) ?_ | refine d_fnY (hac _) ?_ | refine d_fnY (hpa _) ?_ | refine d_fnY (hrc _) ?_ | refine d_fnY (hcd _) ?_ | refine d_fnY (lnone_c _ _ _) ?_) <;> try first | omega | assumption)))
        all_goals (try (exfalso; omega))
        all_goals (refine r_es hQ ?_; try with_reducible rfl)
    | some c =>
      obtain ⟨rfl, rfl⟩ := g2 c hc
      have hv := hv0 c hc
      have hf60 := hv.few
      have hsc := fun m => rsamecurve_c c (by omega) m
      rw [hc] at hcu hpo hra
      simp only [crv] at hcu
      by_cases hd : dipErr a n d = 0
      · rw [if_neg (by omega)] at hpo hra
        rw [hd] at hcd
        obtain ⟨_, k2, k3, k4, _⟩ := dip_q hd
        dsimp only at hpo hra
        generalize toQ (n, d) = q at *
        subst k2; subst k3
        have hrs := fun m => rslopeat_c c q hv k4 m
        by_cases ho : valOk c q
        · rw [if_pos ho] at hpo
          have hrv := fun m => rvalue_ok c q hv k4 ho m
          refine Gives_in Tryz.func7 rfl Tryz.ntmps7 Tryz.results7 (by kernel_rfl) (by simp) rfl fun Q hQ => ?_
          (have FX := hx0; repeat' (first | (refine sx ?_ ?_ <;> intro h <;> first | (exfalso; omega) | skip) | (refine g_op ?_; refine g_call ?_; refine g_args ?_; (first | refine s_fn (lawake_c _) ?_ | refine s_fn (hlg _) ?_ | refine s_fn (hsn _) ?_ | refine s_fn (hcp _) ?_ | refine s_fn (hcu _) ?_ | refine s_fn (hpo _) ?_ | refine s_fn (hra _) ?_ | refine s_fn (hac _) ?_ | refine s_fn (hpa _) ?_ | refine s_fn (hrc _) ?_ | refine s_fn (hcd _) ?_ | refine s_fn (hsc _) ?_ | refine s_fn (hrs _) ?_ | refine s_fn (hrv _) ?_) <;> try first | omega | assumption) | refine ny ?_ | refine WA_block ?_ | (refine uH11_7_6 ?_; refine ⟨by kernel_rfl, ?_⟩) | (refine uH11_7_7 ?_; refine ⟨by kernel_rfl, ?_⟩) | (refine uH11_7_22 ?_; refine ⟨by kernel_rfl, ?_⟩) | ((first | refine grp_cons (fun _ => lawake_c _) ?_ | refine grp_cons (fun _ => hlg _) ?_ | refine grp_cons (fun _ => hsn _) ?_ | refine grp_cons (fun _ => hcp _) ?_ | refine grp_cons (fun _ => hcu _) ?_ | refine grp_cons (fun _ => hpo _) ?_ | refine grp_cons (fun _ => hra _) ?_ | refine grp_cons (fun _ => hac _) ?_ | refine grp_cons (fun _ => hpa _) ?_ | refine grp_cons (fun _ => hrc _) ?_ | refine grp_cons (fun _ => hcd _) ?_ | refine grp_cons (fun _ => hsc _) ?_ | refine grp_cons (fun _ => hrs _) ?_ | refine grp_cons (fun _ => hrv _) ?_) <;> try first | omega | assumption) | (refine g_d ?_; refine d_args ?_; (first | refine d_fn (lawake_c _) ?_ | refine d_fn (hlg _) ?_ | refine d_fn (hsn _) ?_ | refine d_fn (hcp _) ?_ | refine d_fn (hcu _) ?_ | refine d_fn (hpo _) ?_ | refine d_fn (hra _) ?_ | refine d_fn (hac _) ?_ | refine d_fn (hpa _) ?_ | refine d_fn (hrc _) ?_ | refine d_fn (hcd _) ?_ | refine d_fn (hsc _) ?_ | refine d_fn (hrs _) ?_ | refine d_fn (hrv _) ?_ | refine d_fnQ (fun _ => lawake_c _) ?_ | refine d_fnQ (fun _ => hlg _) ?_ | refine d_fnQ (fun _ => hsn _) ?_ | refine d_fnQ (fun _ => hcp _) ?_ | refine d_fnQ (fun _ => hcu _) ?_ | refine d_fnQ (fun _ => hpo _) ?_ | refine d_fnQ (fun _ => hra _) ?_ | refine d_fnQ (fun _ => hac _) ?_ | refine d_fnQ (fun _ => hpa _) ?_ | refine d_fnQ (fun _ => hrc _) ?_ | refine d_fnQ (fun _ => hcd _) ?_ | refine d_fnQ (fun _ => hsc _) ?_ | refine d_fnQ (fun _ => hrs _) ?_ | refine d_fnQ (fun _ => hrv _) ?_) <;> try first | omega | assumption) | (refine g_d ?_; (first | refine d_fnY (lawake_c _) ?_ | refine d_fnY (hlg _) ?_ | refine d_fnY (hsn _) ?_ | refine d_fnY (hcp _) ?_ | refine d_fnY (hcu _) ?_ | refine d_fnY (hpo _) ?_ | refine d_fnY (hra _) ?_ | refine d_fnY (hac _) ?_ | refine d_fnY (hpa _) ?_ | refine d_fnY (hrc _) ?_ | refine d_fnY (hcd _) ?_ | refine d_fnY (hsc _) ?_ | refine d_fnY (hrs _) ?_ | refine d_fnY (hrv _) ?_) <;> try first | omega | assumption)))
          all_goals (try (exfalso; omega))
          all_goals (refine r_es hQ ?_; try with_reducible rfl)
        · rw [if_neg ho] at hpo
          simp only [frO] at hpo
          obtain ⟨u, v, hrv⟩ := rvalue_bad c q hv k4 ho
          refine Gives_in Tryz.func7 rfl Tryz.ntmps7 Tryz.results7 (by kernel_rfl) (by simp) rfl fun Q hQ => ?_
          (have FX := hx0; repeat' (first | (refine sx ?_ ?_ <;> intro h <;> first | (exfalso; omega) | skip) | (refine g_op ?_; refine g_call ?_; refine g_args ?_; (first | refine s_fn (lawake_c _) ?_ | refine s_fn (hlg _) ?_ | refine s_fn (hsn _) ?_ | refine s_fn (hcp _) ?_ | refine s_fn (hcu _) ?_ | refine s_fn (hpo _) ?_ | refine s_fn (hra _) ?_ | refine s_fn (hac _) ?_ | refine s_fn (hpa _) ?_ | refine s_fn (hrc _) ?_ | refine s_fn (hcd _) ?_ | refine s_fn (hsc _) ?_ | refine s_fn (hrs _) ?_ | refine s_fn (hrv _) ?_ | refine s_fn (lnone_c _ _ _) ?_) <;> try first | omega | assumption) | refine ny ?_ | refine WA_block ?_ | (refine uH11_7_6 ?_; refine ⟨by kernel_rfl, ?_⟩) | (refine uH11_7_7 ?_; refine ⟨by kernel_rfl, ?_⟩) | (refine uH11_7_22 ?_; refine ⟨by kernel_rfl, ?_⟩) | ((first | refine grp_cons (fun _ => lawake_c _) ?_ | refine grp_cons (fun _ => hlg _) ?_ | refine grp_cons (fun _ => hsn _) ?_ | refine grp_cons (fun _ => hcp _) ?_ | refine grp_cons (fun _ => hcu _) ?_ | refine grp_cons (fun _ => hpo _) ?_ | refine grp_cons (fun _ => hra _) ?_ | refine grp_cons (fun _ => hac _) ?_ | refine grp_cons (fun _ => hpa _) ?_ | refine grp_cons (fun _ => hrc _) ?_ | refine grp_cons (fun _ => hcd _) ?_ | refine grp_cons (fun _ => hsc _) ?_ | refine grp_cons (fun _ => hrs _) ?_ | refine grp_cons (fun _ => hrv _) ?_ | refine grp_cons (fun _ => lnone_c _ _ _) ?_) <;> try first | omega | assumption) | (refine g_d ?_; refine d_args ?_; (first | refine d_fn (lawake_c _) ?_ | refine d_fn (hlg _) ?_ | refine d_fn (hsn _) ?_ | refine d_fn (hcp _) ?_ | refine d_fn (hcu _) ?_ | refine d_fn (hpo _) ?_ | refine d_fn (hra _) ?_ | refine d_fn (hac _) ?_ | refine d_fn (hpa _) ?_ | refine d_fn (hrc _) ?_ | refine d_fn (hcd _) ?_ | refine d_fn (hsc _) ?_ | refine d_fn (hrs _) ?_ | refine d_fn (hrv _) ?_ | refine d_fn (lnone_c _ _ _) ?_ | refine d_fnQ (fun _ => lawake_c _) ?_ | refine d_fnQ (fun _ => hlg _) ?_ | refine d_fnQ (fun _ => hsn _) ?_ | refine d_fnQ (fun _ => hcp _) ?_ | refine d_fnQ (fun _ => hcu _) ?_ | refine d_fnQ (fun _ => hpo _) ?_ | refine d_fnQ (fun _ => hra _) ?_ | refine d_fnQ (fun _ => hac _) ?_ | refine d_fnQ (fun _ => hpa _) ?_ | refine d_fnQ (fun _ => hrc _) ?_ | refine d_fnQ (fun _ => hcd _) ?_ | refine d_fnQ (fun _ => hsc _) ?_ | refine d_fnQ (fun _ => hrs _) ?_ | refine d_fnQ (fun _ => hrv _) ?_ | refine d_fnQ (fun _ => lnone_c _ _ _) ?_) <;> try first | omega | assumption) | (refine g_d ?_; (first | refine d_fnY (lawake_c _) ?_ | refine d_fnY (hlg _) ?_ | refine d_fnY (hsn _) ?_ | refine d_fnY (hcp _) ?_ | refine d_fnY (hcu _) ?_ | refine d_fnY (hpo _) ?_ | refine d_fnY (hra _) ?_ | refine d_fnY (hac _) ?_ | refine d_fnY (hpa _) ?_ | refine d_fnY (hrc _) ?_ | refine d_fnY (hcd _) ?_ | refine d_fnY (hsc _) ?_ | refine d_fnY (hrs _) ?_ | refine d_fnY (hrv _) ?_ | refine d_fnY (lnone_c _ _ _) ?_) <;> try first | omega | assumption)))
          all_goals (try (exfalso; omega))
          all_goals (refine r_es hQ ?_; try with_reducible rfl)
      · rw [if_pos hd] at hpo hra
        have hx0 := And.intro hx0 hd
        simp only [frO] at hpo hra
        refine Gives_in Tryz.func7 rfl Tryz.ntmps7 Tryz.results7 (by kernel_rfl) (by simp) rfl fun Q hQ => ?_
        (have FX := hx0; repeat' (first | (refine sx ?_ ?_ <;> intro h <;> first | (exfalso; omega) | skip) | (refine g_op ?_; refine g_call ?_; refine g_args ?_; (first | refine s_fn (lawake_c _) ?_ | refine s_fn (hlg _) ?_ | refine s_fn (hsn _) ?_ | refine s_fn (hcp _) ?_ | refine s_fn (hcu _) ?_ | refine s_fn (hpo _) ?_ | refine s_fn (hra _) ?_ | refine s_fn (hac _) ?_ | refine s_fn (hpa _) ?_ | refine s_fn (hrc _) ?_ | refine s_fn (hcd _) ?_ | refine s_fn (hsc _) ?_ | refine s_fn (lnone_c _ _ _) ?_) <;> try first | omega | assumption) | refine ny ?_ | refine WA_block ?_ | (refine uH11_7_6 ?_; refine ⟨by kernel_rfl, ?_⟩) | (refine uH11_7_7 ?_; refine ⟨by kernel_rfl, ?_⟩) | (refine uH11_7_22 ?_; refine ⟨by kernel_rfl, ?_⟩) | ((first | refine grp_cons (fun _ => lawake_c _) ?_ | refine grp_cons (fun _ => hlg _) ?_ | refine grp_cons (fun _ => hsn _) ?_ | refine grp_cons (fun _ => hcp _) ?_ | refine grp_cons (fun _ => hcu _) ?_ | refine grp_cons (fun _ => hpo _) ?_ | refine grp_cons (fun _ => hra _) ?_ | refine grp_cons (fun _ => hac _) ?_ | refine grp_cons (fun _ => hpa _) ?_ | refine grp_cons (fun _ => hrc _) ?_ | refine grp_cons (fun _ => hcd _) ?_ | refine grp_cons (fun _ => hsc _) ?_ | refine grp_cons (fun _ => lnone_c _ _ _) ?_) <;> try first | omega | assumption) | (refine g_d ?_; refine d_args ?_; (first | refine d_fn (lawake_c _) ?_ | refine d_fn (hlg _) ?_ | refine d_fn (hsn _) ?_ | refine d_fn (hcp _) ?_ | refine d_fn (hcu _) ?_ | refine d_fn (hpo _) ?_ | refine d_fn (hra _) ?_ | refine d_fn (hac _) ?_ | refine d_fn (hpa _) ?_ | refine d_fn (hrc _) ?_ | refine d_fn (hcd _) ?_ | refine d_fn (hsc _) ?_ | refine d_fn (lnone_c _ _ _) ?_ | refine d_fnQ (fun _ => lawake_c _) ?_ | refine d_fnQ (fun _ => hlg _) ?_ | refine d_fnQ (fun _ => hsn _) ?_ | refine d_fnQ (fun _ => hcp _) ?_ | refine d_fnQ (fun _ => hcu _) ?_ | refine d_fnQ (fun _ => hpo _) ?_ | refine d_fnQ (fun _ => hra _) ?_ | refine d_fnQ (fun _ => hac _) ?_ | refine d_fnQ (fun _ => hpa _) ?_ | refine d_fnQ (fun _ => hrc _) ?_ | refine d_fnQ (fun _ => hcd _) ?_ | refine d_fnQ (fun _ => hsc _) ?_ | refine d_fnQ (fun _ => lnone_c _ _ _) ?_) <;> try first | omega | assumption) | (refine g_d ?_; (first | refine d_fnY (lawake_c _) ?_ | refine d_fnY (hlg _) ?_ | refine d_fnY (hsn _) ?_ | refine d_fnY (hcp _) ?_ | refine d_fnY (hcu _) ?_ | refine d_fnY (hpo _) ?_ | refine d_fnY (hra _) ?_ | refine d_fnY (hac _) ?_ | refine d_fnY (hpa _) ?_ | refine d_fnY (hrc _) ?_ | refine d_fnY (hcd _) ?_ | refine d_fnY (hsc _) ?_ | refine d_fnY (lnone_c _ _ _) ?_) <;> try first | omega | assumption)))
        all_goals (try (exfalso; omega))
        all_goals (refine r_es hQ ?_; try with_reducible rfl)
  · rw [psE_pt hp, if_pos hp] at hpo hra
    rw [if_pos hp] at hcu
    simp only [frO] at hpo hra
    have e0 : ptE a s = if acErr a ≠ 0 then acErr a else if prI a s < 0 then 6 else 0 := rfl
    unfold actV at hlg hcp hcu hpo hra hac ⊢
    by_cases h1 : acErr a = 0
    · rw [if_neg (by omega)] at e0
      have h2 : prI a s < 0 := by
        rcases Int.lt_or_le (prI a s) 0 with h | h
        · exact h
        · rw [if_neg (by omega)] at e0; exact absurd e0 hp
      rw [if_pos h2] at e0
      rw [e0] at hcu hpo hra
      rw [h1] at hac
      have hx0 := h2
      unfold prI at hx0
      refine Gives_in Tryz.func7 rfl Tryz.ntmps7 Tryz.results7 (by kernel_rfl) (by simp) rfl fun Q hQ => ?_
      (have FX := hx0; repeat' (first | (refine sx ?_ ?_ <;> intro h <;> first | (exfalso; omega) | skip) | (refine g_op ?_; refine g_call ?_; refine g_args ?_; (first | refine s_fn (lawake_c _) ?_ | refine s_fn (hlg _) ?_ | refine s_fn (hsn _) ?_ | refine s_fn (hcp _) ?_ | refine s_fn (hcu _) ?_ | refine s_fn (hpo _) ?_ | refine s_fn (hra _) ?_ | refine s_fn (hac _) ?_ | refine s_fn (hpa _) ?_ | refine s_fn (lnone_c _ _ _) ?_) <;> try first | omega | assumption) | refine ny ?_ | refine WA_block ?_ | (refine uH11_7_6 ?_; refine ⟨by kernel_rfl, ?_⟩) | (refine uH11_7_7 ?_; refine ⟨by kernel_rfl, ?_⟩) | (refine uH11_7_22 ?_; refine ⟨by kernel_rfl, ?_⟩) | ((first | refine grp_cons (fun _ => lawake_c _) ?_ | refine grp_cons (fun _ => hlg _) ?_ | refine grp_cons (fun _ => hsn _) ?_ | refine grp_cons (fun _ => hcp _) ?_ | refine grp_cons (fun _ => hcu _) ?_ | refine grp_cons (fun _ => hpo _) ?_ | refine grp_cons (fun _ => hra _) ?_ | refine grp_cons (fun _ => hac _) ?_ | refine grp_cons (fun _ => hpa _) ?_ | refine grp_cons (fun _ => lnone_c _ _ _) ?_) <;> try first | omega | assumption) | (refine g_d ?_; refine d_args ?_; (first | refine d_fn (lawake_c _) ?_ | refine d_fn (hlg _) ?_ | refine d_fn (hsn _) ?_ | refine d_fn (hcp _) ?_ | refine d_fn (hcu _) ?_ | refine d_fn (hpo _) ?_ | refine d_fn (hra _) ?_ | refine d_fn (hac _) ?_ | refine d_fn (hpa _) ?_ | refine d_fn (lnone_c _ _ _) ?_ | refine d_fnQ (fun _ => lawake_c _) ?_ | refine d_fnQ (fun _ => hlg _) ?_ | refine d_fnQ (fun _ => hsn _) ?_ | refine d_fnQ (fun _ => hcp _) ?_ | refine d_fnQ (fun _ => hcu _) ?_ | refine d_fnQ (fun _ => hpo _) ?_ | refine d_fnQ (fun _ => hra _) ?_ | refine d_fnQ (fun _ => hac _) ?_ | refine d_fnQ (fun _ => hpa _) ?_ | refine d_fnQ (fun _ => lnone_c _ _ _) ?_) <;> try first | omega | assumption) | (refine g_d ?_; (first | refine d_fnY (lawake_c _) ?_ | refine d_fnY (hlg _) ?_ | refine d_fnY (hsn _) ?_ | refine d_fnY (hcp _) ?_ | refine d_fnY (hcu _) ?_ | refine d_fnY (hpo _) ?_ | refine d_fnY (hra _) ?_ | refine d_fnY (hac _) ?_ | refine d_fnY (hpa _) ?_ | refine d_fnY (lnone_c _ _ _) ?_) <;> try first | omega | assumption)))
      all_goals (try (exfalso; omega))
      all_goals (refine r_es hQ ?_; try with_reducible rfl)
    · rw [if_pos h1] at e0
      rw [e0] at hcu hpo hra
      have hx0 := h1
      refine Gives_in Tryz.func7 rfl Tryz.ntmps7 Tryz.results7 (by kernel_rfl) (by simp) rfl fun Q hQ => ?_
      (have FX := hx0; repeat' (first | (refine sx ?_ ?_ <;> intro h <;> first | (exfalso; omega) | skip) | (refine g_op ?_; refine g_call ?_; refine g_args ?_; (first | refine s_fn (lawake_c _) ?_ | refine s_fn (hlg _) ?_ | refine s_fn (hsn _) ?_ | refine s_fn (hcp _) ?_ | refine s_fn (hcu _) ?_ | refine s_fn (hpo _) ?_ | refine s_fn (hra _) ?_ | refine s_fn (hac _) ?_ | refine s_fn (hpa _) ?_ | refine s_fn (lnone_c _ _ _) ?_) <;> try first | omega | assumption) | refine ny ?_ | refine WA_block ?_ | (refine uH11_7_6 ?_; refine ⟨by kernel_rfl, ?_⟩) | (refine uH11_7_7 ?_; refine ⟨by kernel_rfl, ?_⟩) | (refine uH11_7_22 ?_; refine ⟨by kernel_rfl, ?_⟩) | ((first | refine grp_cons (fun _ => lawake_c _) ?_ | refine grp_cons (fun _ => hlg _) ?_ | refine grp_cons (fun _ => hsn _) ?_ | refine grp_cons (fun _ => hcp _) ?_ | refine grp_cons (fun _ => hcu _) ?_ | refine grp_cons (fun _ => hpo _) ?_ | refine grp_cons (fun _ => hra _) ?_ | refine grp_cons (fun _ => hac _) ?_ | refine grp_cons (fun _ => hpa _) ?_ | refine grp_cons (fun _ => lnone_c _ _ _) ?_) <;> try first | omega | assumption) | (refine g_d ?_; refine d_args ?_; (first | refine d_fn (lawake_c _) ?_ | refine d_fn (hlg _) ?_ | refine d_fn (hsn _) ?_ | refine d_fn (hcp _) ?_ | refine d_fn (hcu _) ?_ | refine d_fn (hpo _) ?_ | refine d_fn (hra _) ?_ | refine d_fn (hac _) ?_ | refine d_fn (hpa _) ?_ | refine d_fn (lnone_c _ _ _) ?_ | refine d_fnQ (fun _ => lawake_c _) ?_ | refine d_fnQ (fun _ => hlg _) ?_ | refine d_fnQ (fun _ => hsn _) ?_ | refine d_fnQ (fun _ => hcp _) ?_ | refine d_fnQ (fun _ => hcu _) ?_ | refine d_fnQ (fun _ => hpo _) ?_ | refine d_fnQ (fun _ => hra _) ?_ | refine d_fnQ (fun _ => hac _) ?_ | refine d_fnQ (fun _ => hpa _) ?_ | refine d_fnQ (fun _ => lnone_c _ _ _) ?_) <;> try first | omega | assumption) | (refine g_d ?_; (first | refine d_fnY (lawake_c _) ?_ | refine d_fnY (hlg _) ?_ | refine d_fnY (hsn _) ?_ | refine d_fnY (hcp _) ?_ | refine d_fnY (hcu _) ?_ | refine d_fnY (hpo _) ?_ | refine d_fnY (hra _) ?_ | refine d_fnY (hac _) ?_ | refine d_fnY (hpa _) ?_ | refine d_fnY (lnone_c _ _ _) ?_) <;> try first | omega | assumption)))
      all_goals (try (exfalso; omega))
      all_goals (refine r_es hQ ?_; try with_reducible rfl)
theorem parts_law (a : ActR) (s : List UInt8) (n d : Int) (m : Mem) : Gives Tryz.prog 7 [.agg (actV a), .str s, .agg [.int .i64 n, .int .i64 d]] m (.bool true) := by
  by_cases h : light a ∧ ¬ 30 < (s.length : Int) ∧ sane n d
  · exact parts_in a s n d h.1 h.2.1 h.2.2 m
  · exact parts_out a s n d h m
end Go.Proofs.YtmigenmibohnkaaGreat
