/- contracts: the reference's curves of parts, dips of events -/
import Derived.Test.YtihbeoplchiikaaGreatDoorC49
import Derived.Test.YtihbeoplchiikaaGreatDoorC21
import Derived.Test.YtihbeoplchiikaaGreatDoorGF
set_option linter.unusedSimpArgs false
set_option linter.unusedVariables false
namespace Go.Proofs.YtihbeoplchiikaaGreatDoor
open Go.RowKit
attribute [local irreducible] WA WOs WDs WAn qThen qBlock tput
set_option maxHeartbeats 1000000
set_option maxRecDepth 20000
set_option linter.unusedSimpArgs false
set_option linter.unusedVariables false
attribute [local irreducible] smB cut sm quoQ quoB slP slG vP vG compP
theorem rcpV_form {o c : List Pt} (ho : Valid o) (hc : Valid c) : ∃ z b, plainLL z = true ∧ rcpV o c = .tup [.agg [.lst z], .bool b] ∧ (∀ l, compP o c = some l → z = ptsV l ∧ b = true) ∧ (compP o c = none → b = false) := by
  unfold rcpV
  by_cases h1 : cmpG o c c.length = true
  · rw [if_pos h1]
    refine ⟨[], false, rfl, rfl, fun l h => ?_, fun _ => rfl⟩
    have := (compP_some h).1
    rw [h1] at this; cases this
  · rw [if_neg h1]
    have h1 : cmpG o c c.length = false := by simpa using h1
    refine ⟨_, _, ptsV_plain _, rfl, fun l h => ?_, fun h => ?_⟩
    · rcases compP_cu ho hc h1 with ⟨h3, h4⟩ | ⟨h3, h4⟩
      · rw [h4] at h; cases h; exact ⟨rfl, decide_eq_true h3⟩
      · rw [h4] at h; cases h
    · rcases compP_cu ho hc h1 with ⟨h3, h4⟩ | ⟨h3, h4⟩
      · rw [h4] at h; cases h
      · exact decide_eq_false h3
theorem rcompose_v (o c : List Pt) (ho : Valid o) (hc : Valid c) : ∃ z b, plainLL z = true ∧ (∀ m, Gives Tryz.prog 100 [.agg [.lst (ptsV o)], .agg [.lst (ptsV c)]] m (.tup [.agg [.lst z], .bool b])) ∧ (∀ l, compP o c = some l → z = ptsV l ∧ b = true) ∧ (compP o c = none → b = false) := by
  obtain ⟨z, b, h1, h2, h3, h4⟩ := rcpV_form ho hc
  refine ⟨z, b, h1, fun m => ?_, h3, h4⟩
  rw [← h2]
  exact Gives_weak (rcompose_w o c ho hc m) (rcpW_V o c)
theorem uC50_86_2 {N : Nat} {l : List Oper} {t : List (Nat × V)} {m : Mem} {Q : Exit → List (Nat × V) → Mem → Prop} (h : RgN Tryz.prog N l t m Q (fun i => if i == 13 then .f else if i == 10 || i == 12 then .a else if i == 0 || i == 1 || i == 4 || i == 5 || i == 7 || i == 8 then .q else .p) [.one 0, .one 1, .one 2, .one 3, .one 4, .one 5, .one 6, .one 7, .one 8, .one 9, .grp true [] [10, 12], .one 11, .one 13]) : WA Tryz.prog N (.region 2 l.toArray true) t m Q := d_rgN h
theorem uC50_86_4 {N : Nat} {l : List Oper} {t : List (Nat × V)} {m : Mem} {Q : Exit → List (Nat × V) → Mem → Prop} (h : RgN Tryz.prog N l t m Q (fun i => if i == 11 then .f else if i == 6 || i == 10 then .a else if i == 0 || i == 2 || i == 4 || i == 5 then .q else .p) [.one 0, .one 1, .one 2, .one 3, .one 4, .one 5, .grp true [6] [10], .one 7, .one 8, .one 9, .one 11, .one 12]) : WA Tryz.prog N (.region 4 l.toArray true) t m Q := d_rgN h
theorem rcurveof_c (a : ActR) (ha : Lt a) (h : acErr a = 0) : ∀ (n i : Nat), i < n → i < a.parts.length → ∃ z b, plainLL z = true ∧ (∀ l, curP a n i = some l → z = ptsV l ∧ b = true) ∧ (curP a n i = none → b = false) ∧ ∀ m, Gives Tryz.prog 86 [.agg (actV a), .int .i64 i] m (.tup [.agg [.lst z], .bool b]) := by
  intro n
  induction n with
  | zero => intro i hi; omega
  | succ n ih =>
    intro i hin hi
    have hp := acErr_pts h
    have hla := prtsV_length (l := a.parts)
    have hga := prtsV_get hi
    have hat := ptErr_zero (hp.pt i hi)
    have hdr := fun hd => drv_lt hp hi hd
    have hcv := fun (l : List Pt) (j : Nat) (hj : j < a.parts.length) (hc : curP a n j = some l) => curP_valid hp hj hc
    have hcu : curP a (n + 1) i = (if (a.parts.getD i p0).driver = [] then some (dipC a) else curP a n (drv a (a.parts.getD i p0))).bind fun d => compP ((a.parts.getD i p0).cor.map toP) d := rfl
    generalize a.parts.getD i p0 = p at *
    obtain ⟨kv, kr⟩ := knee_valid hat.2.2.2.1
    have hks : rksV p.cor = ptsV (p.cor.map toP) := by rw [ptsV_raw, kr]
    unfold prtV at hga
    rw [hks] at hga
    by_cases hd : p.driver = []
    · rw [if_pos hd] at hcu
      simp only [Option.bind_some] at hcu
      obtain ⟨z, b, g1, g2, g3, g4⟩ := rcompose_v (p.cor.map toP) (dipC a) kv (dipC_valid hp)
      refine ⟨z, b, g1, fun l hl => g3 l (by rw [← hcu]; exact hl), fun hl => g4 (by rw [← hcu]; exact hl), fun m => ?_⟩
      have hdp : ptsV (dipC a) = [[V.int .i64 0, V.int .i64 1, V.int .i64 0, V.int .i64 1], [V.int .i64 a.dip, V.int .i64 1, V.int .i64 a.dip, V.int .i64 1]] := rfl
      rw [hdp] at g2
      have hfx := hd
      have hrc := fun m => rwhole_c 0 m
      unfold actV
      refine CallA_in Tryz.func86 rfl Tryz.ntmps86 Tryz.results86 (by kernel_rfl) (by simp) fun Q hQ => ?_
      (have FX := fx3 hla hga hfx; repeat' (first | (refine sx ?_ ?_ <;> intro h <;> first | (exfalso; omega) | skip) | (refine na ?_; (first | refine nb (rwhole_c _) ?_ | refine s_fn (rpartat_c a.parts _ _ ha.np) ?_ | refine d_fn (rpartat_c a.parts _ _ ha.np) ?_ | refine d_fnQ (fun _ => rpartat_c a.parts _ _ ha.np) ?_ | refine grp_cons (fun _ => rpartat_c a.parts _ _ ha.np) ?_ | refine nb hrc ?_) <;> try first | omega | assumption) | refine ny ?_ | refine WA_block ?_ | (refine uC50_86_2 ?_; refine ⟨by kernel_rfl, ?_⟩) | (refine uC50_86_4 ?_; refine ⟨by kernel_rfl, ?_⟩) | (refine g_d ?_; (first | refine d_fnY (rwhole_c _ _) ?_ | refine d_fnY (rpartat_c a.parts _ _ ha.np) ?_ | refine d_fnY (hrc _) ?_) <;> try first | omega | assumption)))
      all_goals (try (exfalso; omega))
      refine g_op ?_
      refine g_call ?_
      refine g_args ?_
      refine s_fzA (B := lend m) 5 (g2 _) ?_ rfl rfl (by simp [frzA, frzV]) rfl
      (have FX := fx3 hla hga hfx; repeat' (first | (refine sx ?_ ?_ <;> intro h <;> first | (exfalso; omega) | skip) | (refine na ?_; (first | refine nb (rwhole_c _) ?_ | refine s_fn (rpartat_c a.parts _ _ ha.np) ?_ | refine d_fn (rpartat_c a.parts _ _ ha.np) ?_ | refine d_fnQ (fun _ => rpartat_c a.parts _ _ ha.np) ?_ | refine grp_cons (fun _ => rpartat_c a.parts _ _ ha.np) ?_ | refine nb hrc ?_) <;> try first | omega | assumption) | refine ny ?_ | refine WA_block ?_ | (refine uC50_86_2 ?_; refine ⟨by kernel_rfl, ?_⟩) | (refine uC50_86_4 ?_; refine ⟨by kernel_rfl, ?_⟩) | (refine g_d ?_; (first | refine d_fnY (rwhole_c _ _) ?_ | refine d_fnY (rpartat_c a.parts _ _ ha.np) ?_ | refine d_fnY (hrc _) ?_) <;> try first | omega | assumption)))
      all_goals (refine r_esA hQ (fin_lstb g1 ⟨rfl, rfl⟩))
    · obtain ⟨hd1, hd2⟩ := hdr hd
      rw [if_neg hd] at hcu
      obtain ⟨z0, b0, k1, k2, k3, k4⟩ := ih (drv a p) (by omega) (by omega)
      have hfx := hd2
      have hrc := k4
      rw [← hd2] at hrc
      unfold actV at hrc ⊢
      cases hcr : curP a n (drv a p) with
      | none =>
        rw [hcr] at hcu
        obtain rfl := k3 hcr
        simp only [Option.bind_none] at hcu
        refine ⟨[], false, rfl, fun l hl => (by rw [hcu] at hl; cases hl), fun _ => rfl, fun m => ?_⟩
        refine Gives_weak (v := .tup [.agg [.nilsl], .bool false]) ?_ (wk_tup ⟨wk_agg ⟨wk_nil, trivial⟩, WkV.refl _, trivial⟩)
        refine Gives_in Tryz.func86 rfl Tryz.ntmps86 Tryz.results86 (by kernel_rfl) (by simp) rfl fun Q hQ => ?_
        (have FX := fx3 hla hga hfx; repeat' (first | (refine sx ?_ ?_ <;> intro h <;> first | (exfalso; omega) | skip) | (refine na ?_; (first | refine nb (rwhole_c _) ?_ | refine s_fn (rpartat_c a.parts _ _ ha.np) ?_ | refine d_fn (rpartat_c a.parts _ _ ha.np) ?_ | refine d_fnQ (fun _ => rpartat_c a.parts _ _ ha.np) ?_ | refine grp_cons (fun _ => rpartat_c a.parts _ _ ha.np) ?_ | refine nb hrc ?_) <;> try first | omega | assumption) | refine ny ?_ | refine WA_block ?_ | (refine uC50_86_2 ?_; refine ⟨by kernel_rfl, ?_⟩) | (refine uC50_86_4 ?_; refine ⟨by kernel_rfl, ?_⟩) | (refine g_d ?_; (first | refine d_fnY (rwhole_c _ _) ?_ | refine d_fnY (rpartat_c a.parts _ _ ha.np) ?_ | refine d_fnY (hrc _) ?_) <;> try first | omega | assumption)))
        all_goals (try (exfalso; first | omega | contradiction))
        all_goals (refine r_es hQ ?_; try with_reducible rfl)
      | some d =>
        rw [hcr] at hcu
        obtain ⟨rfl, rfl⟩ := k2 d hcr
        simp only [Option.bind_some] at hcu
        have hvd := hcv d _ (by omega) hcr
        obtain ⟨z, b, g1, g2, g3, g4⟩ := rcompose_v (p.cor.map toP) d kv hvd
        refine ⟨z, b, g1, fun l hl => g3 l (by rw [← hcu]; exact hl), fun hl => g4 (by rw [← hcu]; exact hl), fun m => ?_⟩
        refine CallA_in Tryz.func86 rfl Tryz.ntmps86 Tryz.results86 (by kernel_rfl) (by simp) fun Q hQ => ?_
        (have FX := fx3 hla hga hfx; repeat' (first | (refine sx ?_ ?_ <;> intro h <;> first | (exfalso; omega) | skip) | (refine na ?_; (first | refine nb (rwhole_c _) ?_ | refine s_fn (rpartat_c a.parts _ _ ha.np) ?_ | refine d_fn (rpartat_c a.parts _ _ ha.np) ?_ | refine d_fnQ (fun _ => rpartat_c a.parts _ _ ha.np) ?_ | refine grp_cons (fun _ => rpartat_c a.parts _ _ ha.np) ?_ | refine nb hrc ?_) <;> try first | omega | assumption) | refine ny ?_ | refine WA_block ?_ | (refine uC50_86_2 ?_; refine ⟨by kernel_rfl, ?_⟩) | (refine uC50_86_4 ?_; refine ⟨by kernel_rfl, ?_⟩) | (refine g_d ?_; (first | refine d_fnY (rwhole_c _ _) ?_ | refine d_fnY (rpartat_c a.parts _ _ ha.np) ?_ | refine d_fnY (hrc _) ?_) <;> try first | omega | assumption)))
        all_goals (try (exfalso; first | omega | contradiction))
        refine g_op ?_
        refine g_call ?_
        refine g_args ?_
        refine s_fn (g2 _) ?_
        (have FX := fx3 hla hga hfx; repeat' (first | (refine sx ?_ ?_ <;> intro h <;> first | (exfalso; omega) | skip) | (refine na ?_; (first | refine nb (rwhole_c _) ?_ | refine s_fn (rpartat_c a.parts _ _ ha.np) ?_ | refine d_fn (rpartat_c a.parts _ _ ha.np) ?_ | refine d_fnQ (fun _ => rpartat_c a.parts _ _ ha.np) ?_ | refine grp_cons (fun _ => rpartat_c a.parts _ _ ha.np) ?_ | refine nb hrc ?_) <;> try first | omega | assumption) | refine ny ?_ | refine WA_block ?_ | (refine uC50_86_2 ?_; refine ⟨by kernel_rfl, ?_⟩) | (refine uC50_86_4 ?_; refine ⟨by kernel_rfl, ?_⟩) | (refine g_d ?_; (first | refine d_fnY (rwhole_c _ _) ?_ | refine d_fnY (rpartat_c a.parts _ _ ha.np) ?_ | refine d_fnY (hrc _) ?_) <;> try first | omega | assumption)))
        all_goals (refine r_esA hQ (fin_lstb g1 ⟨rfl, rfl⟩))
/-- the curve of a part -/
theorem rcvof_c (a : ActR) (ha : Lt a) (h : acErr a = 0) (i : Nat) (hi : i < a.parts.length) : ∃ z b, plainLL z = true ∧ (∀ l, cvP a i = some l → z = ptsV l ∧ b = true) ∧ (cvP a i = none → b = false) ∧ ∀ m, Gives Tryz.prog 86 [.agg (actV a), .int .i64 i] m (.tup [.agg [.lst z], .bool b]) :=
  rcurveof_c a ha h 13 i (by have := (acErr_pts h).few; omega) hi
end Go.Proofs.YtihbeoplchiikaaGreatDoor
