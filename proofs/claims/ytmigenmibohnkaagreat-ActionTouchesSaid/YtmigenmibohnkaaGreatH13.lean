/- the law ActionTouches, over contracts -/
import Derived.Test.YtmigenmibohnkaaGreatC54
import Derived.Test.YtmigenmibohnkaaGreatC47
import Derived.Test.YtmigenmibohnkaaGreatC39
set_option linter.unusedSimpArgs false
set_option linter.unusedVariables false
namespace Go.Proofs.YtmigenmibohnkaaGreat
open Go.RowKit
attribute [local irreducible] WA WOs WDs WAn qThen qBlock tput
set_option maxHeartbeats 1000000
set_option maxRecDepth 20000
set_option linter.unusedSimpArgs false
set_option linter.unusedVariables false
set_option maxHeartbeats 8000000
attribute [local irreducible] smB cut sm
theorem uH13_55_1 {N : Nat} {l : List Oper} {t : List (Nat × V)} {m : Mem} {Q : Exit → List (Nat × V) → Mem → Prop} (h : RgN Tryz.prog N l t m Q (fun i => if i == 1 || i == 3 || i == 4 || i == 5 || i == 9 || i == 11 || i == 12 || i == 13 then .q else .p) [.one 0, .one 1, .one 2, .one 3, .one 4, .one 5, .one 6, .one 7, .one 8, .one 9, .one 10, .one 11, .one 12, .one 13, .one 14, .one 15, .one 16]) : WA Tryz.prog N (.region 1 l.toArray true) t m Q := d_rgN h
theorem rinwin_c (p q : Rat) (dn up : Int) (hp : sm p) (hq : sm q) (hw : winErr dn up = 0) (m : Mem) : Gives Tryz.prog 55 [.agg [.int .i64 p.num, .int .i64 (p.den : Int), .int .i64 q.num, .int .i64 (q.den : Int)], .agg [.int .i64 dn, .int .i64 up]] m (.bool (decide (¬ ((dn : Rat) < p ∨ q < (up : Rat))))) := by
  obtain ⟨w1, w2⟩ := win_ok hw
  have h1 : ∀ m, Gives Tryz.prog 34 [.agg [.int .i64 (Rat.num (p)), .int .i64 ((Rat.den (p) : Nat) : Int)], .agg [.int .i64 dn, .int .i64 1]] m (.int .i64 (cmpQ p (dn : Rat))) := fun m => bcmp_c p (dn : Rat) hp w1 m
  have h2 : ∀ m, Gives Tryz.prog 34 [.agg [.int .i64 (Rat.num (q)), .int .i64 ((Rat.den (q) : Nat) : Int)], .agg [.int .i64 up, .int .i64 1]] m (.int .i64 (cmpQ q (up : Rat))) := fun m => bcmp_c q (up : Rat) hq w2 m
  have c1 := cmpQ_gt (p := p) (q := (dn : Rat))
  have c2 := cmpQ_lt (p := q) (q := (up : Rat))
  have hx0 := hw
  refine Gives_in Tryz.func55 rfl Tryz.ntmps55 Tryz.results55 (by kernel_rfl) (by simp) rfl fun Q hQ => ?_
  (have FX := hx0; repeat' (first | (refine sx ?_ ?_ <;> intro h <;> first | (exfalso; omega) | skip) | (refine g_op ?_; refine g_call ?_; refine g_args ?_; (first | refine s_fn (rwhole_c _ _) ?_ | refine s_fn (h1 _) ?_ | refine s_fn (h2 _) ?_) <;> try first | omega | assumption) | refine ny ?_ | refine WA_block ?_ | (refine uH13_55_1 ?_; refine ⟨by kernel_rfl, ?_⟩) | ((first | refine grp_cons (fun _ => rwhole_c _ _) ?_ | refine grp_cons (fun _ => h1 _) ?_ | refine grp_cons (fun _ => h2 _) ?_) <;> try first | omega | assumption) | (refine g_d ?_; refine d_args ?_; (first | refine d_fn (rwhole_c _ _) ?_ | refine d_fn (h1 _) ?_ | refine d_fn (h2 _) ?_ | refine d_fnQ (fun _ => rwhole_c _ _) ?_ | refine d_fnQ (fun _ => h1 _) ?_ | refine d_fnQ (fun _ => h2 _) ?_) <;> try first | omega | assumption) | (refine g_d ?_; (first | refine d_fnY (rwhole_c _ _) ?_ | refine d_fnY (h1 _) ?_ | refine d_fnY (h2 _) ?_) <;> try first | omega | assumption)))
  all_goals (try (exfalso; omega))
  all_goals ((refine r_es hQ ?_; try with_reducible rfl))
  all_goals (exact congrArg V.bool (by first | exact (decide_eq_true (by grind)).symm | exact (decide_eq_false (by grind)).symm | exact decide_eq_decide.2 (by grind)))
theorem uH13_8_5 {N : Nat} {l : List Oper} {t : List (Nat × V)} {m : Mem} {Q : Exit → List (Nat × V) → Mem → Prop} (h : RgN Tryz.prog N l t m Q (fun i => if i == 8 then .f else if i == 1 || i == 3 || i == 7 then .a else if i == 0 || i == 2 then .q else .p) [.one 0, .one 2, .grp true [1, 3] [7], .one 4, .one 5, .one 6, .one 8, .one 9]) : WA Tryz.prog N (.region 5 l.toArray true) t m Q := d_rgN h
theorem uH13_8_6 {N : Nat} {l : List Oper} {t : List (Nat × V)} {m : Mem} {Q : Exit → List (Nat × V) → Mem → Prop} (h : RgN Tryz.prog N l t m Q (fun i => if i == 8 then .f else if i == 1 || i == 3 || i == 7 then .a else if i == 0 || i == 2 then .q else .p) [.one 0, .one 2, .grp true [1, 3] [7], .one 4, .one 5, .one 6, .one 8, .one 9]) : WA Tryz.prog N (.region 6 l.toArray true) t m Q := d_rgN h
theorem uH13_8_7 {N : Nat} {l : List Oper} {t : List (Nat × V)} {m : Mem} {Q : Exit → List (Nat × V) → Mem → Prop} (h : RgN Tryz.prog N l t m Q (fun i => if i == 1 || i == 4 then .a else if i == 0 || i == 2 || i == 3 then .q else .p) [.one 0, .one 2, .one 3, .one 1, .one 4, .one 5]) : WA Tryz.prog N (.region 7 l.toArray true) t m Q := d_rgN h
theorem uH13_8_11 {N : Nat} {l : List Oper} {t : List (Nat × V)} {m : Mem} {Q : Exit → List (Nat × V) → Mem → Prop} (h : RgN Tryz.prog N l t m Q (fun i => if i == 0 || i == 1 || i == 2 || i == 3 || i == 4 then .q else .p) [.one 0, .one 1, .one 2, .one 3, .one 4, .one 5, .one 6]) : WA Tryz.prog N (.region 11 l.toArray true) t m Q := d_rgN h
theorem touches_out (a : ActR) (dn up n d : Int) (hout : ¬ (light a ∧ sane n d)) (m : Mem) : Gives Tryz.prog 8 [.agg (actV a), .agg [.int .i64 dn, .int .i64 up], .agg [.int .i64 n, .int .i64 d]] m (.bool true) := by
  have hlg := fun m => llight_c a m
  unfold actV at hlg ⊢
  refine Gives_in Tryz.func8 rfl Tryz.ntmps8 Tryz.results8 (by kernel_rfl) (by simp) rfl fun Q hQ => ?_
  (repeat' (first | (refine sx ?_ ?_ <;> intro h <;> first | (exfalso; omega) | skip) | (refine g_op ?_; refine g_call ?_; refine g_args ?_; (first | refine s_fn (lawake_c _) ?_ | refine s_fn (hlg _) ?_ | refine s_fn (lsane_d _ _ _) ?_) <;> try first | omega | assumption) | refine ny ?_ | refine WA_block ?_ | (refine uH13_8_5 ?_; refine ⟨by kernel_rfl, ?_⟩) | (refine uH13_8_6 ?_; refine ⟨by kernel_rfl, ?_⟩) | (refine uH13_8_7 ?_; refine ⟨by kernel_rfl, ?_⟩) | (refine uH13_8_11 ?_; refine ⟨by kernel_rfl, ?_⟩) | ((first | refine grp_cons (fun _ => lawake_c _) ?_ | refine grp_cons (fun _ => hlg _) ?_ | refine grp_cons (fun _ => lsane_d _ _ _) ?_) <;> try first | omega | assumption) | (refine g_d ?_; refine d_args ?_; (first | refine d_fn (lawake_c _) ?_ | refine d_fn (hlg _) ?_ | refine d_fn (lsane_d _ _ _) ?_ | refine d_fnQ (fun _ => lawake_c _) ?_ | refine d_fnQ (fun _ => hlg _) ?_ | refine d_fnQ (fun _ => lsane_d _ _ _) ?_) <;> try first | omega | assumption) | (refine g_d ?_; (first | refine d_fnY (lawake_c _) ?_ | refine d_fnY (hlg _) ?_ | refine d_fnY (lsane_d _ _ _) ?_) <;> try first | omega | assumption)))
  all_goals (try (exfalso; first | exact hout ⟨by assumption, by assumption⟩ | omega))
  all_goals (refine r_es hQ ?_; try with_reducible rfl)
theorem touches_w (a : ActR) (dn up n d : Int) (hL : light a) (hsa : sane n d) (hac0 : acErr a = 0) (hd0 : dipErr a n d = 0) (o1 o2 o3 e f g wn s1 s2 b1 b2 t1 t2 t3 t4 x1 x2 x3 x4 : Int) (hwn : winErr dn up = wn)
    (hba : ∀ m, Gives Tryz.prog 31 [.agg (actV a), .agg [.int .i64 n, .int .i64 d]] m (.tup [.agg [.int .i64 b1, .int .i64 b2], .int .i64 e]))
    (hto : ∀ m, Gives Tryz.prog 29 [.agg (actV a), .agg [.int .i64 n, .int .i64 d]] m (.tup [.agg [.int .i64 t1, .int .i64 t2, .int .i64 t3, .int .i64 t4], .int .i64 f]))
    (hct : ∀ m, Gives Tryz.prog 51 [.agg (actV a), .agg [.int .i64 dn, .int .i64 up], .agg [.int .i64 n, .int .i64 d]] m (.int .i64 g))
    (hrb : ∀ m, Gives Tryz.prog 53 [.agg (actV a), .agg [.int .i64 n, .int .i64 d]] m (.tup [.agg [.int .i64 s1, .int .i64 s2], .bool (decide (o1 = 1))]))
    (hrw : ∀ m, Gives Tryz.prog 54 [.agg (actV a), .agg [.int .i64 n, .int .i64 d]] m (.tup [.agg [.int .i64 x1, .int .i64 x2, .int .i64 x3, .int .i64 x4], .bool (decide (o2 = 1))]))
    (hiw : o2 = 1 → wn = 0 → ∀ m, Gives Tryz.prog 55 [.agg [.int .i64 x1, .int .i64 x2, .int .i64 x3, .int .i64 x4], .agg [.int .i64 dn, .int .i64 up]] m (.bool (decide (o3 = 1))))
    (F1 : (o1 = 1 → e = 0 ∧ b1 = s1 ∧ b2 = s2) ∧ (¬ o1 = 1 → e = 8 ∧ b1 = 0 ∧ b2 = 0)) (F2 : (o2 = 1 → f = 0 ∧ t1 = x1 ∧ t2 = x2 ∧ t3 = x3 ∧ t4 = x4) ∧ (¬ o2 = 1 → f = 8 ∧ t1 = 0 ∧ t2 = 0 ∧ t3 = 0 ∧ t4 = 0))
    (F3 : (¬ wn = 0 → g = wn) ∧ (wn = 0 → ¬ o2 = 1 → g = 8) ∧ (wn = 0 → o2 = 1 → (o3 = 1 → g = 0) ∧ (¬ o3 = 1 → g = 26))) (m : Mem) : Gives Tryz.prog 8 [.agg (actV a), .agg [.int .i64 dn, .int .i64 up], .agg [.int .i64 n, .int .i64 d]] m (.bool true) := by
  have hlt := light_lt hL
  obtain ⟨q1, q2⟩ := sane_b hsa
  have hla := prtsV_length (l := a.parts)
  have hlg := fun m => llight_c a m
  rw [decide_eq_true hL] at hlg
  have hsn := fun m => lsane_d n d m
  rw [decide_eq_true hsa] at hsn
  have hcp := fun m => lcopied_l a hL m
  have hac := fun m => rcheckaction_c a hlt m
  rw [hac0] at hac
  have hcw := fun m => rcheckwin_c dn up m
  rw [hwn] at hcw
  have hcd := fun m => rcheckdip_c a hac0 n d q1 q2 m
  rw [hd0] at hcd
  unfold actV at hlg hcp hac hcd hba hto hct hrb hrw ⊢
  refine Gives_in Tryz.func8 rfl Tryz.ntmps8 Tryz.results8 (by kernel_rfl) (by simp) rfl fun Q hQ => ?_
  (have FX := hla; repeat' (first | (refine sx ?_ ?_ <;> intro h <;> first | (exfalso; omega) | skip) | (refine g_op ?_; refine g_call ?_; refine g_args ?_; (first | refine s_fn (lawake_c _) ?_ | refine s_fn (hlg _) ?_ | refine s_fn (hsn _) ?_ | refine s_fn (hcp _) ?_ | refine s_fn (hba _) ?_ | refine s_fn (hto _) ?_ | refine s_fn (hct _) ?_ | refine s_fn (hac _) ?_ | refine s_fn (hcw _) ?_ | refine s_fn (hcd _) ?_ | refine s_fn (hrb _) ?_ | refine s_fn (hrw _) ?_ | refine s_fn (hiw (by assumption) (by assumption) _) ?_ | refine s_fn (lnone_c _ _ _) ?_) <;> try first | omega | assumption) | refine ny ?_ | refine WA_block ?_ | (refine uH13_8_5 ?_; refine ⟨by kernel_rfl, ?_⟩) | (refine uH13_8_6 ?_; refine ⟨by kernel_rfl, ?_⟩) | (refine uH13_8_7 ?_; refine ⟨by kernel_rfl, ?_⟩) | (refine uH13_8_11 ?_; refine ⟨by kernel_rfl, ?_⟩) | ((first | refine grp_cons (fun _ => lawake_c _) ?_ | refine grp_cons (fun _ => hlg _) ?_ | refine grp_cons (fun _ => hsn _) ?_ | refine grp_cons (fun _ => hcp _) ?_ | refine grp_cons (fun _ => hba _) ?_ | refine grp_cons (fun _ => hto _) ?_ | refine grp_cons (fun _ => hct _) ?_ | refine grp_cons (fun _ => hac _) ?_ | refine grp_cons (fun _ => hcw _) ?_ | refine grp_cons (fun _ => hcd _) ?_ | refine grp_cons (fun _ => hrb _) ?_ | refine grp_cons (fun _ => hrw _) ?_ | refine grp_cons (fun _ => hiw (by assumption) (by assumption) _) ?_ | refine grp_cons (fun _ => lnone_c _ _ _) ?_) <;> try first | omega | assumption) | (refine g_d ?_; refine d_args ?_; (first | refine d_fn (lawake_c _) ?_ | refine d_fn (hlg _) ?_ | refine d_fn (hsn _) ?_ | refine d_fn (hcp _) ?_ | refine d_fn (hba _) ?_ | refine d_fn (hto _) ?_ | refine d_fn (hct _) ?_ | refine d_fn (hac _) ?_ | refine d_fn (hcw _) ?_ | refine d_fn (hcd _) ?_ | refine d_fn (hrb _) ?_ | refine d_fn (hrw _) ?_ | refine d_fn (hiw (by assumption) (by assumption) _) ?_ | refine d_fn (lnone_c _ _ _) ?_ | refine d_fnQ (fun _ => lawake_c _) ?_ | refine d_fnQ (fun _ => hlg _) ?_ | refine d_fnQ (fun _ => hsn _) ?_ | refine d_fnQ (fun _ => hcp _) ?_ | refine d_fnQ (fun _ => hba _) ?_ | refine d_fnQ (fun _ => hto _) ?_ | refine d_fnQ (fun _ => hct _) ?_ | refine d_fnQ (fun _ => hac _) ?_ | refine d_fnQ (fun _ => hcw _) ?_ | refine d_fnQ (fun _ => hcd _) ?_ | refine d_fnQ (fun _ => hrb _) ?_ | refine d_fnQ (fun _ => hrw _) ?_ | refine d_fnQ (fun _ => hiw (by assumption) (by assumption) _) ?_ | refine d_fnQ (fun _ => lnone_c _ _ _) ?_) <;> try first | omega | assumption) | (refine g_d ?_; (first | refine d_fnY (lawake_c _) ?_ | refine d_fnY (hlg _) ?_ | refine d_fnY (hsn _) ?_ | refine d_fnY (hcp _) ?_ | refine d_fnY (hba _) ?_ | refine d_fnY (hto _) ?_ | refine d_fnY (hct _) ?_ | refine d_fnY (hac _) ?_ | refine d_fnY (hcw _) ?_ | refine d_fnY (hcd _) ?_ | refine d_fnY (hrb _) ?_ | refine d_fnY (hrw _) ?_ | refine d_fnY (hiw (by assumption) (by assumption) _) ?_ | refine d_fnY (lnone_c _ _ _) ?_) <;> try first | omega | assumption)))
  all_goals (try (exfalso; omega))
  all_goals (refine r_es hQ ?_; try with_reducible rfl)
  all_goals first
    | rfl
    | exact congrArg V.bool (decide_eq_true (by omega))
theorem touches_err (a : ActR) (dn up n d : Int) (hL : light a) (hsa : sane n d) (he : chkDip a n d ≠ 0) (m : Mem) : Gives Tryz.prog 8 [.agg (actV a), .agg [.int .i64 dn, .int .i64 up], .agg [.int .i64 n, .int .i64 d]] m (.bool true) := by
  have hlt := light_lt hL
  obtain ⟨b1, b2⟩ := sane_b hsa
  have hlg := fun m => llight_c a m
  rw [decide_eq_true hL] at hlg
  have hsn := fun m => lsane_d n d m
  rw [decide_eq_true hsa] at hsn
  have hcp := fun m => lcopied_l a hL m
  have hac := fun m => rcheckaction_c a hlt m
  have hcw := fun m => rcheckwin_c dn up m
  have hba := fun m => abalance_c a hlt n d b1 b2 m
  have hto := fun m => atouchx_c a hlt n d b1 b2 m
  have hct := fun m => achecktouch_c a hlt dn up n d b1 b2 m
  unfold balE at hba
  unfold touE at hto
  rw [if_pos he] at hba hto
  simp only [rchV, frO, touO] at hba hto
  by_cases h1 : acErr a = 0
  · have e1 : chkDip a n d = dipErr a n d := chk_dp h1
    rw [e1] at hba hto he
    have hcd := fun m => rcheckdip_c a h1 n d b1 b2 m
    rw [h1] at hac
    unfold ctE at hct
    rw [if_neg (by omega)] at hct
    unfold actV at hlg hcp hac hcd hba hto hct ⊢
    by_cases h2 : winErr dn up = 0
    · rw [if_neg (by omega), if_pos he] at hct
      have hx0 := And.intro he h2
      refine Gives_in Tryz.func8 rfl Tryz.ntmps8 Tryz.results8 (by kernel_rfl) (by simp) rfl fun Q hQ => ?_
      (have FX := hx0; repeat' (first | (refine sx ?_ ?_ <;> intro h <;> first | (exfalso; omega) | skip) | (refine g_op ?_; refine g_call ?_; refine g_args ?_; (first | refine s_fn (lawake_c _) ?_ | refine s_fn (hlg _) ?_ | refine s_fn (hsn _) ?_ | refine s_fn (hcp _) ?_ | refine s_fn (hba _) ?_ | refine s_fn (hto _) ?_ | refine s_fn (hct _) ?_ | refine s_fn (hac _) ?_ | refine s_fn (hcw _) ?_ | refine s_fn (hcd _) ?_ | refine s_fn (lnone_c _ _ _) ?_) <;> try first | omega | assumption) | refine ny ?_ | refine WA_block ?_ | (refine uH13_8_5 ?_; refine ⟨by kernel_rfl, ?_⟩) | (refine uH13_8_6 ?_; refine ⟨by kernel_rfl, ?_⟩) | (refine uH13_8_7 ?_; refine ⟨by kernel_rfl, ?_⟩) | (refine uH13_8_11 ?_; refine ⟨by kernel_rfl, ?_⟩) | ((first | refine grp_cons (fun _ => lawake_c _) ?_ | refine grp_cons (fun _ => hlg _) ?_ | refine grp_cons (fun _ => hsn _) ?_ | refine grp_cons (fun _ => hcp _) ?_ | refine grp_cons (fun _ => hba _) ?_ | refine grp_cons (fun _ => hto _) ?_ | refine grp_cons (fun _ => hct _) ?_ | refine grp_cons (fun _ => hac _) ?_ | refine grp_cons (fun _ => hcw _) ?_ | refine grp_cons (fun _ => hcd _) ?_ | refine grp_cons (fun _ => lnone_c _ _ _) ?_) <;> try first | omega | assumption) | (refine g_d ?_; refine d_args ?_; (first | refine d_fn (lawake_c _) ?_ | refine d_fn (hlg _) ?_ | refine d_fn (hsn _) ?_ | refine d_fn (hcp _) ?_ | refine d_fn (hba _) ?_ | refine d_fn (hto _) ?_ | refine d_fn (hct _) ?_ | refine d_fn (hac _) ?_ | refine d_fn (hcw _) ?_ | refine d_fn (hcd _) ?_ | refine d_fn (lnone_c _ _ _) ?_ | refine d_fnQ (fun _ => lawake_c _) ?_ | refine d_fnQ (fun _ => hlg _) ?_ | refine d_fnQ (fun _ => hsn _) ?_ | refine d_fnQ (fun _ => hcp _) ?_ | refine d_fnQ (fun _ => hba _) ?_ | refine d_fnQ (fun _ => hto _) ?_ | refine d_fnQ (fun _ => hct _) ?_ | refine d_fnQ (fun _ => hac _) ?_ | refine d_fnQ (fun _ => hcw _) ?_ | refine d_fnQ (fun _ => hcd _) ?_ | refine d_fnQ (fun _ => lnone_c _ _ _) ?_) <;> try first | omega | assumption) | (refine g_d ?_; (first | refine d_fnY (lawake_c _) ?_ | refine d_fnY (hlg _) ?_ | refine d_fnY (hsn _) ?_ | refine d_fnY (hcp _) ?_ | refine d_fnY (hba _) ?_ | refine d_fnY (hto _) ?_ | refine d_fnY (hct _) ?_ | refine d_fnY (hac _) ?_ | refine d_fnY (hcw _) ?_ | refine d_fnY (hcd _) ?_ | refine d_fnY (lnone_c _ _ _) ?_) <;> try first | omega | assumption)))
      all_goals (try (exfalso; omega))
      all_goals (refine r_es hQ ?_; try with_reducible rfl)
    · rw [if_pos h2] at hct
      have hx0 := And.intro he h2
      refine Gives_in Tryz.func8 rfl Tryz.ntmps8 Tryz.results8 (by kernel_rfl) (by simp) rfl fun Q hQ => ?_
      (have FX := hx0; repeat' (first | (refine sx ?_ ?_ <;> intro h <;> first | (exfalso; omega) | skip) | (refine g_op ?_; refine g_call ?_; refine g_args ?_; (first | refine s_fn (lawake_c _) ?_ | refine s_fn (hlg _) ?_ | refine s_fn (hsn _) ?_ | refine s_fn (hcp _) ?_ | refine s_fn (hba _) ?_ | refine s_fn (hto _) ?_ | refine s_fn (hct _) ?_ | refine s_fn (hac _) ?_ | refine s_fn (hcw _) ?_ | refine s_fn (hcd _) ?_ | refine s_fn (lnone_c _ _ _) ?_) <;> try first | omega | assumption) | refine ny ?_ | refine WA_block ?_ | (refine uH13_8_5 ?_; refine ⟨by kernel_rfl, ?_⟩) | (refine uH13_8_6 ?_; refine ⟨by kernel_rfl, ?_⟩) | (refine uH13_8_7 ?_; refine ⟨by kernel_rfl, ?_⟩) | (refine uH13_8_11 ?_; refine ⟨by kernel_rfl, ?_⟩) | ((first | refine grp_cons (fun _ => lawake_c _) ?_ | refine grp_cons (fun _ => hlg _) ?_ | refine grp_cons (fun _ => hsn _) ?_ | refine grp_cons (fun _ => hcp _) ?_ | refine grp_cons (fun _ => hba _) ?_ | refine grp_cons (fun _ => hto _) ?_ | refine grp_cons (fun _ => hct _) ?_ | refine grp_cons (fun _ => hac _) ?_ | refine grp_cons (fun _ => hcw _) ?_ | refine grp_cons (fun _ => hcd _) ?_ | refine grp_cons (fun _ => lnone_c _ _ _) ?_) <;> try first | omega | assumption) | (refine g_d ?_; refine d_args ?_; (first | refine d_fn (lawake_c _) ?_ | refine d_fn (hlg _) ?_ | refine d_fn (hsn _) ?_ | refine d_fn (hcp _) ?_ | refine d_fn (hba _) ?_ | refine d_fn (hto _) ?_ | refine d_fn (hct _) ?_ | refine d_fn (hac _) ?_ | refine d_fn (hcw _) ?_ | refine d_fn (hcd _) ?_ | refine d_fn (lnone_c _ _ _) ?_ | refine d_fnQ (fun _ => lawake_c _) ?_ | refine d_fnQ (fun _ => hlg _) ?_ | refine d_fnQ (fun _ => hsn _) ?_ | refine d_fnQ (fun _ => hcp _) ?_ | refine d_fnQ (fun _ => hba _) ?_ | refine d_fnQ (fun _ => hto _) ?_ | refine d_fnQ (fun _ => hct _) ?_ | refine d_fnQ (fun _ => hac _) ?_ | refine d_fnQ (fun _ => hcw _) ?_ | refine d_fnQ (fun _ => hcd _) ?_ | refine d_fnQ (fun _ => lnone_c _ _ _) ?_) <;> try first | omega | assumption) | (refine g_d ?_; (first | refine d_fnY (lawake_c _) ?_ | refine d_fnY (hlg _) ?_ | refine d_fnY (hsn _) ?_ | refine d_fnY (hcp _) ?_ | refine d_fnY (hba _) ?_ | refine d_fnY (hto _) ?_ | refine d_fnY (hct _) ?_ | refine d_fnY (hac _) ?_ | refine d_fnY (hcw _) ?_ | refine d_fnY (hcd _) ?_ | refine d_fnY (lnone_c _ _ _) ?_) <;> try first | omega | assumption)))
      all_goals (try (exfalso; omega))
      all_goals (refine r_es hQ ?_; try with_reducible rfl)
  · have e1 : chkDip a n d = acErr a := by unfold chkDip; rw [if_pos h1]
    rw [e1] at hba hto he
    unfold ctE at hct
    rw [if_pos h1] at hct
    have hx0 := h1
    unfold actV at hlg hcp hac hba hto hct ⊢
    refine Gives_in Tryz.func8 rfl Tryz.ntmps8 Tryz.results8 (by kernel_rfl) (by simp) rfl fun Q hQ => ?_
    (have FX := hx0; repeat' (first | (refine sx ?_ ?_ <;> intro h <;> first | (exfalso; omega) | skip) | (refine g_op ?_; refine g_call ?_; refine g_args ?_; (first | refine s_fn (lawake_c _) ?_ | refine s_fn (hlg _) ?_ | refine s_fn (hsn _) ?_ | refine s_fn (hcp _) ?_ | refine s_fn (hba _) ?_ | refine s_fn (hto _) ?_ | refine s_fn (hct _) ?_ | refine s_fn (hac _) ?_ | refine s_fn (lnone_c _ _ _) ?_) <;> try first | omega | assumption) | refine ny ?_ | refine WA_block ?_ | (refine uH13_8_5 ?_; refine ⟨by kernel_rfl, ?_⟩) | (refine uH13_8_6 ?_; refine ⟨by kernel_rfl, ?_⟩) | (refine uH13_8_7 ?_; refine ⟨by kernel_rfl, ?_⟩) | (refine uH13_8_11 ?_; refine ⟨by kernel_rfl, ?_⟩) | ((first | refine grp_cons (fun _ => lawake_c _) ?_ | refine grp_cons (fun _ => hlg _) ?_ | refine grp_cons (fun _ => hsn _) ?_ | refine grp_cons (fun _ => hcp _) ?_ | refine grp_cons (fun _ => hba _) ?_ | refine grp_cons (fun _ => hto _) ?_ | refine grp_cons (fun _ => hct _) ?_ | refine grp_cons (fun _ => hac _) ?_ | refine grp_cons (fun _ => lnone_c _ _ _) ?_) <;> try first | omega | assumption) | (refine g_d ?_; refine d_args ?_; (first | refine d_fn (lawake_c _) ?_ | refine d_fn (hlg _) ?_ | refine d_fn (hsn _) ?_ | refine d_fn (hcp _) ?_ | refine d_fn (hba _) ?_ | refine d_fn (hto _) ?_ | refine d_fn (hct _) ?_ | refine d_fn (hac _) ?_ | refine d_fn (lnone_c _ _ _) ?_ | refine d_fnQ (fun _ => lawake_c _) ?_ | refine d_fnQ (fun _ => hlg _) ?_ | refine d_fnQ (fun _ => hsn _) ?_ | refine d_fnQ (fun _ => hcp _) ?_ | refine d_fnQ (fun _ => hba _) ?_ | refine d_fnQ (fun _ => hto _) ?_ | refine d_fnQ (fun _ => hct _) ?_ | refine d_fnQ (fun _ => hac _) ?_ | refine d_fnQ (fun _ => lnone_c _ _ _) ?_) <;> try first | omega | assumption) | (refine g_d ?_; (first | refine d_fnY (lawake_c _) ?_ | refine d_fnY (hlg _) ?_ | refine d_fnY (hsn _) ?_ | refine d_fnY (hcp _) ?_ | refine d_fnY (hba _) ?_ | refine d_fnY (hto _) ?_ | refine d_fnY (hct _) ?_ | refine d_fnY (hac _) ?_ | refine d_fnY (lnone_c _ _ _) ?_) <;> try first | omega | assumption)))
    all_goals (try (exfalso; omega))
    all_goals (refine r_es hQ ?_; try with_reducible rfl)
theorem touches_law (a : ActR) (dn up n d : Int) (m : Mem) : Gives Tryz.prog 8 [.agg (actV a), .agg [.int .i64 dn, .int .i64 up], .agg [.int .i64 n, .int .i64 d]] m (.bool true) := by
  by_cases h : light a ∧ sane n d
  · obtain ⟨hL, hsa⟩ := h
    by_cases he : chkDip a n d = 0
    · have hlt := light_lt hL
      obtain ⟨b1, b2⟩ := sane_b hsa
      obtain ⟨hac, hd0⟩ := chk_ok he
      obtain ⟨_, k2, k3, k4, _⟩ := dip_q hd0
      have hba := fun m => abalance_c a hlt n d b1 b2 m
      have hto := fun m => atouchx_c a hlt n d b1 b2 m
      have hct := fun m => achecktouch_c a hlt dn up n d b1 b2 m
      have hrb := fun m => rbalance_c a hlt hac (toQ (n, d)) k4 m
      have hrw := fun m => rweights_c a hlt hac (toQ (n, d)) k4 m
      rw [k2, k3] at hrb hrw
      unfold balE at hba
      unfold touE at hto
      unfold ctE at hct
      rw [if_neg (by omega)] at hba hto
      rw [if_neg (by omega)] at hct
      obtain ⟨v1, v2⟩ := balV_eq a (toQ (n, d))
      obtain ⟨t1, t2⟩ := touP_eq a (toQ (n, d))
      have hbs := balRA_sm (a := a) (x := toQ (n, d))
      have hfs := frcR_sm (a := a) (x := toQ (n, d)) (i := a.parts.length)
      unfold wtsR at t1 t2
      unfold wtV at hrw
      unfold fitE at hct
      unfold frcRA at t1 t2 hrw
      generalize balRA a (toQ (n, d)) = B at *
      generalize frcR a (toQ (n, d)) a.parts.length = F at *
      obtain ⟨p, bb⟩ := B
      obtain ⟨q, fb⟩ := F
      dsimp only at *
      obtain ⟨o1, e, c1, c2, B1, B2, B3⟩ : ∃ o1 e c1 c2 : Int, (∀ m, Gives Tryz.prog 31 [.agg (actV a), .agg [.int .i64 n, .int .i64 d]] m (.tup [.agg [.int .i64 c1, .int .i64 c2], .int .i64 e])) ∧ (∀ m, Gives Tryz.prog 53 [.agg (actV a), .agg [.int .i64 n, .int .i64 d]] m (.tup [.agg [.int .i64 p.num, .int .i64 (p.den : Int)], .bool (decide (o1 = 1))])) ∧ ((o1 = 1 → e = 0 ∧ c1 = p.num ∧ c2 = p.den) ∧ (¬ o1 = 1 → e = 8 ∧ c1 = 0 ∧ c2 = 0)) := by
        cases bb with
        | true => rw [v1 rfl] at hba; exact ⟨1, 0, _, _, hba, hrb, fun _ => ⟨rfl, rfl, rfl⟩, fun h => absurd rfl h⟩
        | false => rw [v2 rfl] at hba; exact ⟨0, 8, 0, 0, hba, hrb, fun h => absurd h (by decide), fun _ => ⟨rfl, rfl, rfl⟩⟩
      by_cases hok : (bb = true ∧ fb = true) ∧ sm (p + q) ∧ sm (p - q)
      · obtain ⟨⟨rfl, rfl⟩, g1, g2⟩ := hok
        rw [if_pos ⟨rfl, rfl⟩] at hrw
        rw [smB_of g1, smB_of g2] at hrw t1
        have ht := t1 (p + q, p - q) (by rw [if_pos ⟨rfl, rfl⟩]; rfl)
        rw [ht] at hto hct
        dsimp only at hct
        rw [if_neg (show ¬ dipErr a n d ≠ 0 by omega)] at hct
        by_cases h3 : (dn : Rat) < p + q ∨ p - q < (up : Rat)
        · rw [if_pos h3] at hct
          have hiw := fun hw m => rinwin_c _ _ dn up g1 g2 hw m
          rw [decide_eq_false (fun h4 => h4 h3)] at hiw
          exact touches_w a dn up n d hL hsa hac hd0 o1 1 0 e 0 _ _ _ _ c1 c2 _ _ _ _ _ _ _ _ rfl B1 hto hct B2 hrw (fun _ => hiw) B3 ⟨fun _ => ⟨rfl, rfl, rfl, rfl, rfl⟩, fun h => absurd rfl h⟩ ⟨fun h => if_pos h, fun _ h => absurd rfl h, fun hw _ => ⟨fun h => absurd h (by decide), fun _ => if_neg (by omega)⟩⟩ m
        · rw [if_neg h3] at hct
          have hiw := fun hw m => rinwin_c _ _ dn up g1 g2 hw m
          rw [decide_eq_true h3] at hiw
          exact touches_w a dn up n d hL hsa hac hd0 o1 1 1 e 0 _ _ _ _ c1 c2 _ _ _ _ _ _ _ _ rfl B1 hto hct B2 hrw (fun _ => hiw) B3 ⟨fun _ => ⟨rfl, rfl, rfl, rfl, rfl⟩, fun h => absurd rfl h⟩ ⟨fun h => if_pos h, fun _ h => absurd rfl h, fun hw _ => ⟨fun _ => if_neg (by omega), fun h => absurd rfl h⟩⟩ m
      · have hnb : bb = true ∧ fb = true → (smB (p + q) && smB (p - q)) = false := fun hg => by
          cases h1 : smB (p + q) with
          | false => rfl
          | true =>
            cases h2 : smB (p - q) with
            | false => rfl
            | true => exact absurd ⟨hg, smB_iff.1 h1, smB_iff.1 h2⟩ hok
        have ht : touP a (toQ (n, d)) = none := by
          refine t2 ?_
          by_cases hg : bb = true ∧ fb = true
          · rw [if_pos hg, hnb hg]
            exact .inr ⟨_, rfl⟩
          · rw [if_neg hg]; exact .inl rfl
        rw [ht] at hto hct
        dsimp only at hct
        rw [if_neg (show ¬ dipErr a n d ≠ 0 by omega)] at hct
        obtain ⟨x1, x2, x3, x4, hrw2⟩ : ∃ x1 x2 x3 x4 : Int, ∀ m, Gives Tryz.prog 54 [.agg (actV a), .agg [.int .i64 n, .int .i64 d]] m (.tup [.agg [.int .i64 x1, .int .i64 x2, .int .i64 x3, .int .i64 x4], .bool (decide ((0 : Int) = 1))]) := by
          by_cases hg : bb = true ∧ fb = true
          · rw [if_pos hg, hnb hg] at hrw
            exact ⟨_, _, _, _, hrw⟩
          · rw [if_neg hg] at hrw
            exact ⟨_, _, _, _, hrw⟩
        exact touches_w a dn up n d hL hsa hac hd0 o1 0 0 e 8 _ _ _ _ c1 c2 0 0 0 0 x1 x2 x3 x4 rfl B1 hto hct B2 hrw2 (fun h => absurd h (by decide)) B3 ⟨fun h => absurd h (by decide), fun _ => ⟨rfl, rfl, rfl, rfl, rfl⟩⟩ ⟨fun h => if_pos h, fun hw _ => if_neg (by omega), fun _ h => absurd h (by decide)⟩ m
    · exact touches_err a dn up n d hL hsa he m
  · exact touches_out a dn up n d h m
end Go.Proofs.YtmigenmibohnkaaGreat
