/- contracts: the dips of events -/
import Derived.Test.YtbcjcbcakcdnfaaGreatC24
import Derived.Test.YtbcjcbcakcdnfaaGreatYE
set_option linter.unusedSimpArgs false
set_option linter.unusedVariables false
namespace Go.Proofs.YtbcjcbcakcdnfaaGreat
open Go.RowKit
attribute [local irreducible] WA WOs WDs WAn qThen qBlock tput
set_option maxHeartbeats 1000000
set_option maxRecDepth 20000
set_option linter.unusedSimpArgs false
set_option linter.unusedVariables false
attribute [local irreducible] smB cut sm
theorem uC26_50_2 {N : Nat} {l : List Oper} {t : List (Nat × V)} {m : Mem} {Q : Exit → List (Nat × V) → Mem → Prop} (h : RgN Tryz.prog N l t m Q (fun i => if i == 11 then .f else if i == 6 || i == 10 then .a else if i == 0 || i == 2 || i == 4 || i == 5 then .q else .p) [.one 0, .one 1, .one 2, .one 3, .one 4, .one 5, .grp true [6] [10], .one 7, .one 8, .one 9, .one 11, .one 12]) : WA Tryz.prog N (.region 2 l.toArray true) t m Q := d_rgN h
theorem uC26_50_5 {N : Nat} {l : List Oper} {t : List (Nat × V)} {m : Mem} {Q : Exit → List (Nat × V) → Mem → Prop} (h : RgN Tryz.prog N l t m Q (fun i => if i == 9 then .w else if i == 0 || i == 2 || i == 3 || i == 5 || i == 6 then .q else .p) [.one 0, .one 1, .one 2, .one 3, .one 4, .one 5, .one 6, .one 7, .one 8, .one 9, .one 10]) : WA Tryz.prog N (.region 5 l.toArray true) t m Q := d_rgN h
theorem adipof_c (a : ActR) (ha : Lt a) (h : acErr a = 0) (i : Nat) (hi : i < a.evs.length) (m : Mem) : Gives Tryz.prog 50 [.agg (actV a), .int .i64 i] m (rchV (evtP a i)) := by
  have hla := evsV_length (l := a.evs)
  have hga := evsV_get hi
  obtain ⟨_, h2, _⟩ := acErr_evs h
  have hz := h2 i hi
  obtain ⟨h3, hfx⟩ := prtN_lt hz
  obtain ⟨_, _, _, hlv⟩ := evErrAt_zero hz
  have hp := acErr_pts h
  have hcu := fun m => acurveof_c a ha h 13 (prtN a (a.evs.getD i e0)) m (by have := hp.few; omega) h3
  have hcv := fun c hc => cvP_valid hp (i := prtN a (a.evs.getD i e0)) (l := c) h3 hc
  unfold evtP
  unfold cvP at hcv ⊢
  generalize prtN a (a.evs.getD i e0) = j at *
  rw [← hfx] at hcu
  generalize a.evs.getD i e0 = x at *
  unfold evV at hga
  generalize hr : curP a 13 j = r at hcu hcv ⊢
  cases r with
  | none =>
    have hre := hcu
    simp only [crv, rchV, frO] at hcu ⊢
    unfold actV at hcu ⊢
    refine Gives_in Tryz.func50 rfl Tryz.ntmps50 Tryz.results50 (by kernel_rfl) (by simp) rfl fun Q hQ => ?_
    (have FX := And.intro hla (And.intro hga hfx); repeat' (first | (refine sx ?_ ?_ <;> intro h <;> first | (exfalso; omega) | skip) | (refine g_op ?_; refine g_call ?_; refine g_args ?_; (first | refine s_fn (awhole_c _ _) ?_ | refine s_fn (afind_c a.parts _ _ ha.np) ?_ | refine s_fn (hcu _) ?_) <;> try first | omega | assumption) | refine ny ?_ | refine WA_block ?_ | (refine uC26_50_2 ?_; refine ⟨by kernel_rfl, ?_⟩) | (refine uC26_50_5 ?_; refine ⟨by kernel_rfl, ?_⟩) | ((first | refine grp_cons (fun _ => awhole_c _ _) ?_ | refine grp_cons (fun _ => afind_c a.parts _ _ ha.np) ?_ | refine grp_cons (fun _ => hcu _) ?_) <;> try first | omega | assumption) | (refine g_d ?_; refine d_args ?_; (first | refine d_fn (awhole_c _ _) ?_ | refine d_fn (afind_c a.parts _ _ ha.np) ?_ | refine d_fn (hcu _) ?_ | refine d_fnQ (fun _ => awhole_c _ _) ?_ | refine d_fnQ (fun _ => afind_c a.parts _ _ ha.np) ?_ | refine d_fnQ (fun _ => hcu _) ?_) <;> try first | omega | assumption) | (refine g_d ?_; (first | refine d_fnY (awhole_c _ _) ?_ | refine d_fnY (afind_c a.parts _ _ ha.np) ?_ | refine d_fnY (hcu _) ?_) <;> try first | omega | assumption)))
    all_goals (try (exfalso; omega))
    all_goals ((refine r_es hQ ?_; try with_reducible rfl))
  | some c =>
    have hv := hcv c rfl
    simp only [crv] at hcu
    dsimp only
    have hre : ∀ m, Gives Tryz.prog 82 [.agg [.lst (ptsV c)], .agg [.int .i64 x.lev, .int .i64 1], .bool x.fall] m (rchV (rch c (x.lev : Rat) x.fall)) := fun m => areach_c c (x.lev : Rat) x.fall hv (sm_int (by omega)) m
    rcases rch_code c (x.lev : Rat) x.fall with ⟨q, hq⟩ | hq | hq
    all_goals
      rw [hq] at hre ⊢
      simp only [rchV, frO] at hre ⊢
      unfold actV at hcu ⊢
      refine Gives_in Tryz.func50 rfl Tryz.ntmps50 Tryz.results50 (by kernel_rfl) (by simp) rfl fun Q hQ => ?_
      (have FX := And.intro hla (And.intro hga hfx); repeat' (first | (refine sx ?_ ?_ <;> intro h <;> first | (exfalso; omega) | skip) | (refine g_op ?_; refine g_call ?_; refine g_args ?_; (first | refine s_fn (awhole_c _ _) ?_ | refine s_fn (afind_c a.parts _ _ ha.np) ?_ | refine s_fn (hcu _) ?_ | refine s_fn (hre _) ?_) <;> try first | omega | assumption) | refine ny ?_ | refine WA_block ?_ | (refine uC26_50_2 ?_; refine ⟨by kernel_rfl, ?_⟩) | (refine uC26_50_5 ?_; refine ⟨by kernel_rfl, ?_⟩) | ((first | refine grp_cons (fun _ => awhole_c _ _) ?_ | refine grp_cons (fun _ => afind_c a.parts _ _ ha.np) ?_ | refine grp_cons (fun _ => hcu _) ?_ | refine grp_cons (fun _ => hre _) ?_) <;> try first | omega | assumption) | (refine g_d ?_; refine d_args ?_; (first | refine d_fn (awhole_c _ _) ?_ | refine d_fn (afind_c a.parts _ _ ha.np) ?_ | refine d_fn (hcu _) ?_ | refine d_fn (hre _) ?_ | refine d_fnQ (fun _ => awhole_c _ _) ?_ | refine d_fnQ (fun _ => afind_c a.parts _ _ ha.np) ?_ | refine d_fnQ (fun _ => hcu _) ?_ | refine d_fnQ (fun _ => hre _) ?_) <;> try first | omega | assumption) | (refine g_d ?_; (first | refine d_fnY (awhole_c _ _) ?_ | refine d_fnY (afind_c a.parts _ _ ha.np) ?_ | refine d_fnY (hcu _) ?_ | refine d_fnY (hre _) ?_) <;> try first | omega | assumption)))
      all_goals (try (exfalso; omega))
      all_goals ((refine r_es hQ ?_; try with_reducible rfl))
def eatV (a : ActR) (s : List UInt8) : Option Rat × Int := if acErr a ≠ 0 then (none, acErr a) else if enI a s < 0 then (none, 6) else evtP a (enN a s)
theorem eat_cases (a : ActR) (s : List UInt8) : (∃ x, eatV a s = (some x, 0) ∧ acErr a = 0 ∧ sm x ∧ evtP a (enN a s) = (some x, 0) ∧ enN a s < a.evs.length ∧ 0 ≤ x ∧ x ≤ (a.dip : Rat)) ∨ ∃ e, e ≠ 0 ∧ eatV a s = (none, e) := by
  unfold eatV
  by_cases h : acErr a = 0
  · rw [if_neg (by omega)]
    by_cases h1 : enI a s < 0
    · rw [if_pos h1]; exact .inr ⟨6, by decide, rfl⟩
    · rw [if_neg h1]
      obtain ⟨_, h2, _⟩ := enI_ok h1
      rcases evtP_code a (enN a s) with ⟨x, hx⟩ | hx | hx
      · obtain ⟨g1, _, g2, g3⟩ := evtP_sm h h2 hx
        exact .inl ⟨x, hx, h, g1, hx, h2, g2, g3⟩
      · exact .inr ⟨8, by decide, hx⟩
      · exact .inr ⟨12, by decide, hx⟩
  · rw [if_pos h]; exact .inr ⟨_, h, rfl⟩

theorem aeventat_c (a : ActR) (ha : Lt a) (s : List UInt8) (m : Mem) : Gives Tryz.prog 17 [.agg (actV a), .str s] m (rchV (eatV a s)) := by
  unfold eatV
  by_cases h : acErr a = 0
  · rw [if_neg (by omega)]
    by_cases h1 : enI a s < 0
    · rw [if_pos h1]
      have hx := And.intro h (show fidx (isE s) a.evs < 0 from h1)
      have hdo := fun m => awhole_c 0 m
      simp only [rchV, frO]
      unfold enI at h1
      unfold actV
      refine Gives_in Tryz.func17 rfl Tryz.ntmps17 Tryz.results17 (by kernel_rfl) (by simp) rfl fun Q hQ => ?_
      (have FX := hx; repeat' (first | (refine sx ?_ ?_ <;> intro h <;> first | (exfalso; omega) | skip) | (refine g_op ?_; refine g_call ?_; refine g_args ?_; (first | refine s_fn (acheckaction_c a ha _) ?_ | refine s_fn (afindev_c a.evs s _ ha.ne) ?_ | refine s_fn (hdo _) ?_) <;> try first | omega | assumption) | refine ny ?_ | refine WA_block ?_))
      all_goals (try (exfalso; omega))
      all_goals ((refine r_es hQ ?_; try with_reducible rfl))
    · rw [if_neg h1]
      obtain ⟨h2, h3, _⟩ := enI_ok h1
      have hx := And.intro h (show fidx (isE s) a.evs = (enN a s : Int) from h2)
      have hdo := fun m => adipof_c a ha h (enN a s) h3 m
      rw [← hx.2] at hdo
      rcases evtP_code a (enN a s) with ⟨q, hq⟩ | hq | hq
      all_goals
        rw [hq] at hdo ⊢
        simp only [rchV, frO] at hdo ⊢
        unfold actV at hdo ⊢
        refine Gives_in Tryz.func17 rfl Tryz.ntmps17 Tryz.results17 (by kernel_rfl) (by simp) rfl fun Q hQ => ?_
        (have FX := hx; repeat' (first | (refine sx ?_ ?_ <;> intro h <;> first | (exfalso; omega) | skip) | (refine g_op ?_; refine g_call ?_; refine g_args ?_; (first | refine s_fn (acheckaction_c a ha _) ?_ | refine s_fn (afindev_c a.evs s _ ha.ne) ?_ | refine s_fn (hdo _) ?_) <;> try first | omega | assumption) | refine ny ?_ | refine WA_block ?_))
        all_goals (try (exfalso; omega))
        all_goals ((refine r_es hQ ?_; try with_reducible rfl))
  · rw [if_pos h]
    have hx := h
    have hdo := fun m => awhole_c 0 m
    simp only [rchV, frO]
    unfold actV
    refine Gives_in Tryz.func17 rfl Tryz.ntmps17 Tryz.results17 (by kernel_rfl) (by simp) rfl fun Q hQ => ?_
    (have FX := hx; repeat' (first | (refine sx ?_ ?_ <;> intro h <;> first | (exfalso; omega) | skip) | (refine g_op ?_; refine g_call ?_; refine g_args ?_; (first | refine s_fn (acheckaction_c a ha _) ?_ | refine s_fn (afindev_c a.evs s _ ha.ne) ?_ | refine s_fn (hdo _) ?_) <;> try first | omega | assumption) | refine ny ?_ | refine WA_block ?_))
    all_goals (try (exfalso; omega))
    all_goals ((refine r_es hQ ?_; try with_reducible rfl))
def aftV (a : ActR) (s : List UInt8) : Option Rat × Int := match eatV a s with
  | (none, e) => (none, e)
  | (some x, _) => if sm ((a.dip : Rat) - x) then (some ((a.dip : Rat) - x), 0) else (none, 8)
theorem uC26_18_5 {N : Nat} {l : List Oper} {t : List (Nat × V)} {m : Mem} {Q : Exit → List (Nat × V) → Mem → Prop} (h : RgT Tryz.prog N l t m Q 90 (fun i => if i == 4 || i == 6 then .f else if i == 5 then .a else if i == 1 || i == 2 || i == 3 then .q else .p) [.one 0, .one 1, .one 2, .one 3, .grp true [4] [5], .one 6]) : WA Tryz.prog N (.region 5 l.toArray true) t m Q := d_rgT h
theorem aaftertouch_c (a : ActR) (ha : Lt a) (s : List UInt8) (m : Mem) : Gives Tryz.prog 18 [.agg (actV a), .str s] m (rchV (aftV a s)) := by
  have hea := fun m => aeventat_c a ha s m
  unfold aftV
  rcases eat_cases a s with ⟨x, hx, h, hs, _⟩ | ⟨e, h0, hx⟩
  · rw [hx] at hea ⊢
    have hd := (acErr_pts h).dip
    have hsd : sm (a.dip : Rat) := sm_int (by omega)
    have hsb : ∀ k, CallW Tryz.prog 51 [.ptr k 0 0, .agg [.int .i64 a.dip, .int .i64 1], .agg [.int .i64 (Rat.num (x)), .int .i64 ((Rat.den (x) : Nat) : Int)]] k (.cells .own 90 1 [[.bool (false)]]) (.cells .own 90 1 [[.bool (false || !smB ((a.dip : Rat) - x))]]) (.agg [.int .i64 (Rat.num (cut ((a.dip : Rat) - x))), .int .i64 ((Rat.den (cut ((a.dip : Rat) - x)) : Nat) : Int)]) := fun k => sub_w k (a.dip : Rat) x false hsd hs
    clear hx
    have hx := h
    dsimp only
    by_cases ho : sm ((a.dip : Rat) - x)
    · rw [cut_sm ho, smB_of ho] at hsb
      have htd := fun m => atold_c ((a.dip : Rat) - x) false m
      rw [if_neg (by decide)] at htd
      rw [if_pos ho]
      simp only [rchV, frO, Bool.not_true, Bool.or_false, Bool.false_or] at hea hsb ⊢
      unfold actV at hea ⊢
      refine Gives_in Tryz.func18 rfl Tryz.ntmps18 Tryz.results18 (by kernel_rfl) (by simp) rfl fun Q hQ => ?_
      (have FX := hx; repeat' (first | (refine sx ?_ ?_ <;> intro h <;> first | (exfalso; omega) | skip) | (refine g_op ?_; refine g_call ?_; refine g_args ?_; (first | refine s_fn (awhole_c _ _) ?_ | refine s_fn (hea _) ?_ | refine s_fn (htd _) ?_ | refine s_fnW (hsb _) ?_) <;> try first | omega | assumption) | refine ny ?_ | refine WA_block ?_ | (refine uC26_18_5 ?_; refine ⟨by kernel_rfl, ?_⟩) | ((first | refine grp_cons (fun _ => awhole_c _ _) ?_ | refine grp_cons (fun _ => hea _) ?_ | refine grp_cons (fun _ => htd _) ?_ | refine grp_w (hsb _) ?_) <;> try first | omega | assumption) | (refine g_d ?_; refine d_args ?_; (first | refine d_fn (awhole_c _ _) ?_ | refine d_fn (hea _) ?_ | refine d_fn (htd _) ?_ | refine d_fnW (hsb _) ?_ | refine d_fnQ (fun _ => awhole_c _ _) ?_ | refine d_fnQ (fun _ => hea _) ?_ | refine d_fnQ (fun _ => htd _) ?_) <;> try first | omega | assumption) | (refine g_d ?_; (first | refine d_fnY (awhole_c _ _) ?_ | refine d_fnY (hea _) ?_ | refine d_fnY (htd _) ?_) <;> try first | omega | assumption)))
      all_goals (try (exfalso; omega))
      all_goals ((refine r_es hQ ?_; try with_reducible rfl))
    · rw [smB_no ho] at hsb
      have htd := fun m => atold_c (cut ((a.dip : Rat) - x)) true m
      rw [if_pos rfl] at htd
      rw [if_neg ho]
      simp only [rchV, frO, Bool.not_false, Bool.or_true] at hea hsb ⊢
      unfold actV at hea ⊢
      refine Gives_in Tryz.func18 rfl Tryz.ntmps18 Tryz.results18 (by kernel_rfl) (by simp) rfl fun Q hQ => ?_
      (have FX := hx; repeat' (first | (refine sx ?_ ?_ <;> intro h <;> first | (exfalso; omega) | skip) | (refine g_op ?_; refine g_call ?_; refine g_args ?_; (first | refine s_fn (awhole_c _ _) ?_ | refine s_fn (hea _) ?_ | refine s_fn (htd _) ?_ | refine s_fnW (hsb _) ?_) <;> try first | omega | assumption) | refine ny ?_ | refine WA_block ?_ | (refine uC26_18_5 ?_; refine ⟨by kernel_rfl, ?_⟩) | ((first | refine grp_cons (fun _ => awhole_c _ _) ?_ | refine grp_cons (fun _ => hea _) ?_ | refine grp_cons (fun _ => htd _) ?_ | refine grp_w (hsb _) ?_) <;> try first | omega | assumption) | (refine g_d ?_; refine d_args ?_; (first | refine d_fn (awhole_c _ _) ?_ | refine d_fn (hea _) ?_ | refine d_fn (htd _) ?_ | refine d_fnW (hsb _) ?_ | refine d_fnQ (fun _ => awhole_c _ _) ?_ | refine d_fnQ (fun _ => hea _) ?_ | refine d_fnQ (fun _ => htd _) ?_) <;> try first | omega | assumption) | (refine g_d ?_; (first | refine d_fnY (awhole_c _ _) ?_ | refine d_fnY (hea _) ?_ | refine d_fnY (htd _) ?_) <;> try first | omega | assumption)))
      all_goals (try (exfalso; omega))
      all_goals ((refine r_es hQ ?_; try with_reducible rfl))
  · rw [hx] at hea ⊢
    clear hx
    have hx := h0
    simp only [rchV, frO] at hea ⊢
    unfold actV at hea ⊢
    refine Gives_in Tryz.func18 rfl Tryz.ntmps18 Tryz.results18 (by kernel_rfl) (by simp) rfl fun Q hQ => ?_
    (have FX := hx; repeat' (first | (refine sx ?_ ?_ <;> intro h <;> first | (exfalso; omega) | skip) | (refine g_op ?_; refine g_call ?_; refine g_args ?_; (first | refine s_fn (hea _) ?_) <;> try first | omega | assumption) | refine ny ?_ | refine WA_block ?_ | (refine uC26_18_5 ?_; refine ⟨by kernel_rfl, ?_⟩) | ((first | refine grp_cons (fun _ => hea _) ?_) <;> try first | omega | assumption) | (refine g_d ?_; refine d_args ?_; (first | refine d_fn (hea _) ?_ | refine d_fnQ (fun _ => hea _) ?_) <;> try first | omega | assumption) | (refine g_d ?_; (first | refine d_fnY (hea _) ?_) <;> try first | omega | assumption)))
    all_goals (try (exfalso; omega))
    all_goals ((refine r_es hQ ?_; try with_reducible rfl))
end Go.Proofs.YtbcjcbcakcdnfaaGreat
