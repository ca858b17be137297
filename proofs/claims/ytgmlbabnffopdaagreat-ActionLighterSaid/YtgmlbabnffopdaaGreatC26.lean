/- contracts: the dips of events -/
import Derived.Test.YtgmlbabnffopdaaGreatC24
import Derived.Test.YtgmlbabnffopdaaGreatYE
set_option linter.unusedSimpArgs false
set_option linter.unusedVariables false
namespace Go.Proofs.YtgmlbabnffopdaaGreat
open Go.RowKit
attribute [local irreducible] WA WOs WDs WAn qThen qBlock tput
set_option maxHeartbeats 1000000
set_option maxRecDepth 20000
set_option linter.unusedSimpArgs false
set_option linter.unusedVariables false
attribute [local irreducible] smB cut sm
theorem uC26_62_2 {N : Nat} {l : List Oper} {t : List (Nat × V)} {m : Mem} {Q : Exit → List (Nat × V) → Mem → Prop} (h : RgN Tryz.prog N l t m Q (fun i => if i == 11 then .f else if i == 6 || i == 10 then .a else if i == 0 || i == 2 || i == 4 || i == 5 then .q else .p) [.one 0, .one 1, .one 2, .one 3, .one 4, .one 5, .grp true [6] [10], .one 7, .one 8, .one 9, .one 11, .one 12]) : WA Tryz.prog N (.region 2 l.toArray true) t m Q := d_rgN h
theorem uC26_62_5 {N : Nat} {l : List Oper} {t : List (Nat × V)} {m : Mem} {Q : Exit → List (Nat × V) → Mem → Prop} (h : RgN Tryz.prog N l t m Q (fun i => if i == 9 then .w else if i == 0 || i == 2 || i == 3 || i == 5 || i == 6 then .q else .p) [.one 0, .one 1, .one 2, .one 3, .one 4, .one 5, .one 6, .one 7, .one 8, .one 9, .one 10]) : WA Tryz.prog N (.region 5 l.toArray true) t m Q := d_rgN h
theorem adipof_c (a : ActR) (ha : Lt a) (h : acErr a = 0) (i : Nat) (hi : i < a.evs.length) (m : Mem) : Gives Tryz.prog 62 [.agg (actV a), .int .i64 i] m (rchV (evtP a i)) := by
  have hla := evsV_length (l := a.evs)
  have hga := evsV_get hi
  obtain ⟨_, h2, _⟩ := acErr_evs h
  have hz := h2 i hi
  obtain ⟨h3, hfx⟩ := prtN_lt hz
  obtain ⟨_, _, _, hlv⟩ := evErrAt_zero hz
  have hp := acErr_pts h
  have hcu := fun m => acurveof_c a ha h 13 (prtN a (a.evs.getD i e0)) m (by have := hp.few; omega) h3
  have hcv := fun c hc => cvP_valid hp (i := prtN a (a.evs.getD i e0)) (l := c) h3 hc
  unfold evtP
  unfold cvP at hcv ⊢
  generalize prtN a (a.evs.getD i e0) = j at *
  rw [← hfx] at hcu
  generalize a.evs.getD i e0 = x at *
  unfold evV at hga
  generalize hr : curP a 13 j = r at hcu hcv ⊢
  cases r with
  | none =>
    have hre := hcu
    simp only [crv, rchV, frO] at hcu ⊢
    unfold actV at hcu ⊢
    refine Gives_in Tryz.func62 rfl Tryz.ntmps62 Tryz.results62 (by kernel_rfl) (by simp) rfl fun Q hQ => ?_
    (have FX := And.intro hla (And.intro hga hfx); repeat' (first | (refine sx ?_ ?_ <;> intro h <;> first | (exfalso; omega) | skip) | (refine g_op ?_; refine g_call ?_; refine g_args ?_; (first | refine s_fn (awhole_c _ _) ?_ | refine s_fn (afind_c a.parts _ _ ha.np) ?_ | refine s_fn (hcu _) ?_) <;> try first | omega | assumption) | refine ny ?_ | refine WA_block ?_ | (refine uC26_62_2 ?_; refine ⟨by kernel_rfl, ?_⟩) | (refine uC26_62_5 ?_; refine ⟨by kernel_rfl, ?_⟩) | ((first | refine grp_cons (fun _ => awhole_c _ _) ?_ | refine grp_cons (fun _ => afind_c a.parts _ _ ha.np) ?_ | refine grp_cons (fun _ => hcu _) ?_) <;> try first | omega | assumption) | (refine g_d ?_; refine d_args ?_; (first | refine d_fn (awhole_c _ _) ?_ | refine d_fn (afind_c a.parts _ _ ha.np) ?_ | refine d_fn (hcu _) ?_ | refine d_fnQ (fun _ => awhole_c _ _) ?_ | refine d_fnQ (fun _ => afind_c a.parts _ _ ha.np) ?_ | refine d_fnQ (fun _ => hcu _) ?_) <;> try first | omega | assumption) | (refine g_d ?_; (first | refine d_fnY (awhole_c _ _) ?_ | refine d_fnY (afind_c a.parts _ _ ha.np) ?_ | refine d_fnY (hcu _) ?_) <;> try first | omega | assumption)))
    all_goals (try (exfalso; omega))
    all_goals ((refine r_es hQ ?_; try with_reducible rfl))
  | some c =>
    have hv := hcv c rfl
    simp only [crv] at hcu
    dsimp only
    have hre : ∀ m, Gives Tryz.prog 79 [.agg [.lst (ptsV c)], .agg [.int .i64 x.lev, .int .i64 1], .bool x.fall] m (rchV (rch c (x.lev : Rat) x.fall)) := fun m => areach_c c (x.lev : Rat) x.fall hv (sm_int (by omega)) m
    rcases rch_code c (x.lev : Rat) x.fall with ⟨q, hq⟩ | hq | hq
    all_goals
      rw [hq] at hre ⊢
      simp only [rchV, frO] at hre ⊢
      unfold actV at hcu ⊢
      refine Gives_in Tryz.func62 rfl Tryz.ntmps62 Tryz.results62 (by kernel_rfl) (by simp) rfl fun Q hQ => ?_
      (have FX := And.intro hla (And.intro hga hfx); repeat' (first | (refine sx ?_ ?_ <;> intro h <;> first | (exfalso; omega) | skip) | (refine g_op ?_; refine g_call ?_; refine g_args ?_; (first | refine s_fn (awhole_c _ _) ?_ | refine s_fn (afind_c a.parts _ _ ha.np) ?_ | refine s_fn (hcu _) ?_ | refine s_fn (hre _) ?_) <;> try first | omega | assumption) | refine ny ?_ | refine WA_block ?_ | (refine uC26_62_2 ?_; refine ⟨by kernel_rfl, ?_⟩) | (refine uC26_62_5 ?_; refine ⟨by kernel_rfl, ?_⟩) | ((first | refine grp_cons (fun _ => awhole_c _ _) ?_ | refine grp_cons (fun _ => afind_c a.parts _ _ ha.np) ?_ | refine grp_cons (fun _ => hcu _) ?_ | refine grp_cons (fun _ => hre _) ?_) <;> try first | omega | assumption) | (refine g_d ?_; refine d_args ?_; (first | refine d_fn (awhole_c _ _) ?_ | refine d_fn (afind_c a.parts _ _ ha.np) ?_ | refine d_fn (hcu _) ?_ | refine d_fn (hre _) ?_ | refine d_fnQ (fun _ => awhole_c _ _) ?_ | refine d_fnQ (fun _ => afind_c a.parts _ _ ha.np) ?_ | refine d_fnQ (fun _ => hcu _) ?_ | refine d_fnQ (fun _ => hre _) ?_) <;> try first | omega | assumption) | (refine g_d ?_; (first | refine d_fnY (awhole_c _ _) ?_ | refine d_fnY (afind_c a.parts _ _ ha.np) ?_ | refine d_fnY (hcu _) ?_ | refine d_fnY (hre _) ?_) <;> try first | omega | assumption)))
      all_goals (try (exfalso; omega))
      all_goals ((refine r_es hQ ?_; try with_reducible rfl))
end Go.Proofs.YtgmlbabnffopdaaGreat
