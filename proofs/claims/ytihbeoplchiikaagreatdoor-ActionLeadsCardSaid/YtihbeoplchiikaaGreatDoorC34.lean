/- contracts: the touch -/
import Derived.Test.YtihbeoplchiikaaGreatDoorC33
import Derived.Test.YtihbeoplchiikaaGreatDoorGF
set_option linter.unusedSimpArgs false
set_option linter.unusedVariables false
namespace Go.Proofs.YtihbeoplchiikaaGreatDoor
open Go.RowKit
attribute [local irreducible] WA WOs WDs WAn qThen qBlock tput
set_option maxHeartbeats 1000000
set_option maxRecDepth 20000
set_option linter.unusedSimpArgs false
set_option linter.unusedVariables false
theorem sm_pair {a : ActR} {x p q : Rat} (h : touP a x = some (p, q)) : sm p ∧ sm q := by
  unfold touP at h
  split at h
  · simp only at h
    split at h
    · cases h
    · cases h; exact ⟨sm_cut _, sm_cut _⟩
  · cases h
attribute [local irreducible] smB cut sm
def touO : Option (Rat × Rat) → V
  | some (p, q) => .agg [.int .i64 p.num, .int .i64 (p.den : Int), .int .i64 q.num, .int .i64 (q.den : Int)]
  | none => .agg [.int .i64 0, .int .i64 0, .int .i64 0, .int .i64 0]
def touV (r : Option (Rat × Rat)) : V := match r with
  | some p => .tup [touO (some p), .int .i64 0]
  | none => .tup [touO none, .int .i64 8]
theorem rts_sm {a : ActR} (hp : PtsOk a) (x : Rat) : ∀ i, i < (rts a x a.parts.length).length → sm ((rts a x a.parts.length).getD i 0) := by
  intro i hi
  rw [rts_len] at hi
  rw [rts_get hi]
  exact sm_slpA hp hi x
theorem uC34_22_5 {N : Nat} {l : List Oper} {t : List (Nat × V)} {m : Mem} {Q : Exit → List (Nat × V) → Mem → Prop} (h : RgT Tryz.prog N l t m Q 88 (fun i => if i == 2 || i == 5 || i == 8 || i == 9 then .f else if i == 6 || i == 7 then .a else if i == 0 || i == 3 then .q else .p) [.one 0, .one 1, .one 3, .one 4, .grp true [2, 5] [6, 7], .one 8, .one 9]) : WA Tryz.prog N (.region 5 l.toArray true) t m Q := d_rgT h
theorem uC34_22_6 {N : Nat} {l : List Oper} {t : List (Nat × V)} {m : Mem} {Q : Exit → List (Nat × V) → Mem → Prop} (h : RgT Tryz.prog N l t m Q 88 (fun i => if i == 2 || i == 5 || i == 8 then .f else if i == 7 then .a else if i == 0 || i == 1 || i == 3 || i == 4 then .q else .p) [.one 0, .one 1, .one 3, .one 4, .grp true [2, 5] [7], .one 6, .one 8]) : WA Tryz.prog N (.region 6 l.toArray true) t m Q := d_rgT h
theorem atouch_c (a : ActR) (ha : Lt a) (h : acErr a = 0) (x : Rat) (hx : sm x) (m : Mem) : Gives Tryz.prog 22 [.agg (actV a), .agg [.int .i64 (Rat.num (x)), .int .i64 ((Rat.den (x) : Nat) : Int)]] m (touV (touP a x)) := by
  have hp := acErr_pts h
  obtain ⟨_, _, hl⟩ := acErr_evs h
  have hra := fun m => aratios_c a ha h x hx m
  unfold rtsV at hra
  by_cases hc : allC a a.parts.length
  · rw [if_pos hc] at hra
    have hrs := rts_sm hp x
    have hrl := rts_len a x a.parts.length
    have htp : touP a x = if ((frcP a (rts a x a.parts.length) (balA a (rts a x a.parts.length) false).2 (rts a x a.parts.length).length).2 || !smB ((balA a (rts a x a.parts.length) false).1 + (frcP a (rts a x a.parts.length) (balA a (rts a x a.parts.length) false).2 (rts a x a.parts.length).length).1)) || !smB ((balA a (rts a x a.parts.length) false).1 - (frcP a (rts a x a.parts.length) (balA a (rts a x a.parts.length) false).2 (rts a x a.parts.length).length).1) then none else some (cut ((balA a (rts a x a.parts.length) false).1 + (frcP a (rts a x a.parts.length) (balA a (rts a x a.parts.length) false).2 (rts a x a.parts.length).length).1), cut ((balA a (rts a x a.parts.length) false).1 - (frcP a (rts a x a.parts.length) (balA a (rts a x a.parts.length) false).2 (rts a x a.parts.length).length).1)) := by
      unfold touP
      rw [if_pos hc, hrl]
    have hle : (rts a x a.parts.length).length ≤ a.parts.length := by rw [hrl]; exact Nat.le_refl _
    generalize rts a x a.parts.length = l at *
    have hbw := fun k => balance_w k a hp hl l hle hrs false
    have hfw := fun k g => friction_w k a hp l hle hrs g
    have hb : sm (balA a l false).1 := sm_ldP a (sm_balP a l false l.length) _
    generalize balA a l false = s1 at *
    obtain ⟨b, g1⟩ := s1
    have hf := sm_frcP a l g1 l.length
    have hfw := fun k => hfw k g1
    dsimp only at htp hb
    generalize frcP a l g1 l.length = s2 at *
    obtain ⟨f, g2⟩ := s2
    dsimp only at hbw hfw htp hb hf
    rw [htp]
    obtain ⟨G1, hG1⟩ : ∃ G, (g2 || !smB (b + f)) = G := ⟨_, rfl⟩
    obtain ⟨G, hG⟩ : ∃ G, (G1 || !smB (b - f)) = G := ⟨_, rfl⟩
    have haw := fun k => add_w k b f g2 hb hf
    have hsw := fun k => sub_w k b f G1 hb hf
    rw [hG1] at haw
    rw [hG] at hsw
    rw [hG1, hG]
    unfold actV at hbw hfw hra ⊢
    cases G with
    | true =>
      rw [if_pos rfl]
      simp only [touV, touO]
      refine Gives_in Tryz.func22 rfl Tryz.ntmps22 Tryz.results22 (by kernel_rfl) (by simp) rfl fun Q hQ => ?_
      (repeat' (first | (refine sx ?_ ?_ <;> intro h <;> first | (exfalso; omega) | skip) | (refine na ?_; (first | refine nb hra ?_ | refine s_fnW (hbw _) ?_ | refine s_fnW (hfw _) ?_ | refine s_fnW (haw _) ?_ | refine s_fnW (hsw _) ?_ | refine d_fnW (hbw _) ?_ | refine d_fnW (hfw _) ?_ | refine d_fnW (haw _) ?_ | refine d_fnW (hsw _) ?_ | refine grp_w (hbw _) ?_ | refine grp_w (hfw _) ?_ | refine grp_w (haw _) ?_ | refine grp_w (hsw _) ?_) <;> try first | omega | assumption) | refine ny ?_ | refine WA_block ?_ | (refine uC34_22_5 ?_; refine ⟨by kernel_rfl, ?_⟩) | (refine uC34_22_6 ?_; refine ⟨by kernel_rfl, ?_⟩) | (refine g_d ?_; (first | refine d_fnY (hra _) ?_) <;> try first | omega | assumption)))
      all_goals (try (exfalso; omega))
      all_goals (refine r_es hQ ?_; try with_reducible rfl)
    | false =>
      rw [if_neg (by decide)]
      simp only [touV, touO]
      refine Gives_in Tryz.func22 rfl Tryz.ntmps22 Tryz.results22 (by kernel_rfl) (by simp) rfl fun Q hQ => ?_
      (repeat' (first | (refine sx ?_ ?_ <;> intro h <;> first | (exfalso; omega) | skip) | (refine na ?_; (first | refine nb hra ?_ | refine s_fnW (hbw _) ?_ | refine s_fnW (hfw _) ?_ | refine s_fnW (haw _) ?_ | refine s_fnW (hsw _) ?_ | refine d_fnW (hbw _) ?_ | refine d_fnW (hfw _) ?_ | refine d_fnW (haw _) ?_ | refine d_fnW (hsw _) ?_ | refine grp_w (hbw _) ?_ | refine grp_w (hfw _) ?_ | refine grp_w (haw _) ?_ | refine grp_w (hsw _) ?_) <;> try first | omega | assumption) | refine ny ?_ | refine WA_block ?_ | (refine uC34_22_5 ?_; refine ⟨by kernel_rfl, ?_⟩) | (refine uC34_22_6 ?_; refine ⟨by kernel_rfl, ?_⟩) | (refine g_d ?_; (first | refine d_fnY (hra _) ?_) <;> try first | omega | assumption)))
      all_goals (try (exfalso; omega))
      all_goals (refine r_es hQ ?_; try with_reducible rfl)
  · rw [if_neg hc] at hra
    have htp : touP a x = none := by unfold touP; rw [if_neg hc]
    rw [htp]
    simp only [touV, touO]
    unfold actV at hra ⊢
    refine Gives_in Tryz.func22 rfl Tryz.ntmps22 Tryz.results22 (by kernel_rfl) (by simp) rfl fun Q hQ => ?_
    (repeat' (first | (refine sx ?_ ?_ <;> intro h <;> first | (exfalso; omega) | skip) | (refine na ?_; (first | refine nb hra ?_) <;> try first | omega | assumption) | refine ny ?_ | refine WA_block ?_ | (refine uC34_22_5 ?_; refine ⟨by kernel_rfl, ?_⟩) | (refine uC34_22_6 ?_; refine ⟨by kernel_rfl, ?_⟩) | (refine g_d ?_; (first | refine d_fnY (hra _) ?_) <;> try first | omega | assumption)))
    all_goals (try (exfalso; omega))
    all_goals (refine r_es hQ ?_; try with_reducible rfl)
theorem chk_ok {a : ActR} {n d : Int} (h : chkDip a n d = 0) : acErr a = 0 ∧ dipErr a n d = 0 := by
  unfold chkDip at h
  split at h
  · contradiction
  · exact ⟨by omega, h⟩
def touE (a : ActR) (n d : Int) : V := if chkDip a n d ≠ 0 then .tup [touO none, .int .i64 (chkDip a n d)] else touV (touP a (toQ (n, d)))

theorem atouchx_c (a : ActR) (ha : Lt a) (n d : Int) (b1 : B64 n) (b2 : B64 d) (m : Mem) : Gives Tryz.prog 14 [.agg (actV a), .agg [.int .i64 n, .int .i64 d]] m (touE a n d) := by
  have hcd := fun m => acheckdip_c a ha n d b1 b2 m
  unfold touE
  by_cases h0 : chkDip a n d = 0
  · obtain ⟨h, h2⟩ := chk_ok h0
    obtain ⟨g1, g2, g3, hx, _⟩ := dip_q h2
    rw [if_neg (by omega)]
    rw [h0] at hcd
    have hx0 := h0
    generalize toQ (n, d) = x at *
    subst g2; subst g3
    have hto := fun m => atouch_c a ha h x hx m
    generalize touP a x = r at *
    cases r with
    | none =>
      simp only [touV, touO] at hto ⊢
      unfold actV at hto hcd ⊢
      refine Gives_in Tryz.func14 rfl Tryz.ntmps14 Tryz.results14 (by kernel_rfl) (by simp) rfl fun Q hQ => ?_
      (have FX := hx0; repeat' (first | (refine sx ?_ ?_ <;> intro h <;> first | (exfalso; omega) | skip) | (refine na ?_; (first | refine nb hcd ?_ | refine nb hto ?_) <;> try first | omega | assumption) | refine ny ?_ | refine WA_block ?_))
      all_goals (try (exfalso; omega))
      all_goals (refine r_es hQ ?_; try with_reducible rfl)
    | some p =>
      obtain ⟨p, q⟩ := p
      simp only [touV, touO] at hto ⊢
      unfold actV at hto hcd ⊢
      refine Gives_in Tryz.func14 rfl Tryz.ntmps14 Tryz.results14 (by kernel_rfl) (by simp) rfl fun Q hQ => ?_
      (have FX := hx0; repeat' (first | (refine sx ?_ ?_ <;> intro h <;> first | (exfalso; omega) | skip) | (refine na ?_; (first | refine nb hcd ?_ | refine nb hto ?_) <;> try first | omega | assumption) | refine ny ?_ | refine WA_block ?_))
      all_goals (try (exfalso; omega))
      all_goals (refine r_es hQ ?_; try with_reducible rfl)
  · rw [if_pos h0]
    have hx0 := h0
    simp only [touO]
    unfold actV at hcd ⊢
    refine Gives_in Tryz.func14 rfl Tryz.ntmps14 Tryz.results14 (by kernel_rfl) (by simp) rfl fun Q hQ => ?_
    (have FX := hx0; repeat' (first | (refine sx ?_ ?_ <;> intro h <;> first | (exfalso; omega) | skip) | (refine na ?_; (first | refine nb hcd ?_) <;> try first | omega | assumption) | refine ny ?_ | refine WA_block ?_))
    all_goals (try (exfalso; omega))
    all_goals (refine r_es hQ ?_; try with_reducible rfl)
def winErr (dn up : Int) : Int := if ¬ (-100000 ≤ dn ∧ dn ≤ 100000) ∨ ¬ (-100000 ≤ up ∧ up ≤ 100000) then 2 else 0

theorem acheckwin_c (dn up : Int) (m : Mem) : Gives Tryz.prog 20 [.agg [.int .i64 dn, .int .i64 up]] m (.int .i64 (winErr dn up)) := by
  refine Gives_in Tryz.func20 rfl Tryz.ntmps20 Tryz.results20 (by kernel_rfl) (by simp) rfl fun Q hQ => ?_
  (repeat' (first | (refine sx ?_ ?_ <;> intro h <;> first | (exfalso; omega) | skip) | (refine na ?_; (first | refine nb (awithin_c _ _ _) ?_) <;> try first | omega | assumption) | refine ny ?_ | refine WA_block ?_))
  all_goals ((refine r_es hQ ?_; try with_reducible rfl))
  all_goals (refine congrArg (V.int .i64) ?_; unfold winErr; (repeat (first | rw [if_pos (by first | assumption | omega | grind)] | rw [if_neg (by first | assumption | omega | grind)])))
def fitE (a : ActR) (dn up : Int) (x : Rat) : Int := match touP a x with
  | none => 8
  | some (p, q) => if (dn : Rat) < p ∨ q < (up : Rat) then 26 else 0
theorem win_ok {dn up : Int} (h : winErr dn up = 0) : sm (dn : Rat) ∧ sm (up : Rat) := by
  unfold winErr at h
  split at h
  · simp at h
  · exact ⟨sm_int (by omega), sm_int (by omega)⟩
theorem uC34_28_4 {N : Nat} {l : List Oper} {t : List (Nat × V)} {m : Mem} {Q : Exit → List (Nat × V) → Mem → Prop} (h : RgN Tryz.prog N l t m Q (fun i => if i == 1 || i == 3 || i == 4 || i == 5 || i == 9 || i == 11 || i == 12 || i == 13 then .q else .p) [.one 0, .one 1, .one 2, .one 3, .one 4, .one 5, .one 6, .one 7, .one 8, .one 9, .one 10, .one 11, .one 12, .one 13, .one 14, .one 15, .one 16]) : WA Tryz.prog N (.region 4 l.toArray true) t m Q := d_rgN h
theorem afits_c (a : ActR) (ha : Lt a) (h : acErr a = 0) (dn up : Int) (hw : winErr dn up = 0) (x : Rat) (hx : sm x) (m : Mem) : Gives Tryz.prog 28 [.agg (actV a), .agg [.int .i64 dn, .int .i64 up], .agg [.int .i64 (Rat.num (x)), .int .i64 ((Rat.den (x) : Nat) : Int)]] m (.int .i64 (fitE a dn up x)) := by
  have hto := fun m => atouch_c a ha h x hx m
  obtain ⟨w1, w2⟩ := win_ok hw
  have hpr := fun p q hpq => sm_pair (a := a) (x := x) (p := p) (q := q) hpq
  unfold fitE
  generalize touP a x = r at *
  cases r with
  | none =>
    simp only [touV, touO] at hto ⊢
    unfold actV at hto ⊢
    refine Gives_in Tryz.func28 rfl Tryz.ntmps28 Tryz.results28 (by kernel_rfl) (by simp) rfl fun Q hQ => ?_
    (repeat' (first | (refine sx ?_ ?_ <;> intro h <;> first | (exfalso; omega) | skip) | (refine na ?_; (first | refine nb hto ?_) <;> try first | omega | assumption) | refine ny ?_ | refine WA_block ?_ | (refine uC34_28_4 ?_; refine ⟨by kernel_rfl, ?_⟩) | (refine g_d ?_; (first | refine d_fnY (hto _) ?_) <;> try first | omega | assumption)))
    all_goals (try (exfalso; omega))
    all_goals (refine r_es hQ ?_; try with_reducible rfl)
  | some p =>
    obtain ⟨p, q⟩ := p
    obtain ⟨s1, s2⟩ := hpr p q rfl
    simp only [touV, touO] at hto ⊢
    have hc1 : ∀ m, Gives Tryz.prog 58 [.agg [.int .i64 (Rat.num (p)), .int .i64 ((Rat.den (p) : Nat) : Int)], .agg [.int .i64 dn, .int .i64 1]] m (.int .i64 (cmpQ p (dn : Rat))) := fun m => acompare_c p (dn : Rat) s1 w1 m
    have hc2 : ∀ m, Gives Tryz.prog 58 [.agg [.int .i64 (Rat.num (q)), .int .i64 ((Rat.den (q) : Nat) : Int)], .agg [.int .i64 up, .int .i64 1]] m (.int .i64 (cmpQ q (up : Rat))) := fun m => acompare_c q (up : Rat) s2 w2 m
    have e1 := cmpQ_gt (p := p) (q := (dn : Rat))
    have e2 := cmpQ_lt (p := q) (q := (up : Rat))
    generalize cmpQ p (dn : Rat) = c1 at *
    generalize cmpQ q (up : Rat) = c2 at *
    unfold actV at hto ⊢
    by_cases k1 : (dn : Rat) < p
    · have j1 := e1.2 k1
      rw [if_pos (.inl k1)]
      refine Gives_in Tryz.func28 rfl Tryz.ntmps28 Tryz.results28 (by kernel_rfl) (by simp) rfl fun Q hQ => ?_
      (repeat' (first | (refine sx ?_ ?_ <;> intro h <;> first | (exfalso; omega) | skip) | (refine na ?_; (first | refine nb hto ?_ | refine nb (awhole_c _) ?_ | refine nb hc1 ?_ | refine nb hc2 ?_) <;> try first | omega | assumption) | refine ny ?_ | refine WA_block ?_ | (refine uC34_28_4 ?_; refine ⟨by kernel_rfl, ?_⟩) | (refine g_d ?_; (first | refine d_fnY (hto _) ?_ | refine d_fnY (awhole_c _ _) ?_ | refine d_fnY (hc1 _) ?_ | refine d_fnY (hc2 _) ?_) <;> try first | omega | assumption)))
      all_goals (try (exfalso; omega))
      all_goals (refine r_es hQ ?_; try with_reducible rfl)
    · have j1 : ¬ 0 < c1 := fun h => k1 (e1.1 h)
      by_cases k2 : q < (up : Rat)
      · have j2 := e2.2 k2
        rw [if_pos (.inr k2)]
        refine Gives_in Tryz.func28 rfl Tryz.ntmps28 Tryz.results28 (by kernel_rfl) (by simp) rfl fun Q hQ => ?_
        (repeat' (first | (refine sx ?_ ?_ <;> intro h <;> first | (exfalso; omega) | skip) | (refine na ?_; (first | refine nb hto ?_ | refine nb (awhole_c _) ?_ | refine nb hc1 ?_ | refine nb hc2 ?_) <;> try first | omega | assumption) | refine ny ?_ | refine WA_block ?_ | (refine uC34_28_4 ?_; refine ⟨by kernel_rfl, ?_⟩) | (refine g_d ?_; (first | refine d_fnY (hto _) ?_ | refine d_fnY (awhole_c _ _) ?_ | refine d_fnY (hc1 _) ?_ | refine d_fnY (hc2 _) ?_) <;> try first | omega | assumption)))
        all_goals (try (exfalso; omega))
        all_goals (refine r_es hQ ?_; try with_reducible rfl)
      · have j2 : ¬ c2 < 0 := fun h => k2 (e2.1 h)
        rw [if_neg (fun h => h.elim k1 k2)]
        refine Gives_in Tryz.func28 rfl Tryz.ntmps28 Tryz.results28 (by kernel_rfl) (by simp) rfl fun Q hQ => ?_
        (repeat' (first | (refine sx ?_ ?_ <;> intro h <;> first | (exfalso; omega) | skip) | (refine na ?_; (first | refine nb hto ?_ | refine nb (awhole_c _) ?_ | refine nb hc1 ?_ | refine nb hc2 ?_) <;> try first | omega | assumption) | refine ny ?_ | refine WA_block ?_ | (refine uC34_28_4 ?_; refine ⟨by kernel_rfl, ?_⟩) | (refine g_d ?_; (first | refine d_fnY (hto _) ?_ | refine d_fnY (awhole_c _ _) ?_ | refine d_fnY (hc1 _) ?_ | refine d_fnY (hc2 _) ?_) <;> try first | omega | assumption)))
        all_goals (try (exfalso; omega))
        all_goals (refine r_es hQ ?_; try with_reducible rfl)
end Go.Proofs.YtihbeoplchiikaaGreatDoor
