/- contracts: the touch -/
import Derived.Test.YtgmlbabnffopdaaGreatC33
import Derived.Test.YtgmlbabnffopdaaGreatC25
set_option linter.unusedSimpArgs false
set_option linter.unusedVariables false
namespace Go.Proofs.YtgmlbabnffopdaaGreat
open Go.RowKit
attribute [local irreducible] WA WOs WDs WAn qThen qBlock tput
set_option maxHeartbeats 1000000
set_option maxRecDepth 20000
set_option linter.unusedSimpArgs false
set_option linter.unusedVariables false
attribute [local irreducible] smB cut sm
def touO : Option (Rat × Rat) → V
  | some (p, q) => .agg [.int .i64 p.num, .int .i64 (p.den : Int), .int .i64 q.num, .int .i64 (q.den : Int)]
  | none => .agg [.int .i64 0, .int .i64 0, .int .i64 0, .int .i64 0]
def touV (r : Option (Rat × Rat)) : V := match r with
  | some p => .tup [touO (some p), .int .i64 0]
  | none => .tup [touO none, .int .i64 8]
theorem rts_sm {a : ActR} (hp : PtsOk a) (x : Rat) : ∀ i, i < (rts a x a.parts.length).length → sm ((rts a x a.parts.length).getD i 0) := by
  intro i hi
  rw [rts_len] at hi
  rw [rts_get hi]
  exact sm_slpA hp hi x
theorem uC34_27_5 {N : Nat} {l : List Oper} {t : List (Nat × V)} {m : Mem} {Q : Exit → List (Nat × V) → Mem → Prop} (h : RgT Tryz.prog N l t m Q 73 (fun i => if i == 2 || i == 5 || i == 8 || i == 9 then .f else if i == 6 || i == 7 then .a else if i == 0 || i == 3 then .q else .p) [.one 0, .one 1, .one 3, .one 4, .grp true [2, 5] [6, 7], .one 8, .one 9]) : WA Tryz.prog N (.region 5 l.toArray true) t m Q := d_rgT h
theorem uC34_27_6 {N : Nat} {l : List Oper} {t : List (Nat × V)} {m : Mem} {Q : Exit → List (Nat × V) → Mem → Prop} (h : RgT Tryz.prog N l t m Q 73 (fun i => if i == 2 || i == 5 || i == 8 then .f else if i == 7 then .a else if i == 0 || i == 1 || i == 3 || i == 4 then .q else .p) [.one 0, .one 1, .one 3, .one 4, .grp true [2, 5] [7], .one 6, .one 8]) : WA Tryz.prog N (.region 6 l.toArray true) t m Q := d_rgT h
theorem atouch_c (a : ActR) (ha : Lt a) (h : acErr a = 0) (x : Rat) (hx : sm x) (m : Mem) : Gives Tryz.prog 27 [.agg (actV a), .agg [.int .i64 (Rat.num (x)), .int .i64 ((Rat.den (x) : Nat) : Int)]] m (touV (touP a x)) := by
  have hp := acErr_pts h
  obtain ⟨_, _, hl⟩ := acErr_evs h
  have hra := fun m => aratios_c a ha h x hx m
  unfold rtsV at hra
  by_cases hc : allC a a.parts.length
  · rw [if_pos hc] at hra
    have hrs := rts_sm hp x
    have hrl := rts_len a x a.parts.length
    have htp : touP a x = if ((frcP a (rts a x a.parts.length) (balA a (rts a x a.parts.length) false).2 (rts a x a.parts.length).length).2 || !smB ((balA a (rts a x a.parts.length) false).1 + (frcP a (rts a x a.parts.length) (balA a (rts a x a.parts.length) false).2 (rts a x a.parts.length).length).1)) || !smB ((balA a (rts a x a.parts.length) false).1 - (frcP a (rts a x a.parts.length) (balA a (rts a x a.parts.length) false).2 (rts a x a.parts.length).length).1) then none else some (cut ((balA a (rts a x a.parts.length) false).1 + (frcP a (rts a x a.parts.length) (balA a (rts a x a.parts.length) false).2 (rts a x a.parts.length).length).1), cut ((balA a (rts a x a.parts.length) false).1 - (frcP a (rts a x a.parts.length) (balA a (rts a x a.parts.length) false).2 (rts a x a.parts.length).length).1)) := by
      unfold touP
      rw [if_pos hc, hrl]
    have hle : (rts a x a.parts.length).length ≤ a.parts.length := by rw [hrl]; exact Nat.le_refl _
    generalize rts a x a.parts.length = l at *
    have hbw := fun k => balance_w k a hp hl l hle hrs false
    have hfw := fun k g => friction_w k a hp l hle hrs g
    have hb : sm (balA a l false).1 := sm_ldP a (sm_balP a l false l.length) _
    generalize balA a l false = s1 at *
    obtain ⟨b, g1⟩ := s1
    have hf := sm_frcP a l g1 l.length
    have hfw := fun k => hfw k g1
    dsimp only at htp hb
    generalize frcP a l g1 l.length = s2 at *
    obtain ⟨f, g2⟩ := s2
    dsimp only at hbw hfw htp hb hf
    rw [htp]
    obtain ⟨G1, hG1⟩ : ∃ G, (g2 || !smB (b + f)) = G := ⟨_, rfl⟩
    obtain ⟨G, hG⟩ : ∃ G, (G1 || !smB (b - f)) = G := ⟨_, rfl⟩
    have haw := fun k => add_w k b f g2 hb hf
    have hsw := fun k => sub_w k b f G1 hb hf
    rw [hG1] at haw
    rw [hG] at hsw
    rw [hG1, hG]
    unfold actV at hbw hfw hra ⊢
    cases G with
    | true =>
      rw [if_pos rfl]
      simp only [touV, touO]
      refine Gives_in Tryz.func27 rfl Tryz.ntmps27 Tryz.results27 (by kernel_rfl) (by simp) rfl fun Q hQ => ?_
      (repeat' (first | (refine sx ?_ ?_ <;> intro h <;> first | (exfalso; omega) | skip) | (refine g_op ?_; refine g_call ?_; refine g_args ?_; (first | refine s_fn (hra _) ?_ | refine s_fnW (hbw _) ?_ | refine s_fnW (hfw _) ?_ | refine s_fnW (haw _) ?_ | refine s_fnW (hsw _) ?_) <;> try first | omega | assumption) | refine ny ?_ | refine WA_block ?_ | (refine uC34_27_5 ?_; refine ⟨by kernel_rfl, ?_⟩) | (refine uC34_27_6 ?_; refine ⟨by kernel_rfl, ?_⟩) | ((first | refine grp_cons (fun _ => hra _) ?_ | refine grp_w (hbw _) ?_ | refine grp_w (hfw _) ?_ | refine grp_w (haw _) ?_ | refine grp_w (hsw _) ?_) <;> try first | omega | assumption) | (refine g_d ?_; refine d_args ?_; (first | refine d_fn (hra _) ?_ | refine d_fnW (hbw _) ?_ | refine d_fnW (hfw _) ?_ | refine d_fnW (haw _) ?_ | refine d_fnW (hsw _) ?_ | refine d_fnQ (fun _ => hra _) ?_) <;> try first | omega | assumption) | (refine g_d ?_; (first | refine d_fnY (hra _) ?_) <;> try first | omega | assumption)))
      all_goals (try (exfalso; omega))
      all_goals (refine r_es hQ ?_; try with_reducible rfl)
    | false =>
      rw [if_neg (by decide)]
      simp only [touV, touO]
      refine Gives_in Tryz.func27 rfl Tryz.ntmps27 Tryz.results27 (by kernel_rfl) (by simp) rfl fun Q hQ => ?_
      (repeat' (first | (refine sx ?_ ?_ <;> intro h <;> first | (exfalso; omega) | skip) | (refine g_op ?_; refine g_call ?_; refine g_args ?_; (first | refine s_fn (hra _) ?_ | refine s_fnW (hbw _) ?_ | refine s_fnW (hfw _) ?_ | refine s_fnW (haw _) ?_ | refine s_fnW (hsw _) ?_) <;> try first | omega | assumption) | refine ny ?_ | refine WA_block ?_ | (refine uC34_27_5 ?_; refine ⟨by kernel_rfl, ?_⟩) | (refine uC34_27_6 ?_; refine ⟨by kernel_rfl, ?_⟩) | ((first | refine grp_cons (fun _ => hra _) ?_ | refine grp_w (hbw _) ?_ | refine grp_w (hfw _) ?_ | refine grp_w (haw _) ?_ | refine grp_w (hsw _) ?_) <;> try first | omega | assumption) | (refine g_d ?_; refine d_args ?_; (first | refine d_fn (hra _) ?_ | refine d_fnW (hbw _) ?_ | refine d_fnW (hfw _) ?_ | refine d_fnW (haw _) ?_ | refine d_fnW (hsw _) ?_ | refine d_fnQ (fun _ => hra _) ?_) <;> try first | omega | assumption) | (refine g_d ?_; (first | refine d_fnY (hra _) ?_) <;> try first | omega | assumption)))
      all_goals (try (exfalso; omega))
      all_goals (refine r_es hQ ?_; try with_reducible rfl)
  · rw [if_neg hc] at hra
    have htp : touP a x = none := by unfold touP; rw [if_neg hc]
    rw [htp]
    simp only [touV, touO]
    unfold actV at hra ⊢
    refine Gives_in Tryz.func27 rfl Tryz.ntmps27 Tryz.results27 (by kernel_rfl) (by simp) rfl fun Q hQ => ?_
    (repeat' (first | (refine sx ?_ ?_ <;> intro h <;> first | (exfalso; omega) | skip) | (refine g_op ?_; refine g_call ?_; refine g_args ?_; (first | refine s_fn (hra _) ?_) <;> try first | omega | assumption) | refine ny ?_ | refine WA_block ?_ | (refine uC34_27_5 ?_; refine ⟨by kernel_rfl, ?_⟩) | (refine uC34_27_6 ?_; refine ⟨by kernel_rfl, ?_⟩) | ((first | refine grp_cons (fun _ => hra _) ?_) <;> try first | omega | assumption) | (refine g_d ?_; refine d_args ?_; (first | refine d_fn (hra _) ?_ | refine d_fnQ (fun _ => hra _) ?_) <;> try first | omega | assumption) | (refine g_d ?_; (first | refine d_fnY (hra _) ?_) <;> try first | omega | assumption)))
    all_goals (try (exfalso; omega))
    all_goals (refine r_es hQ ?_; try with_reducible rfl)
def balE (a : ActR) (n d : Int) : Option Rat × Int := if chkDip a n d ≠ 0 then (none, chkDip a n d) else match balV a (toQ (n, d)) with
  | some b => (some b, 0)
  | none => (none, 8)
theorem chk_ok {a : ActR} {n d : Int} (h : chkDip a n d = 0) : acErr a = 0 ∧ dipErr a n d = 0 := by
  unfold chkDip at h
  split at h
  · contradiction
  · exact ⟨by omega, h⟩

theorem abalance_c (a : ActR) (ha : Lt a) (n d : Int) (b1 : B64 n) (b2 : B64 d) (m : Mem) : Gives Tryz.prog 11 [.agg (actV a), .agg [.int .i64 n, .int .i64 d]] m (rchV (balE a n d)) := by
  have hcd := fun m => acheckdip_c a ha n d b1 b2 m
  unfold balE
  by_cases h0 : chkDip a n d = 0
  · obtain ⟨h, h2⟩ := chk_ok h0
    obtain ⟨g1, g2, g3, hx, _⟩ := dip_q h2
    rw [if_neg (by omega)]
    rw [h0] at hcd
    have hx0 := h0
    generalize toQ (n, d) = x at *
    subst g2; subst g3
    have hp := acErr_pts h
    obtain ⟨_, _, hl⟩ := acErr_evs h
    have hra := fun m => aratios_c a ha h x hx m
    unfold rtsV at hra
    unfold balV
    by_cases hc : allC a a.parts.length
    · rw [if_pos hc] at hra ⊢
      have hrs := rts_sm hp x
      have hrl := rts_len a x a.parts.length
      have hle : (rts a x a.parts.length).length ≤ a.parts.length := by rw [hrl]; exact Nat.le_refl _
      generalize rts a x a.parts.length = l at *
      have hbw := fun k => balance_w k a hp hl l hle hrs false
      have htd := fun m => atold_c (balA a l false).1 (balA a l false).2 m
      generalize balA a l false = s1 at *
      obtain ⟨b, g1'⟩ := s1
      dsimp only at hbw htd ⊢
      cases g1' with
      | true =>
        rw [if_pos rfl] at htd ⊢
        simp only [rchV, frO]
        unfold actV at hbw hra hcd ⊢
        refine Gives_in Tryz.func11 rfl Tryz.ntmps11 Tryz.results11 (by kernel_rfl) (by simp) rfl fun Q hQ => ?_
        (have FX := hx0; repeat' (first | (refine sx ?_ ?_ <;> intro h <;> first | (exfalso; omega) | skip) | (refine g_op ?_; refine g_call ?_; refine g_args ?_; (first | refine s_fn (hcd _) ?_ | refine s_fn (hra _) ?_ | refine s_fn (htd _) ?_ | refine s_fnW (hbw _) ?_) <;> try first | omega | assumption) | refine ny ?_ | refine WA_block ?_))
        all_goals (try (exfalso; omega))
        all_goals (refine r_es hQ ?_; try with_reducible rfl)
      | false =>
        rw [if_neg (by decide)] at htd ⊢
        simp only [rchV, frO]
        unfold actV at hbw hra hcd ⊢
        refine Gives_in Tryz.func11 rfl Tryz.ntmps11 Tryz.results11 (by kernel_rfl) (by simp) rfl fun Q hQ => ?_
        (have FX := hx0; repeat' (first | (refine sx ?_ ?_ <;> intro h <;> first | (exfalso; omega) | skip) | (refine g_op ?_; refine g_call ?_; refine g_args ?_; (first | refine s_fn (hcd _) ?_ | refine s_fn (hra _) ?_ | refine s_fn (htd _) ?_ | refine s_fnW (hbw _) ?_) <;> try first | omega | assumption) | refine ny ?_ | refine WA_block ?_))
        all_goals (try (exfalso; omega))
        all_goals (refine r_es hQ ?_; try with_reducible rfl)
    · rw [if_neg hc] at hra ⊢
      simp only [rchV, frO]
      unfold actV at hra hcd ⊢
      refine Gives_in Tryz.func11 rfl Tryz.ntmps11 Tryz.results11 (by kernel_rfl) (by simp) rfl fun Q hQ => ?_
      (have FX := hx0; repeat' (first | (refine sx ?_ ?_ <;> intro h <;> first | (exfalso; omega) | skip) | (refine g_op ?_; refine g_call ?_; refine g_args ?_; (first | refine s_fn (hcd _) ?_ | refine s_fn (hra _) ?_) <;> try first | omega | assumption) | refine ny ?_ | refine WA_block ?_))
      all_goals (try (exfalso; omega))
      all_goals (refine r_es hQ ?_; try with_reducible rfl)
  · rw [if_pos h0]
    have hx0 := h0
    simp only [rchV, frO]
    unfold actV at hcd ⊢
    refine Gives_in Tryz.func11 rfl Tryz.ntmps11 Tryz.results11 (by kernel_rfl) (by simp) rfl fun Q hQ => ?_
    (have FX := hx0; repeat' (first | (refine sx ?_ ?_ <;> intro h <;> first | (exfalso; omega) | skip) | (refine g_op ?_; refine g_call ?_; refine g_args ?_; (first | refine s_fn (hcd _) ?_) <;> try first | omega | assumption) | refine ny ?_ | refine WA_block ?_))
    all_goals (try (exfalso; omega))
    all_goals (refine r_es hQ ?_; try with_reducible rfl)
def touE (a : ActR) (n d : Int) : V := if chkDip a n d ≠ 0 then .tup [touO none, .int .i64 (chkDip a n d)] else touV (touP a (toQ (n, d)))

theorem atouchx_c (a : ActR) (ha : Lt a) (n d : Int) (b1 : B64 n) (b2 : B64 d) (m : Mem) : Gives Tryz.prog 9 [.agg (actV a), .agg [.int .i64 n, .int .i64 d]] m (touE a n d) := by
  have hcd := fun m => acheckdip_c a ha n d b1 b2 m
  unfold touE
  by_cases h0 : chkDip a n d = 0
  · obtain ⟨h, h2⟩ := chk_ok h0
    obtain ⟨g1, g2, g3, hx, _⟩ := dip_q h2
    rw [if_neg (by omega)]
    rw [h0] at hcd
    have hx0 := h0
    generalize toQ (n, d) = x at *
    subst g2; subst g3
    have hto := fun m => atouch_c a ha h x hx m
    generalize touP a x = r at *
    cases r with
    | none =>
      simp only [touV, touO] at hto ⊢
      unfold actV at hto hcd ⊢
      refine Gives_in Tryz.func9 rfl Tryz.ntmps9 Tryz.results9 (by kernel_rfl) (by simp) rfl fun Q hQ => ?_
      (have FX := hx0; repeat' (first | (refine sx ?_ ?_ <;> intro h <;> first | (exfalso; omega) | skip) | (refine g_op ?_; refine g_call ?_; refine g_args ?_; (first | refine s_fn (hcd _) ?_ | refine s_fn (hto _) ?_) <;> try first | omega | assumption) | refine ny ?_ | refine WA_block ?_))
      all_goals (try (exfalso; omega))
      all_goals (refine r_es hQ ?_; try with_reducible rfl)
    | some p =>
      obtain ⟨p, q⟩ := p
      simp only [touV, touO] at hto ⊢
      unfold actV at hto hcd ⊢
      refine Gives_in Tryz.func9 rfl Tryz.ntmps9 Tryz.results9 (by kernel_rfl) (by simp) rfl fun Q hQ => ?_
      (have FX := hx0; repeat' (first | (refine sx ?_ ?_ <;> intro h <;> first | (exfalso; omega) | skip) | (refine g_op ?_; refine g_call ?_; refine g_args ?_; (first | refine s_fn (hcd _) ?_ | refine s_fn (hto _) ?_) <;> try first | omega | assumption) | refine ny ?_ | refine WA_block ?_))
      all_goals (try (exfalso; omega))
      all_goals (refine r_es hQ ?_; try with_reducible rfl)
  · rw [if_pos h0]
    have hx0 := h0
    simp only [touO]
    unfold actV at hcd ⊢
    refine Gives_in Tryz.func9 rfl Tryz.ntmps9 Tryz.results9 (by kernel_rfl) (by simp) rfl fun Q hQ => ?_
    (have FX := hx0; repeat' (first | (refine sx ?_ ?_ <;> intro h <;> first | (exfalso; omega) | skip) | (refine g_op ?_; refine g_call ?_; refine g_args ?_; (first | refine s_fn (hcd _) ?_) <;> try first | omega | assumption) | refine ny ?_ | refine WA_block ?_))
    all_goals (try (exfalso; omega))
    all_goals (refine r_es hQ ?_; try with_reducible rfl)
end Go.Proofs.YtgmlbabnffopdaaGreat
