/- contracts: right curves, in the reference -/
import Derived.Test.YtihbeoplchiikaaGreatDoorGB
set_option linter.unusedSimpArgs false
set_option linter.unusedVariables false
namespace Go.Proofs.YtihbeoplchiikaaGreatDoor
open Go.RowKit
attribute [local irreducible] WA WOs WDs WAn qThen qBlock tput
set_option maxHeartbeats 1000000
set_option maxRecDepth 20000
set_option linter.unusedSimpArgs false
set_option linter.unusedVariables false
attribute [local irreducible] smB cut sm
theorem uC6_122_14 {N : Nat} {l : List Oper} {t : List (Nat × V)} {m : Mem} {Q : Exit → List (Nat × V) → Mem → Prop} (h : RgN Tryz.prog N l t m Q (fun i => if i == 4 || i == 10 || i == 11 then .q else .p) [.one 0, .one 1, .one 2, .one 3, .one 4, .one 5, .one 6, .one 7, .one 8, .one 9, .one 10, .one 11, .one 12]) : WA Tryz.prog N (.region 14 l.toArray true) t m Q := d_rgN h
theorem uC6_122_16 {N : Nat} {l : List Oper} {t : List (Nat × V)} {m : Mem} {Q : Exit → List (Nat × V) → Mem → Prop} (h : RgN Tryz.prog N l t m Q (fun i => if i == 14 then .f else if i == 13 then .a else if i == 4 || i == 8 || i == 9 then .q else .p) [.one 0, .one 1, .one 2, .one 3, .one 4, .one 5, .one 6, .one 7, .one 8, .one 9, .one 10, .one 11, .one 12, .one 13, .one 14, .one 15]) : WA Tryz.prog N (.region 16 l.toArray true) t m Q := d_rgN h
theorem rcheckcurve_c (l : List Rk) (hB : RkB l) (m : Mem) : Gives Tryz.prog 122 [.agg [.lst (rksV l)]] m (.int .i64 (cuErr l)) := by
  have hla := rksV_length (l := l)
  have hga := hla
  have hea := hla
  have hca := fun m => rcheckfrac_c 0 0 (by omega) (by omega) m
  have hcb := hca
  by_cases hn : 1 ≤ l.length ∧ l.length ≤ 60
  · refine Gives_in Tryz.func122 rfl Tryz.ntmps122 Tryz.results122 (by kernel_rfl) (by simp) rfl fun Q hQ => ?_
    (have FX := fx3 hla hga hea; repeat' (first | (refine sx ?_ ?_ <;> intro h <;> first | (exfalso; omega) | skip) | (refine na ?_; (first | refine nb hca ?_ | refine nb hcb ?_) <;> try first | omega | assumption) | refine ny ?_ | refine WA_block ?_ | (refine uC6_122_14 ?_; refine ⟨by kernel_rfl, ?_⟩) | (refine uC6_122_16 ?_; refine ⟨by kernel_rfl, ?_⟩) | (refine g_d ?_; (first | refine d_fnY (hca _) ?_ | refine d_fnY (hcb _) ?_) <;> try first | omega | assumption)))
    refine WA_whileK (σ := Nat) [3, 4] (fun i => [.lst (rksV l), .int .i64 i]) (fun _ => [.cells .own 47 1 [[.lst (rksV l)]]]) 1 (fun i => i ≤ l.length ∧ ∀ j, j < i → cuErrAt l j = 0) (fun i => l.length - i) 0 ⟨Nat.zero_le _, fun j h => absurd h (Nat.not_lt_zero _)⟩ tv_ rfl (fun _ => rfl) (by intro s s' _ _; simp [conB, conS, V.keeps, V.plain, Blk.flat, flatL, plainL, V.flat]) (by intro s s' _ _; simp [conB, conS, V.keeps, V.plain, Blk.flat, flatL, plainL, V.flat]) ?_
    rintro i ⟨hi1, hi2⟩ K hK
    simp only [zipT]
    clear FX hga hea hca hcb
    rcases Nat.lt_or_ge i l.length with hi | hi
    · have hga := rksV_get hi
      have hb := hB i hi
      obtain ⟨⟨⟨a, b⟩, ⟨c, d⟩⟩, hx⟩ : ∃ x, l.getD i rk0 = x := ⟨_, rfl⟩
      rw [hx] at hga hb
      dsimp only [rkV] at hga hb
      have hca := fun m => rcheckfrac_c a b hb.1.1 hb.1.2 m
      have hcb := fun m => rcheckfrac_c c d hb.2.1 hb.2.2 m
      by_cases he : frErr a b = 0
      · by_cases he2 : frErr c d = 0
        · rw [he] at hca
          rw [he2] at hcb
          obtain ⟨p, hp1, hp2, hp3, hp4⟩ := rk_point (l := l) (i := i) (by rw [hx]; exact he) (by rw [hx]; exact he2)
          rw [hx] at hp1
          obtain ⟨x, y⟩ := p
          injection hp1 with q1 q2
          injection q1 with q1 q1'
          injection q2 with q2 q2'
          subst q1; subst q1'; subst q2; subst q2'
          dsimp only [rawQ] at *
          cases i with
          | zero =>
            have h00 : cuErrAt l 0 = 0 := cuAt_0 (by rw [hx]; exact he) (by rw [hx]; exact he2)
            have hea := hla
            (have FX := fx3 hla hga hea; repeat' (first | (refine sx ?_ ?_ <;> intro h <;> first | (exfalso; omega) | skip) | (refine na ?_; (first | refine nb hca ?_ | refine nb hcb ?_) <;> try first | omega | assumption) | refine ny ?_ | refine WA_block ?_ | (refine uC6_122_14 ?_; refine ⟨by kernel_rfl, ?_⟩) | (refine uC6_122_16 ?_; refine ⟨by kernel_rfl, ?_⟩) | (refine g_d ?_; (first | refine d_fnY (hca _) ?_ | refine d_fnY (hcb _) ?_) <;> try first | omega | assumption)))
            all_goals (try (exfalso; omega))
            all_goals (refine nextL_ hK 1 ⟨hi, fun j hj => ?_⟩ (by omega))
            all_goals (have : j = 0 := by omega)
            all_goals (subst this; exact h00)
          | succ i =>
            have hpre := cuErrAt_zero.1 (hi2 i (by omega))
            obtain ⟨p0, hz1, hz2, hz3, hz4⟩ := rk_point hpre.1 hpre.2.1
            obtain ⟨u, v⟩ := p0
            have hgb := rksV_get (l := l) (i := i) (by omega)
            rw [hz1] at hgb
            dsimp only [rkV, raw, rawQ] at hgb
            have hti : (((i + 1 : Nat) : Int) - 1).toNat = i := by omega
            have hat := cuAt_s (l := l) (i := i) (by rw [hx]; exact he) (by rw [hx]; exact he2)
            rw [hp2, hz2] at hat
            dsimp only at hat hp3 hp4 hz3 hz4
            have hcq := cmpQ_bd x u
            have hle := cmpQ_le (p := x) (q := u)
            have hea := And.intro hgb hti
            by_cases hle2 : x ≤ u
            · have hsf := fun m => bcmp_c x u hp3 hz3 m
              rw [if_pos hle2] at hat
              have hc0 := hle.2 hle2
              (have FX := fx3 hla hga hea; repeat' (first | (refine sx ?_ ?_ <;> intro h <;> first | (exfalso; omega) | skip) | (refine na ?_; (first | refine nb hca ?_ | refine nb hcb ?_ | refine nb (bcmp_c x u hp3 hz3) ?_ | refine nb hsf ?_) <;> try first | omega | assumption) | refine ny ?_ | refine WA_block ?_ | (refine uC6_122_14 ?_; refine ⟨by kernel_rfl, ?_⟩) | (refine uC6_122_16 ?_; refine ⟨by kernel_rfl, ?_⟩) | (refine g_d ?_; (first | refine d_fnY (hca _) ?_ | refine d_fnY (hcb _) ?_ | refine d_fnY (bcmp_c x u hp3 hz3 _) ?_ | refine d_fnY (hsf _) ?_) <;> try first | omega | assumption)))
              all_goals (try (exfalso; omega))
              all_goals ((refine r_es hQ ?_; try with_reducible rfl); rw [cuErr_first hn hi hi2 (by rw [hat]; decide), hat])
            · rw [if_neg hle2] at hat
              have hlt : u < x := Rat.not_le.1 hle2
              have hc0 : ¬ cmpQ x u ≤ 0 := fun h => hle2 (hle.1 h)
              have hsf := fun m => rslope_c (u, v) (x, y) hz3 hz4 hp3 hp4 hlt m
              dsimp only [ptV] at hsf
              by_cases hs : slOk (u, v) (x, y)
              · rw [if_pos hs] at hat
                have hs' := hs
                obtain ⟨s1, s2, s3⟩ := hs'
                dsimp only at s1 s2
                have hsb := smB_of s3
                rw [if_pos ⟨s1, s2⟩, hsb] at hsf
                have hea := And.intro hgb hti
                (have FX := fx3 hla hga hea; repeat' (first | (refine sx ?_ ?_ <;> intro h <;> first | (exfalso; omega) | skip) | (refine na ?_; (first | refine nb hca ?_ | refine nb hcb ?_ | refine nb (bcmp_c x u hp3 hz3) ?_ | refine nb hsf ?_) <;> try first | omega | assumption) | refine ny ?_ | refine WA_block ?_ | (refine uC6_122_14 ?_; refine ⟨by kernel_rfl, ?_⟩) | (refine uC6_122_16 ?_; refine ⟨by kernel_rfl, ?_⟩) | (refine g_d ?_; (first | refine d_fnY (hca _) ?_ | refine d_fnY (hcb _) ?_ | refine d_fnY (bcmp_c x u hp3 hz3 _) ?_ | refine d_fnY (hsf _) ?_) <;> try first | omega | assumption)))
                all_goals (try (exfalso; omega))
                all_goals (refine nextL_ hK (i + 1 + 1) ⟨hi, fun j hj => ?_⟩ (by omega))
                all_goals (rcases Nat.lt_or_ge j (i + 1) with hq | hq)
                all_goals first | exact hi2 j hq | (have hji : j = i + 1 := by omega); (subst hji; exact hat)
              · rw [if_neg hs] at hat
                have hea := And.intro hgb hti
                by_cases h12 : sm (y - v) ∧ sm (x - u)
                · have hsb : smB (sl (u, v) (x, y)) = false := smB_no fun h => hs ⟨h12.1, h12.2, h⟩
                  rw [if_pos h12, hsb] at hsf
                  (have FX := fx3 hla hga hea; repeat' (first | (refine sx ?_ ?_ <;> intro h <;> first | (exfalso; omega) | skip) | (refine na ?_; (first | refine nb hca ?_ | refine nb hcb ?_ | refine nb (bcmp_c x u hp3 hz3) ?_ | refine nb hsf ?_) <;> try first | omega | assumption) | refine ny ?_ | refine WA_block ?_ | (refine uC6_122_14 ?_; refine ⟨by kernel_rfl, ?_⟩) | (refine uC6_122_16 ?_; refine ⟨by kernel_rfl, ?_⟩) | (refine g_d ?_; (first | refine d_fnY (hca _) ?_ | refine d_fnY (hcb _) ?_ | refine d_fnY (bcmp_c x u hp3 hz3 _) ?_ | refine d_fnY (hsf _) ?_) <;> try first | omega | assumption)))
                  all_goals (try (exfalso; omega))
                  all_goals ((refine r_es hQ ?_; try with_reducible rfl); rw [cuErr_first hn hi hi2 (by rw [hat]; decide), hat])
                · rw [if_neg h12] at hsf
                  (have FX := fx3 hla hga hea; repeat' (first | (refine sx ?_ ?_ <;> intro h <;> first | (exfalso; omega) | skip) | (refine na ?_; (first | refine nb hca ?_ | refine nb hcb ?_ | refine nb (bcmp_c x u hp3 hz3) ?_ | refine nb hsf ?_) <;> try first | omega | assumption) | refine ny ?_ | refine WA_block ?_ | (refine uC6_122_14 ?_; refine ⟨by kernel_rfl, ?_⟩) | (refine uC6_122_16 ?_; refine ⟨by kernel_rfl, ?_⟩) | (refine g_d ?_; (first | refine d_fnY (hca _) ?_ | refine d_fnY (hcb _) ?_ | refine d_fnY (bcmp_c x u hp3 hz3 _) ?_ | refine d_fnY (hsf _) ?_) <;> try first | omega | assumption)))
                  all_goals (try (exfalso; omega))
                  all_goals ((refine r_es hQ ?_; try with_reducible rfl); rw [cuErr_first hn hi hi2 (by rw [hat]; decide), hat])
        · have hea := hla
          (have FX := fx3 hla hga hea; repeat' (first | (refine sx ?_ ?_ <;> intro h <;> first | (exfalso; omega) | skip) | (refine na ?_; (first | refine nb hca ?_ | refine nb hcb ?_) <;> try first | omega | assumption) | refine ny ?_ | refine WA_block ?_ | (refine uC6_122_14 ?_; refine ⟨by kernel_rfl, ?_⟩) | (refine uC6_122_16 ?_; refine ⟨by kernel_rfl, ?_⟩) | (refine g_d ?_; (first | refine d_fnY (hca _) ?_ | refine d_fnY (hcb _) ?_) <;> try first | omega | assumption)))
          all_goals (try (exfalso; omega))
          all_goals ((refine r_es hQ ?_; try with_reducible rfl); rw [cuErr_first hn hi hi2 (by rw [cuAt_y (by rw [hx]; exact he) (by rw [hx]) he2]; exact he2), cuAt_y (by rw [hx]; exact he) (by rw [hx]) he2])
      · have hea := hla
        (have FX := fx3 hla hga hea; repeat' (first | (refine sx ?_ ?_ <;> intro h <;> first | (exfalso; omega) | skip) | (refine na ?_; (first | refine nb hca ?_ | refine nb hcb ?_) <;> try first | omega | assumption) | refine ny ?_ | refine WA_block ?_ | (refine uC6_122_14 ?_; refine ⟨by kernel_rfl, ?_⟩) | (refine uC6_122_16 ?_; refine ⟨by kernel_rfl, ?_⟩) | (refine g_d ?_; (first | refine d_fnY (hca _) ?_ | refine d_fnY (hcb _) ?_) <;> try first | omega | assumption)))
        all_goals (try (exfalso; omega))
        all_goals ((refine r_es hQ ?_; try with_reducible rfl); rw [cuErr_first hn hi hi2 (by rw [cuAt_x (by rw [hx]) he]; exact he), cuAt_x (by rw [hx]) he])
    · have hie : i = l.length := by omega
      subst hie
      have hga := hla
      have hea := hla
      have hca := fun m => rcheckfrac_c 0 0 (by omega) (by omega) m
      have hcb := hca
      (have FX := fx3 hla hga hea; repeat' (first | (refine sx ?_ ?_ <;> intro h <;> first | (exfalso; omega) | skip) | (refine na ?_; (first | refine nb hca ?_ | refine nb hcb ?_) <;> try first | omega | assumption) | refine ny ?_ | refine WA_block ?_ | (refine uC6_122_14 ?_; refine ⟨by kernel_rfl, ?_⟩) | (refine uC6_122_16 ?_; refine ⟨by kernel_rfl, ?_⟩) | (refine g_d ?_; (first | refine d_fnY (hca _) ?_ | refine d_fnY (hcb _) ?_) <;> try first | omega | assumption)))
      all_goals (try (exfalso; omega))
      all_goals ((refine r_es hQ ?_; try with_reducible rfl); rw [cuErr_none hn hi2])
  · have hsh := cuErr_shape hn
    refine Gives_in Tryz.func122 rfl Tryz.ntmps122 Tryz.results122 (by kernel_rfl) (by simp) rfl fun Q hQ => ?_
    (have FX := fx3 hla hga hea; repeat' (first | (refine sx ?_ ?_ <;> intro h <;> first | (exfalso; omega) | skip) | (refine na ?_; (first | refine nb hca ?_ | refine nb hcb ?_) <;> try first | omega | assumption) | refine ny ?_ | refine WA_block ?_ | (refine uC6_122_14 ?_; refine ⟨by kernel_rfl, ?_⟩) | (refine uC6_122_16 ?_; refine ⟨by kernel_rfl, ?_⟩) | (refine g_d ?_; (first | refine d_fnY (hca _) ?_ | refine d_fnY (hcb _) ?_) <;> try first | omega | assumption)))
    all_goals (try (exfalso; omega))
    all_goals ((refine r_es hQ ?_; try with_reducible rfl); rw [hsh])
end Go.Proofs.YtihbeoplchiikaaGreatDoor
