/- contracts: the curve of a part at a dip; positions and ratios -/
import Derived.Test.YtmigenmibohnkaaGreatC24
set_option linter.unusedSimpArgs false
set_option linter.unusedVariables false
namespace Go.Proofs.YtmigenmibohnkaaGreat
open Go.RowKit
attribute [local irreducible] WA WOs WDs WAn qThen qBlock tput
set_option maxHeartbeats 1000000
set_option maxRecDepth 20000
set_option linter.unusedSimpArgs false
set_option linter.unusedVariables false
attribute [local irreducible] smB cut sm
theorem psE_pt {a : ActR} {s : List UInt8} {n d : Int} (h : ptE a s ≠ 0) : psE a s n d = ptE a s := by unfold psE; rw [if_pos h]
theorem psE_dp {a : ActR} {s : List UInt8} {n d : Int} (h : ptE a s = 0) : psE a s n d = dipErr a n d := by unfold psE; rw [if_neg (by omega)]
theorem chk_dp {a : ActR} {n d : Int} (h : acErr a = 0) : chkDip a n d = dipErr a n d := by unfold chkDip; rw [if_neg (by omega)]

theorem acurveat_c (a : ActR) (ha : Lt a) (s : List UInt8) (n d : Int) (b1 : B64 n) (b2 : B64 d) (m : Mem) : Gives Tryz.prog 97 [.agg (actV a), .str s, .agg [.int .i64 n, .int .i64 d]] m (if psE a s n d ≠ 0 then .tup [.agg [.nilsl], .int .i64 (psE a s n d)] else crv (cvP a (prI a s).toNat)) := by
  by_cases h0 : ptE a s = 0
  · obtain ⟨h1, h2, h3⟩ := prI_ok h0
    rw [psE_dp h0]
    generalize (prI a s).toNat = j at *
    have hcd := fun m => acheckdip_c a ha n d b1 b2 m
    rw [chk_dp h1] at hcd
    have hx := And.intro h1 h2
    unfold prI at hx
    by_cases h4 : dipErr a n d = 0
    · rw [if_neg (by omega)]
      rw [h4] at hcd
      have hcu := fun m => acurveof_c a ha h1 13 j m (by have := (acErr_pts h1).few; omega) h3
      rw [← hx.2] at hcu
      unfold cvP
      generalize curP a 13 j = r at hcu
      cases r with
      | none =>
        simp only [crv] at hcu ⊢
        unfold actV at hcu hcd ⊢
        refine Gives_in Tryz.func97 rfl Tryz.ntmps97 Tryz.results97 (by kernel_rfl) (by simp) rfl fun Q hQ => ?_
        (have FX := hx; repeat' (first | (refine sx ?_ ?_ <;> intro h <;> first | (exfalso; omega) | skip) | (refine g_op ?_; refine g_call ?_; refine g_args ?_; (first | refine s_fn (acheckaction_c a ha _) ?_ | refine s_fn (afind_c a.parts s _ ha.np) ?_ | refine s_fn (hcd _) ?_ | refine s_fn (hcu _) ?_) <;> try first | omega | assumption) | refine ny ?_ | refine WA_block ?_))
        all_goals (try (exfalso; omega))
        all_goals ((refine r_es hQ ?_; try with_reducible rfl))
      | some l =>
        simp only [crv] at hcu ⊢
        unfold actV at hcu hcd ⊢
        refine CallA_in Tryz.func97 rfl Tryz.ntmps97 Tryz.results97 (by kernel_rfl) (by simp) fun Q hQ => ?_
        (have FX := hx; repeat' (first | (refine sx ?_ ?_ <;> intro h <;> first | (exfalso; omega) | skip) | (refine g_op ?_; refine g_call ?_; refine g_args ?_; (first | refine s_fn (acheckaction_c a ha _) ?_ | refine s_fn (afind_c a.parts s _ ha.np) ?_ | refine s_fn (hcd _) ?_ | refine s_fn (hcu _) ?_) <;> try first | omega | assumption) | refine ny ?_ | refine WA_block ?_))
        all_goals (try (exfalso; omega))
        all_goals (refine r_esA hQ (fin_lst (ptsV_plain l) ⟨rfl, rfl⟩))
    · rw [if_pos h4]
      have hcu := fun m => awhole_c 0 m
      unfold actV at hcd ⊢
      refine Gives_in Tryz.func97 rfl Tryz.ntmps97 Tryz.results97 (by kernel_rfl) (by simp) rfl fun Q hQ => ?_
      (have FX := hx; repeat' (first | (refine sx ?_ ?_ <;> intro h <;> first | (exfalso; omega) | skip) | (refine g_op ?_; refine g_call ?_; refine g_args ?_; (first | refine s_fn (acheckaction_c a ha _) ?_ | refine s_fn (afind_c a.parts s _ ha.np) ?_ | refine s_fn (hcd _) ?_ | refine s_fn (hcu _) ?_) <;> try first | omega | assumption) | refine ny ?_ | refine WA_block ?_))
      all_goals (try (exfalso; omega))
      all_goals ((refine r_es hQ ?_; try with_reducible rfl))
  · rw [psE_pt h0, if_pos h0]
    have h1 : ptE a s = (if acErr a ≠ 0 then acErr a else if prI a s < 0 then 6 else 0) := rfl
    have hx := h1
    have hcu := fun m => awhole_c 0 m
    have hcd := fun m => awhole_c 0 m
    unfold prI at h1
    rw [h1] at h0 ⊢
    unfold actV
    refine Gives_in Tryz.func97 rfl Tryz.ntmps97 Tryz.results97 (by kernel_rfl) (by simp) rfl fun Q hQ => ?_
    (have FX := hx; repeat' (first | (refine sx ?_ ?_ <;> intro h <;> first | (exfalso; omega) | skip) | (refine g_op ?_; refine g_call ?_; refine g_args ?_; (first | refine s_fn (acheckaction_c a ha _) ?_ | refine s_fn (afind_c a.parts s _ ha.np) ?_ | refine s_fn (hcd _) ?_ | refine s_fn (hcu _) ?_) <;> try first | omega | assumption) | refine ny ?_ | refine WA_block ?_))
    all_goals (try (exfalso; (repeat' split at h0) <;> omega))
    all_goals ((refine r_es hQ ?_; try with_reducible rfl))
    all_goals (first | (rw [if_pos (by omega)]; done) | (rw [if_neg (by omega), if_pos (by omega)]; done))
theorem dip_q {a : ActR} {n d : Int} (h : dipErr a n d = 0) : frErr n d = 0 ∧ (toQ (n, d)).num = n ∧ ((toQ (n, d)).den : Int) = d ∧ sm (toQ (n, d)) ∧ 0 ≤ n ∧ n ≤ a.dip * d := by
  unfold dipErr at h
  split at h
  · contradiction
  · rename_i h0
    have h0 : frErr n d = 0 := by omega
    obtain ⟨h1, h2⟩ := frErr_q h0
    unfold rawQ at h1
    injection h1 with h3 h4
    split at h
    · simp at h
    · exact ⟨h0, h3, h4, h2, by omega, by omega⟩
def posV (a : ActR) (s : List UInt8) (n d : Int) : V :=
  if psE a s n d ≠ 0 then .tup [frO none, .int .i64 (psE a s n d)] else match cvP a (prI a s).toNat with
  | none => .tup [frO none, .int .i64 8]
  | some c => if valOk c (toQ (n, d)) then .tup [.agg [.int .i64 (Rat.num (valE c (toQ (n, d)))), .int .i64 ((Rat.den (valE c (toQ (n, d))) : Nat) : Int)], .int .i64 0] else .tup [frO none, .int .i64 8]
def ratV (a : ActR) (s : List UInt8) (n d : Int) : V :=
  if psE a s n d ≠ 0 then .tup [frO none, .int .i64 (psE a s n d)] else match cvP a (prI a s).toNat with
  | none => .tup [frO none, .int .i64 8]
  | some c => .tup [.agg [.int .i64 (Rat.num (slopeE c (toQ (n, d)))), .int .i64 ((Rat.den (slopeE c (toQ (n, d))) : Nat) : Int)], .int .i64 0]
theorem psE_ok {a : ActR} {s : List UInt8} {n d : Int} (h : psE a s n d = 0) : ptE a s = 0 ∧ dipErr a n d = 0 := by
  unfold psE at h
  split at h
  · contradiction
  · exact ⟨by omega, h⟩

theorem aposition_c (a : ActR) (ha : Lt a) (s : List UInt8) (n d : Int) (b1 : B64 n) (b2 : B64 d) (m : Mem) : Gives Tryz.prog 47 [.agg (actV a), .str s, .agg [.int .i64 n, .int .i64 d]] m (posV a s n d) := by
  have hcu := fun m => acurveat_c a ha s n d b1 b2 m
  unfold posV
  by_cases h0 : psE a s n d = 0
  · obtain ⟨h1, h2⟩ := psE_ok h0
    obtain ⟨h3, h4, h5⟩ := prI_ok h1
    obtain ⟨g1, g2, g3, g4, _⟩ := dip_q h2
    have hx := h0
    rw [if_neg (by omega)] at hcu ⊢
    cases hc : cvP a (prI a s).toNat with
    | none =>
      rw [hc] at hcu
      have hval := hcu
      have htd := hcu
      simp only [crv, frO] at hcu ⊢
      unfold actV at hcu ⊢
      refine Gives_in Tryz.func47 rfl Tryz.ntmps47 Tryz.results47 (by kernel_rfl) (by simp) rfl fun Q hQ => ?_
      (have FX := hx; repeat' (first | (refine sx ?_ ?_ <;> intro h <;> first | (exfalso; omega) | skip) | (refine g_op ?_; refine g_call ?_; refine g_args ?_; (first | refine s_fn (hcu _) ?_) <;> try first | omega | assumption) | refine ny ?_ | refine WA_block ?_))
      all_goals (try (exfalso; omega))
      all_goals ((refine r_es hQ ?_; try with_reducible rfl))
    | some c =>
      rw [hc] at hcu
      have hv := cvP_valid (acErr_pts h3) h5 hc
      generalize toQ (n, d) = q at *
      subst g2; subst g3
      have hval := fun k => value_w k c q false hv g4
      by_cases ho : valOk c q
      · obtain ⟨e1, e2⟩ := vP_ok hv ho false
        rw [e1, e2] at hval
        have htd := fun m => atold_c (valE c q) false m
        rw [if_neg (by decide)] at htd
        simp only [crv] at hcu
        dsimp only
        rw [if_pos ho]
        unfold actV at hcu ⊢
        refine Gives_in Tryz.func47 rfl Tryz.ntmps47 Tryz.results47 (by kernel_rfl) (by simp) rfl fun Q hQ => ?_
        (have FX := hx; repeat' (first | (refine sx ?_ ?_ <;> intro h <;> first | (exfalso; omega) | skip) | (refine g_op ?_; refine g_call ?_; refine g_args ?_; (first | refine s_fn (hcu _) ?_ | refine s_fn (htd _) ?_ | refine s_fnW (hval _) ?_) <;> try first | omega | assumption) | refine ny ?_ | refine WA_block ?_))
        all_goals (try (exfalso; omega))
        all_goals ((refine r_es hQ ?_; try with_reducible rfl))
      · have e2 := vG_bad hv ho false
        rw [e2] at hval
        have htd := fun m => atold_c (vP c q) true m
        rw [if_pos rfl] at htd
        simp only [crv] at hcu
        dsimp only
        rw [if_neg ho]
        simp only [frO]
        unfold actV at hcu ⊢
        refine Gives_in Tryz.func47 rfl Tryz.ntmps47 Tryz.results47 (by kernel_rfl) (by simp) rfl fun Q hQ => ?_
        (have FX := hx; repeat' (first | (refine sx ?_ ?_ <;> intro h <;> first | (exfalso; omega) | skip) | (refine g_op ?_; refine g_call ?_; refine g_args ?_; (first | refine s_fn (hcu _) ?_ | refine s_fn (htd _) ?_ | refine s_fnW (hval _) ?_) <;> try first | omega | assumption) | refine ny ?_ | refine WA_block ?_))
        all_goals (try (exfalso; omega))
        all_goals ((refine r_es hQ ?_; try with_reducible rfl))
  · rw [if_pos h0] at hcu ⊢
    have hx := h0
    simp only [frO]
    unfold actV at hcu ⊢
    refine Gives_in Tryz.func47 rfl Tryz.ntmps47 Tryz.results47 (by kernel_rfl) (by simp) rfl fun Q hQ => ?_
    (have FX := hx; repeat' (first | (refine sx ?_ ?_ <;> intro h <;> first | (exfalso; omega) | skip) | (refine g_op ?_; refine g_call ?_; refine g_args ?_; (first | refine s_fn (hcu _) ?_) <;> try first | omega | assumption) | refine ny ?_ | refine WA_block ?_))
    all_goals (try (exfalso; omega))
    all_goals ((refine r_es hQ ?_; try with_reducible rfl))

theorem aratio_c (a : ActR) (ha : Lt a) (s : List UInt8) (n d : Int) (b1 : B64 n) (b2 : B64 d) (m : Mem) : Gives Tryz.prog 48 [.agg (actV a), .str s, .agg [.int .i64 n, .int .i64 d]] m (ratV a s n d) := by
  have hcu := fun m => acurveat_c a ha s n d b1 b2 m
  unfold ratV
  by_cases h0 : psE a s n d = 0
  · obtain ⟨h1, h2⟩ := psE_ok h0
    obtain ⟨h3, h4, h5⟩ := prI_ok h1
    obtain ⟨g1, g2, g3, g4, _⟩ := dip_q h2
    have hx := h0
    rw [if_neg (by omega)] at hcu ⊢
    cases hc : cvP a (prI a s).toNat with
    | none =>
      rw [hc] at hcu
      simp only [crv, frO] at hcu ⊢
      unfold actV at hcu ⊢
      refine Gives_in Tryz.func48 rfl Tryz.ntmps48 Tryz.results48 (by kernel_rfl) (by simp) rfl fun Q hQ => ?_
      (have FX := hx; repeat' (first | (refine sx ?_ ?_ <;> intro h <;> first | (exfalso; omega) | skip) | (refine g_op ?_; refine g_call ?_; refine g_args ?_; (first | refine s_fn (hcu _) ?_) <;> try first | omega | assumption) | refine ny ?_ | refine WA_block ?_))
      all_goals (try (exfalso; omega))
      all_goals ((refine r_es hQ ?_; try with_reducible rfl))
    | some c =>
      rw [hc] at hcu
      have hv := cvP_valid (acErr_pts h3) h5 hc
      generalize toQ (n, d) = q at *
      subst g2; subst g3
      have hval := fun m => aslopeat_c c q hv g4 m
      simp only [crv] at hcu
      dsimp only
      unfold actV at hcu ⊢
      refine Gives_in Tryz.func48 rfl Tryz.ntmps48 Tryz.results48 (by kernel_rfl) (by simp) rfl fun Q hQ => ?_
      (have FX := hx; repeat' (first | (refine sx ?_ ?_ <;> intro h <;> first | (exfalso; omega) | skip) | (refine g_op ?_; refine g_call ?_; refine g_args ?_; (first | refine s_fn (hcu _) ?_ | refine s_fn (hval _) ?_) <;> try first | omega | assumption) | refine ny ?_ | refine WA_block ?_))
      all_goals (try (exfalso; omega))
      all_goals ((refine r_es hQ ?_; try with_reducible rfl))
  · rw [if_pos h0] at hcu ⊢
    have hx := h0
    simp only [frO]
    unfold actV at hcu ⊢
    refine Gives_in Tryz.func48 rfl Tryz.ntmps48 Tryz.results48 (by kernel_rfl) (by simp) rfl fun Q hQ => ?_
    (have FX := hx; repeat' (first | (refine sx ?_ ?_ <;> intro h <;> first | (exfalso; omega) | skip) | (refine g_op ?_; refine g_call ?_; refine g_args ?_; (first | refine s_fn (hcu _) ?_) <;> try first | omega | assumption) | refine ny ?_ | refine WA_block ?_))
    all_goals (try (exfalso; omega))
    all_goals ((refine r_es hQ ?_; try with_reducible rfl))
end Go.Proofs.YtmigenmibohnkaaGreat
