/- contracts: a curve of a curve, from above -/
import Derived.Test.YtmigenmibohnkaaGreatC21
import Derived.Test.YtmigenmibohnkaaGreatC36
set_option linter.unusedSimpArgs false
set_option linter.unusedVariables false
namespace Go.Proofs.YtmigenmibohnkaaGreat
open Go.RowKit
attribute [local irreducible] WA WOs WDs WAn qThen qBlock tput
set_option maxHeartbeats 1000000
set_option maxRecDepth 20000
set_option linter.unusedSimpArgs false
set_option linter.unusedVariables false
attribute [local irreducible] smB cut sm quoQ quoB slP slG vP vG compP
def cpV (o i : List Rk) : V := if cuErr o ≠ 0 then .tup [.agg [.nilsl], .int .i64 (cuErr o)] else if cuErr i ≠ 0 then .tup [.agg [.nilsl], .int .i64 (cuErr i)] else crv (compP (o.map toP) (i.map toP))

theorem acomposex_c (o i : List Rk) (hBo : RkB o) (hBi : RkB i) (m : Mem) : Gives Tryz.prog 23 [.agg [.lst (rksV o)], .agg [.lst (rksV i)]] m (cpV o i) := by
  have hco := fun m => acheckcurve_c o hBo m
  have hci := fun m => acheckcurve_c i hBi m
  have hcc := hco
  unfold cpV
  by_cases h1 : cuErr o = 0
  · rw [if_neg (by omega)]
    by_cases h2 : cuErr i = 0
    · rw [if_neg (by omega)]
      have hx := And.intro h1 h2
      rw [h1] at hco
      rw [h2] at hci
      obtain ⟨v1, e1⟩ := cuErr_ok h1
      obtain ⟨v2, e2⟩ := cuErr_ok h2
      have k1 : rksV o = ptsV (o.map toP) := by rw [ptsV_raw, e1]
      have k2 : rksV i = ptsV (i.map toP) := by rw [ptsV_raw, e2]
      rw [k1] at hco ⊢
      rw [k2] at hci ⊢
      have hcc := fun m => acompose_v (o.map toP) (i.map toP) v1 v2 m
      generalize o.map toP = c1 at *
      generalize i.map toP = c2 at *
      generalize compP c1 c2 = r at *
      cases r with
      | none =>
        simp only [crv] at hcc ⊢
        refine Gives_in Tryz.func23 rfl Tryz.ntmps23 Tryz.results23 (by kernel_rfl) (by simp) rfl fun Q hQ => ?_
        (have FX := hx; repeat' (first | (refine sx ?_ ?_ <;> intro h <;> first | (exfalso; omega) | skip) | (refine g_op ?_; refine g_call ?_; refine g_args ?_; (first | refine s_fn (hco _) ?_ | refine s_fn (hci _) ?_ | refine s_fn (hcc _) ?_) <;> try first | omega | assumption) | refine ny ?_ | refine WA_block ?_))
        refine WA_rounds 3 ?_
        (have FX := hx; repeat' (first | (refine sx ?_ ?_ <;> intro h <;> first | (exfalso; omega) | skip) | (refine g_op ?_; refine g_call ?_; refine g_args ?_; (first | refine s_fn (hco _) ?_ | refine s_fn (hci _) ?_ | refine s_fn (hcc _) ?_) <;> try first | omega | assumption) | refine ny ?_ | refine WA_block ?_))
        all_goals (try (exfalso; omega))
        all_goals (refine r_es hQ ?_; try with_reducible rfl)
      | some l =>
        simp only [crv] at hcc ⊢
        refine CallA_in Tryz.func23 rfl Tryz.ntmps23 Tryz.results23 (by kernel_rfl) (by simp) fun Q hQ => ?_
        (have FX := hx; repeat' (first | (refine sx ?_ ?_ <;> intro h <;> first | (exfalso; omega) | skip) | (refine g_op ?_; refine g_call ?_; refine g_args ?_; (first | refine s_fn (hco _) ?_ | refine s_fn (hci _) ?_ | refine s_fn (hcc _) ?_) <;> try first | omega | assumption) | refine ny ?_ | refine WA_block ?_))
        refine WA_rounds 3 ?_
        (have FX := hx; repeat' (first | (refine sx ?_ ?_ <;> intro h <;> first | (exfalso; omega) | skip) | (refine g_op ?_; refine g_call ?_; refine g_args ?_; (first | refine s_fn (hco _) ?_ | refine s_fn (hci _) ?_ | refine s_fn (hcc _) ?_) <;> try first | omega | assumption) | refine ny ?_ | refine WA_block ?_))
        all_goals (try (exfalso; omega))
        all_goals (refine r_esA hQ (fin_lst (ptsV_plain l) ⟨rfl, rfl⟩))
    · rw [if_pos h2]
      have hx := h1
      refine Gives_in Tryz.func23 rfl Tryz.ntmps23 Tryz.results23 (by kernel_rfl) (by simp) rfl fun Q hQ => ?_
      (have FX := hx; repeat' (first | (refine sx ?_ ?_ <;> intro h <;> first | (exfalso; omega) | skip) | (refine g_op ?_; refine g_call ?_; refine g_args ?_; (first | refine s_fn (hco _) ?_ | refine s_fn (hci _) ?_ | refine s_fn (hcc _) ?_) <;> try first | omega | assumption) | refine ny ?_ | refine WA_block ?_))
      refine WA_rounds 3 ?_
      (have FX := hx; repeat' (first | (refine sx ?_ ?_ <;> intro h <;> first | (exfalso; omega) | skip) | (refine g_op ?_; refine g_call ?_; refine g_args ?_; (first | refine s_fn (hco _) ?_ | refine s_fn (hci _) ?_ | refine s_fn (hcc _) ?_) <;> try first | omega | assumption) | refine ny ?_ | refine WA_block ?_))
      all_goals (try (exfalso; omega))
      all_goals (refine r_es hQ ?_; try with_reducible rfl)
  · rw [if_pos h1]
    have hx := h1
    refine Gives_in Tryz.func23 rfl Tryz.ntmps23 Tryz.results23 (by kernel_rfl) (by simp) rfl fun Q hQ => ?_
    (have FX := hx; repeat' (first | (refine sx ?_ ?_ <;> intro h <;> first | (exfalso; omega) | skip) | (refine g_op ?_; refine g_call ?_; refine g_args ?_; (first | refine s_fn (hco _) ?_ | refine s_fn (hci _) ?_ | refine s_fn (hcc _) ?_) <;> try first | omega | assumption) | refine ny ?_ | refine WA_block ?_))
    refine WA_rounds 3 ?_
    (have FX := hx; repeat' (first | (refine sx ?_ ?_ <;> intro h <;> first | (exfalso; omega) | skip) | (refine g_op ?_; refine g_call ?_; refine g_args ?_; (first | refine s_fn (hco _) ?_ | refine s_fn (hci _) ?_ | refine s_fn (hcc _) ?_) <;> try first | omega | assumption) | refine ny ?_ | refine WA_block ?_))
    all_goals (try (exfalso; omega))
    all_goals (refine r_es hQ ?_; try with_reducible rfl)
theorem sm_b64 {q : Rat} (h : sm q) : B64 q.num ∧ B64 (q.den : Int) := ⟨B64_num h, B64_den h⟩
theorem valid_b {c : List Pt} (h : Valid c) : RkB (c.map raw) := by
  intro i hi
  rw [List.length_map] at hi
  rw [raw_getD hi]
  obtain ⟨h1, h2⟩ := h.sm i hi
  exact ⟨sm_b64 h1, sm_b64 h2⟩
theorem valR_pts {c : List Pt} (h : Valid c) {n d : Int} (hf : frErr n d = 0) : valR (c.map raw) n d = if valOk c (toQ (n, d)) then (some (valE c (toQ (n, d))), 0) else (none, 8) := by
  have h0 : atE (c.map raw) n d = 0 := by unfold atE; rw [cuErr_valid h, if_neg (by decide), hf]
  unfold valR
  rw [if_neg (by omega), map_toP_raw]
theorem valR_cases (l : List Rk) (n d : Int) : (∃ y, valR l n d = (some y, 0) ∧ sm y ∧ atE l n d = 0 ∧ y = valE (l.map toP) (toQ (n, d))) ∨ ∃ e, e ≠ 0 ∧ valR l n d = (none, e) := by
  unfold valR
  by_cases h : atE l n d = 0
  · rw [if_neg (by omega)]
    obtain ⟨hv, _⟩ := atE_ok h
    by_cases ho : valOk (l.map toP) (toQ (n, d))
    · rw [if_pos ho]; exact .inl ⟨_, rfl, sm_valE hv ho, h, rfl⟩
    · rw [if_neg ho]; exact .inr ⟨8, by decide, rfl⟩
  · rw [if_pos h]; exact .inr ⟨_, h, rfl⟩
end Go.Proofs.YtmigenmibohnkaaGreat
