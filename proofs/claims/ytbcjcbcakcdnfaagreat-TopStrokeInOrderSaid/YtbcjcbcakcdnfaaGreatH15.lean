/- the law TopStrokeInOrder, over contracts -/
import Derived.Test.YtbcjcbcakcdnfaaGreatH14
import Derived.Test.YtbcjcbcakcdnfaaGreatC46
set_option linter.unusedSimpArgs false
set_option linter.unusedVariables false
namespace Go.Proofs.YtbcjcbcakcdnfaaGreat
open Go.RowKit
attribute [local irreducible] WA WOs WDs WAn qThen qBlock tput
set_option maxHeartbeats 1000000
set_option maxRecDepth 20000
set_option linter.unusedSimpArgs false
set_option linter.unusedVariables false
set_option maxHeartbeats 4000000
attribute [local irreducible] smB cut sm
theorem frErr_smz {q : Rat} (h : sm q) : frErr q.num (q.den : Int) = 0 := by rw [frErr_raw, if_pos h]

theorem tsound_c (q : Rat) (hs : sm q) (m : Mem) : Gives Tryz.prog 34 [.agg [.int .i64 (Rat.num (q)), .int .i64 ((Rat.den (q) : Nat) : Int)]] m (.bool true) := by
  have hcf := fun m => rcheckfrac_c q.num q.den (B64_num hs) (B64_den hs) m
  rw [frErr_smz hs] at hcf
  refine Gives_in Tryz.func34 rfl Tryz.ntmps34 Tryz.results34 (by kernel_rfl) (by simp) rfl fun Q hQ => ?_
  (repeat' (first | (refine sx ?_ ?_ <;> intro h <;> first | (exfalso; omega) | skip) | (refine g_op ?_; refine g_call ?_; refine g_args ?_; (first | refine s_fn (hcf _) ?_) <;> try first | omega | assumption) | refine ny ?_ | refine WA_block ?_))
  all_goals (refine r_es hQ ?_; try with_reducible rfl)
def stkP (a : ActR) (o : Nms) (n d : Int) : Prop := light a ∧ ¬ 8 < (o.length : Int) ∧ acErr a = 0 ∧ (-1000000000 ≤ n ∧ n ≤ 1000000000) ∧ (1 ≤ d ∧ d ≤ 1000000000)
theorem uH15_5_5 {N : Nat} {l : List Oper} {t : List (Nat × V)} {m : Mem} {Q : Exit → List (Nat × V) → Mem → Prop} (h : RgN Tryz.prog N l t m Q (fun i => if i == 1 || i == 3 || i == 6 then .a else if i == 0 || i == 5 then .q else .p) [.one 0, .one 2, .one 4, .one 5, .one 1, .one 3, .one 6, .one 7, .one 8, .one 9, .one 10, .one 11]) : WA Tryz.prog N (.region 5 l.toArray true) t m Q := d_rgN h
theorem uH15_5_8 {N : Nat} {l : List Oper} {t : List (Nat × V)} {m : Mem} {Q : Exit → List (Nat × V) → Mem → Prop} (h : RgN Tryz.prog N l t m Q (fun i => if i == 1 || i == 4 then .a else if i == 0 || i == 3 then .q else .p) [.one 0, .one 2, .one 3, .one 1, .one 4, .one 5, .one 6, .one 7, .one 8, .one 9]) : WA Tryz.prog N (.region 8 l.toArray true) t m Q := d_rgN h
theorem uH15_5_22 {N : Nat} {l : List Oper} {t : List (Nat × V)} {m : Mem} {Q : Exit → List (Nat × V) → Mem → Prop} (h : RgN Tryz.prog N l t m Q (fun i => if i == 12 then .f else if i == 1 || i == 7 || i == 11 then .a else if i == 0 || i == 6 then .q else .p) [.one 0, .one 2, .one 3, .one 4, .one 5, .one 6, .grp true [1, 7] [11], .one 8, .one 9, .one 10, .one 12, .one 13]) : WA Tryz.prog N (.region 22 l.toArray true) t m Q := d_rgN h
theorem uH15_5_23 {N : Nat} {l : List Oper} {t : List (Nat × V)} {m : Mem} {Q : Exit → List (Nat × V) → Mem → Prop} (h : RgN Tryz.prog N l t m Q (fun i => if i == 11 then .f else if i == 1 || i == 6 || i == 10 then .a else if i == 0 || i == 5 then .q else .p) [.one 0, .one 2, .one 3, .one 4, .one 5, .grp true [1, 6] [10], .one 7, .one 8, .one 9, .one 11, .one 12]) : WA Tryz.prog N (.region 23 l.toArray true) t m Q := d_rgN h
theorem uH15_5_27 {N : Nat} {l : List Oper} {t : List (Nat × V)} {m : Mem} {Q : Exit → List (Nat × V) → Mem → Prop} (h : RgN Tryz.prog N l t m Q (fun i => if i == 2 || i == 4 || i == 5 || i == 6 then .q else .p) [.one 0, .one 1, .one 2, .one 3, .one 4, .one 5, .one 6, .one 7, .one 8]) : WA Tryz.prog N (.region 27 l.toArray true) t m Q := d_rgN h
theorem stroke_out (a : ActR) (o : Nms) (n d g : Int) (hout : ¬ stkP a o n d) (m : Mem) : Gives Tryz.prog 5 [.agg (actV a), .lst (txV o), .agg [.int .i64 n, .int .i64 d, .int .i64 g]] m (.bool true) := by
  have hlo := txV_length (o := o)
  have hlg := fun m => llight_c a m
  have hac := fun (h : light a) m => rcheckaction_c a (light_lt h) m
  unfold stkP at hout
  unfold actV at hlg hac ⊢
  refine Gives_in Tryz.func5 rfl Tryz.ntmps5 Tryz.results5 (by kernel_rfl) (by simp) rfl fun Q hQ => ?_
  (have FX := hlo; repeat' (first | (refine sx ?_ ?_ <;> intro h <;> first | (exfalso; omega) | skip) | (refine g_op ?_; refine g_call ?_; refine g_args ?_; (first | refine s_fn (tstruck_c _) ?_ | refine s_fn (hlg _) ?_ | refine s_fn (hac (by assumption) _) ?_ | refine s_fn (bwithin_c _ _ _ _) ?_) <;> try first | omega | assumption) | refine ny ?_ | refine WA_block ?_ | (refine uH15_5_5 ?_; refine ⟨by kernel_rfl, ?_⟩) | (refine uH15_5_8 ?_; refine ⟨by kernel_rfl, ?_⟩) | (refine uH15_5_22 ?_; refine ⟨by kernel_rfl, ?_⟩) | (refine uH15_5_23 ?_; refine ⟨by kernel_rfl, ?_⟩) | (refine uH15_5_27 ?_; refine ⟨by kernel_rfl, ?_⟩) | ((first | refine grp_cons (fun _ => tstruck_c _) ?_ | refine grp_cons (fun _ => hlg _) ?_ | refine grp_cons (fun _ => hac (by assumption) _) ?_ | refine grp_cons (fun _ => bwithin_c _ _ _ _) ?_) <;> try first | omega | assumption) | (refine g_d ?_; refine d_args ?_; (first | refine d_fn (tstruck_c _) ?_ | refine d_fn (hlg _) ?_ | refine d_fn (hac (by assumption) _) ?_ | refine d_fn (bwithin_c _ _ _ _) ?_ | refine d_fnQ (fun _ => tstruck_c _) ?_ | refine d_fnQ (fun _ => hlg _) ?_ | refine d_fnQ (fun _ => hac (by assumption) _) ?_ | refine d_fnQ (fun _ => bwithin_c _ _ _ _) ?_) <;> try first | omega | assumption) | (refine g_d ?_; (first | refine d_fnY (tstruck_c _) ?_ | refine d_fnY (hlg _) ?_ | refine d_fnY (hac (by assumption) _) ?_ | refine d_fnY (bwithin_c _ _ _ _) ?_) <;> try first | omega | assumption)))
  all_goals (try (exfalso; first | exact hout ⟨by assumption, by assumption, by assumption, by assumption, by assumption⟩ | omega))
  all_goals (refine r_es hQ ?_; try with_reducible rfl)
theorem stroke_in (a : ActR) (o : Nms) (n d g : Int) (hP : stkP a o n d) (m : Mem) : Gives Tryz.prog 5 [.agg (actV a), .lst (txV o), .agg [.int .i64 n, .int .i64 d, .int .i64 g]] m (.bool true) := by
  obtain ⟨hL, ho, hac0, hn, hd⟩ := hP
  have hlo := txV_length (o := o)
  have hlt := light_lt hL
  have hev := fun h => Nat.le_trans (light_few hL h).1 (by decide : 6 ≤ 12)
  have b1 : B64 n := by constructor <;> omega
  have b2 : B64 d := by constructor <;> omega
  have hlg := fun m => llight_c a m
  rw [decide_eq_true hL] at hlg
  have hcp := fun m => lcopied_l a hL m
  have hct := fun m => bcopytexts_c o (by omega) m
  have hco := fun m => acheckorder_c a hlt o g (by omega) m
  rw [if_neg (by omega)] at hco
  have hac := fun m => rcheckaction_c a hlt m
  rw [hac0] at hac
  have hhp := fun m => ahappened_c a hlt hev n d b1 b2 m
  have hea := fun s m => aeventat_c a hlt s m
  unfold odV at hco
  by_cases hc0 : (odErr a o g).2 = 0
  · obtain ⟨g1, g2, g3⟩ := odErr_ok hc0
    have hob := fun l (hl : hapS a = some l) i j hij hj x hm => od_begin hac0 hc0 hl (i := i) (j := j) hij hj x hm
    have heo : ∀ i, i < o.length → ∀ m, Gives Tryz.prog 17 [.agg (actV a), .str (nmAt o i)] m (.tup [.agg [.int .i64 (Rat.num ((odDip a o i))), .int .i64 ((Rat.den ((odDip a o i)) : Nat) : Int)], .int .i64 0]) := fun i hi m => by
      obtain ⟨q1, q2, _⟩ := g3 i hi
      have h := hea (nmAt o i) m
      unfold eatV at h
      rw [if_neg (by omega), if_neg q1, q2] at h
      exact h
    have hsd : ∀ i, i < o.length → sm (odDip a o i) := fun i hi => by
      obtain ⟨q1, q2, _⟩ := g3 i hi
      exact (evtP_sm hac0 (enI_ok q1).2.1 q2).1
    have hgs : sm (g : Rat) := sm_int (by omega)
    have hgp := fun i hi h0 => (g3 i hi).2.2 h0
    rw [hc0] at hco
    generalize (odErr a o g).1 = n0 at *
    unfold hdV at hhp
    by_cases hck : chkDip a n d = 0
    · rw [if_neg (by omega)] at hhp
      cases hS : hapS a with
      | none =>
        rw [hS] at hhp
        dsimp only at hhp
        have hx0 := hac0
        unfold actV at hlg hcp hco hac hhp ⊢
        refine Gives_in Tryz.func5 rfl Tryz.ntmps5 Tryz.results5 (by kernel_rfl) (by simp) rfl fun Q hQ => ?_
        (have FX := And.intro hlo hx0; repeat' (first | (refine sx ?_ ?_ <;> intro h <;> first | (exfalso; omega) | skip) | (refine g_op ?_; refine g_call ?_; refine g_args ?_; (first | refine s_fn (tstruck_c _) ?_ | refine s_fn (hlg _) ?_ | refine s_fn (hac _) ?_ | refine s_fn (bwithin_c _ _ _ _) ?_ | refine s_fn (hcp _) ?_ | refine s_fn (hct _) ?_ | refine s_fn (hco _) ?_ | refine s_fn (hhp _) ?_) <;> try first | omega | assumption) | refine ny ?_ | refine WA_block ?_ | (refine uH15_5_5 ?_; refine ⟨by kernel_rfl, ?_⟩) | (refine uH15_5_8 ?_; refine ⟨by kernel_rfl, ?_⟩) | (refine uH15_5_22 ?_; refine ⟨by kernel_rfl, ?_⟩) | (refine uH15_5_23 ?_; refine ⟨by kernel_rfl, ?_⟩) | (refine uH15_5_27 ?_; refine ⟨by kernel_rfl, ?_⟩) | ((first | refine grp_cons (fun _ => tstruck_c _) ?_ | refine grp_cons (fun _ => hlg _) ?_ | refine grp_cons (fun _ => hac _) ?_ | refine grp_cons (fun _ => bwithin_c _ _ _ _) ?_ | refine grp_cons (fun _ => hcp _) ?_ | refine grp_cons (fun _ => hct _) ?_ | refine grp_cons (fun _ => hco _) ?_ | refine grp_cons (fun _ => hhp _) ?_) <;> try first | omega | assumption) | (refine g_d ?_; refine d_args ?_; (first | refine d_fn (tstruck_c _) ?_ | refine d_fn (hlg _) ?_ | refine d_fn (hac _) ?_ | refine d_fn (bwithin_c _ _ _ _) ?_ | refine d_fn (hcp _) ?_ | refine d_fn (hct _) ?_ | refine d_fn (hco _) ?_ | refine d_fn (hhp _) ?_ | refine d_fnQ (fun _ => tstruck_c _) ?_ | refine d_fnQ (fun _ => hlg _) ?_ | refine d_fnQ (fun _ => hac _) ?_ | refine d_fnQ (fun _ => bwithin_c _ _ _ _) ?_ | refine d_fnQ (fun _ => hcp _) ?_ | refine d_fnQ (fun _ => hct _) ?_ | refine d_fnQ (fun _ => hco _) ?_ | refine d_fnQ (fun _ => hhp _) ?_) <;> try first | omega | assumption) | (refine g_d ?_; (first | refine d_fnY (tstruck_c _) ?_ | refine d_fnY (hlg _) ?_ | refine d_fnY (hac _) ?_ | refine d_fnY (bwithin_c _ _ _ _) ?_ | refine d_fnY (hcp _) ?_ | refine d_fnY (hct _) ?_ | refine d_fnY (hco _) ?_ | refine d_fnY (hhp _) ?_) <;> try first | omega | assumption)))
        all_goals (try (exfalso; omega))
        all_goals (refine r_es hQ ?_; try with_reducible rfl)
      | some l =>
        rw [hS] at hhp
        dsimp only at hhp
        have hob := fun i j hij hj hm => hob l hS i j hij hj (toQ (n, d)) hm
        have hHl : (hapN a (hapD l (toQ (n, d)))).length ≤ 1000000 := by
          have h1 := (hapS_srt hS).2
          have h2 := hapN_len a (hapD l (toQ (n, d)))
          have h3 := List.length_filter_le (fun p : Hp => decide (p.2 ≤ toQ (n, d))) l
          have h4 := hlt.ne
          unfold hapD at h2 ⊢
          omega
        have hht := fun s m => bhastext_c (hapN a (hapD l (toQ (n, d)))) s hHl m
        generalize hapN a (hapD l (toQ (n, d))) = H at *
        have hx0 := hac0
        unfold actV at hlg hcp hco hac hhp heo ⊢
        refine Gives_in Tryz.func5 rfl Tryz.ntmps5 Tryz.results5 (by kernel_rfl) (by simp) rfl fun Q hQ => ?_
        (have FX := And.intro hlo hx0; repeat' (first | (refine sx ?_ ?_ <;> intro h <;> first | (exfalso; omega) | skip) | (refine g_op ?_; refine g_call ?_; refine g_args ?_; (first | refine s_fn (tstruck_c _) ?_ | refine s_fn (hlg _) ?_ | refine s_fn (hac _) ?_ | refine s_fn (bwithin_c _ _ _ _) ?_ | refine s_fn (hcp _) ?_ | refine s_fn (hct _) ?_ | refine s_fn (hco _) ?_ | refine s_fn (hhp _) ?_) <;> try first | omega | assumption) | refine ny ?_ | refine WA_block ?_ | (refine uH15_5_5 ?_; refine ⟨by kernel_rfl, ?_⟩) | (refine uH15_5_8 ?_; refine ⟨by kernel_rfl, ?_⟩) | (refine uH15_5_22 ?_; refine ⟨by kernel_rfl, ?_⟩) | (refine uH15_5_23 ?_; refine ⟨by kernel_rfl, ?_⟩) | (refine uH15_5_27 ?_; refine ⟨by kernel_rfl, ?_⟩) | ((first | refine grp_cons (fun _ => tstruck_c _) ?_ | refine grp_cons (fun _ => hlg _) ?_ | refine grp_cons (fun _ => hac _) ?_ | refine grp_cons (fun _ => bwithin_c _ _ _ _) ?_ | refine grp_cons (fun _ => hcp _) ?_ | refine grp_cons (fun _ => hct _) ?_ | refine grp_cons (fun _ => hco _) ?_ | refine grp_cons (fun _ => hhp _) ?_) <;> try first | omega | assumption) | (refine g_d ?_; refine d_args ?_; (first | refine d_fn (tstruck_c _) ?_ | refine d_fn (hlg _) ?_ | refine d_fn (hac _) ?_ | refine d_fn (bwithin_c _ _ _ _) ?_ | refine d_fn (hcp _) ?_ | refine d_fn (hct _) ?_ | refine d_fn (hco _) ?_ | refine d_fn (hhp _) ?_ | refine d_fnQ (fun _ => tstruck_c _) ?_ | refine d_fnQ (fun _ => hlg _) ?_ | refine d_fnQ (fun _ => hac _) ?_ | refine d_fnQ (fun _ => bwithin_c _ _ _ _) ?_ | refine d_fnQ (fun _ => hcp _) ?_ | refine d_fnQ (fun _ => hct _) ?_ | refine d_fnQ (fun _ => hco _) ?_ | refine d_fnQ (fun _ => hhp _) ?_) <;> try first | omega | assumption) | (refine g_d ?_; (first | refine d_fnY (tstruck_c _) ?_ | refine d_fnY (hlg _) ?_ | refine d_fnY (hac _) ?_ | refine d_fnY (bwithin_c _ _ _ _) ?_ | refine d_fnY (hcp _) ?_ | refine d_fnY (hct _) ?_ | refine d_fnY (hco _) ?_ | refine d_fnY (hhp _) ?_) <;> try first | omega | assumption)))
        all_goals (try (exfalso; omega))
        refine WA_whileK (σ := Nat × Bool) [1, 3, 5, 9, 11, 12] (fun s => [.lst (txV o), .ptr (lend m).length 0 0, .ptr ((lend m).length + 1) 0 0, .lst (txV H), .bool s.2, .int .i64 s.1]) (fun _ => [actB a, .cells .own 65 3 [[.int .i64 n, .int .i64 d, .int .i64 g]]]) 2 (fun s => s.1 ≤ o.length ∧ (s.2 = true → ∃ j, j < s.1 ∧ nmAt o j ∉ H)) (fun s => o.length - s.1) (0, false) ⟨Nat.zero_le _, fun h => by cases h⟩ tv_ rfl (fun _ => rfl) (by intro s s' _ _; simp [conB, conS, V.keeps, V.plain, Blk.flat, flatL, plainL, V.flat]) (by intro s s' _ _; simp [conB, conS, V.keeps, V.plain, Blk.flat, flatL, plainL, V.flat]) ?_
        rintro ⟨i, ov⟩ ⟨hi1, hi2⟩ K hK
        dsimp only at hi1 hi2
        simp only [zipT]
        clear FX
        rcases Nat.lt_or_ge i o.length with hi | hi
        · have hx0 := txV_get hi
          have hht := fun m => hht (nmAt o i) m
          by_cases hm : nmAt o i ∈ H
          · rw [decide_eq_true hm] at hht
            have hov : ov = false := by
              cases ov with
              | false => rfl
              | true =>
                obtain ⟨j, hj1, hj2⟩ := hi2 rfl
                exact absurd (hob j i (by omega) hi hm) hj2
            subst hov
            (have FX := And.intro hlo hx0; repeat' (first | (refine sx ?_ ?_ <;> intro h <;> first | (exfalso; omega) | skip) | (refine g_op ?_; refine g_call ?_; refine g_args ?_; (first | refine s_fn (hht _) ?_) <;> try first | omega | assumption) | refine ny ?_ | refine WA_block ?_ | (refine uH15_5_5 ?_; refine ⟨by kernel_rfl, ?_⟩) | (refine uH15_5_8 ?_; refine ⟨by kernel_rfl, ?_⟩) | (refine uH15_5_22 ?_; refine ⟨by kernel_rfl, ?_⟩) | (refine uH15_5_23 ?_; refine ⟨by kernel_rfl, ?_⟩) | (refine uH15_5_27 ?_; refine ⟨by kernel_rfl, ?_⟩) | ((first | refine grp_cons (fun _ => hht _) ?_) <;> try first | omega | assumption) | (refine g_d ?_; refine d_args ?_; (first | refine d_fn (hht _) ?_ | refine d_fnQ (fun _ => hht _) ?_) <;> try first | omega | assumption) | (refine g_d ?_; (first | refine d_fnY (hht _) ?_) <;> try first | omega | assumption)))
            all_goals (try (exfalso; omega))
            all_goals (refine nextL_ hK (i + 1, false) ⟨hi, fun h => by cases h⟩ (by dsimp only; omega))
          · rw [decide_eq_false hm] at hht
            cases ov with
            | false =>
              (have FX := And.intro hlo hx0; repeat' (first | (refine sx ?_ ?_ <;> intro h <;> first | (exfalso; omega) | skip) | (refine g_op ?_; refine g_call ?_; refine g_args ?_; (first | refine s_fn (hht _) ?_) <;> try first | omega | assumption) | refine ny ?_ | refine WA_block ?_ | (refine uH15_5_5 ?_; refine ⟨by kernel_rfl, ?_⟩) | (refine uH15_5_8 ?_; refine ⟨by kernel_rfl, ?_⟩) | (refine uH15_5_22 ?_; refine ⟨by kernel_rfl, ?_⟩) | (refine uH15_5_23 ?_; refine ⟨by kernel_rfl, ?_⟩) | (refine uH15_5_27 ?_; refine ⟨by kernel_rfl, ?_⟩) | ((first | refine grp_cons (fun _ => hht _) ?_) <;> try first | omega | assumption) | (refine g_d ?_; refine d_args ?_; (first | refine d_fn (hht _) ?_ | refine d_fnQ (fun _ => hht _) ?_) <;> try first | omega | assumption) | (refine g_d ?_; (first | refine d_fnY (hht _) ?_) <;> try first | omega | assumption)))
              all_goals (try (exfalso; omega))
              all_goals (refine nextL_ hK (i + 1, true) ⟨hi, fun _ => ⟨i, by dsimp only; omega, hm⟩⟩ (by dsimp only; omega))
            | true =>
              (have FX := And.intro hlo hx0; repeat' (first | (refine sx ?_ ?_ <;> intro h <;> first | (exfalso; omega) | skip) | (refine g_op ?_; refine g_call ?_; refine g_args ?_; (first | refine s_fn (hht _) ?_) <;> try first | omega | assumption) | refine ny ?_ | refine WA_block ?_ | (refine uH15_5_5 ?_; refine ⟨by kernel_rfl, ?_⟩) | (refine uH15_5_8 ?_; refine ⟨by kernel_rfl, ?_⟩) | (refine uH15_5_22 ?_; refine ⟨by kernel_rfl, ?_⟩) | (refine uH15_5_23 ?_; refine ⟨by kernel_rfl, ?_⟩) | (refine uH15_5_27 ?_; refine ⟨by kernel_rfl, ?_⟩) | ((first | refine grp_cons (fun _ => hht _) ?_) <;> try first | omega | assumption) | (refine g_d ?_; refine d_args ?_; (first | refine d_fn (hht _) ?_ | refine d_fnQ (fun _ => hht _) ?_) <;> try first | omega | assumption) | (refine g_d ?_; (first | refine d_fnY (hht _) ?_) <;> try first | omega | assumption)))
              all_goals (try (exfalso; omega))
              all_goals (refine nextL_ hK (i + 1, true) ⟨hi, fun _ => ⟨i, by dsimp only; omega, hm⟩⟩ (by dsimp only; omega))
        · have hie : i = o.length := by omega
          subst hie
          have hx0 := hlo
          (have FX := And.intro hlo hx0; repeat' (first | (refine sx ?_ ?_ <;> intro h <;> first | (exfalso; omega) | skip) | refine ny ?_ | refine WA_block ?_ | (refine uH15_5_5 ?_; refine ⟨by kernel_rfl, ?_⟩) | (refine uH15_5_8 ?_; refine ⟨by kernel_rfl, ?_⟩) | (refine uH15_5_22 ?_; refine ⟨by kernel_rfl, ?_⟩) | (refine uH15_5_23 ?_; refine ⟨by kernel_rfl, ?_⟩) | (refine uH15_5_27 ?_; refine ⟨by kernel_rfl, ?_⟩)))
          all_goals (try (exfalso; omega))
          clear FX hK
          refine WA_whileK (σ := Nat) [1, 3, 5, 14] (fun i => [.lst (txV o), .ptr (lend m).length 0 0, .ptr ((lend m).length + 1) 0 0, .int .i64 ((i : Int) + 1)]) (fun _ => [actB a, .cells .own 65 3 [[.int .i64 n, .int .i64 d, .int .i64 g]]]) 2 (fun i => o.length = 0 ∨ i + 1 ≤ o.length) (fun i => o.length - i) 0 (by omega) ?_ rfl (fun _ => rfl) (by intro s s' _ _; simp [conB, conS, V.keeps, V.plain, Blk.flat, flatL, plainL, V.flat]) (by intro s s' _ _; simp [conB, conS, V.keeps, V.plain, Blk.flat, flatL, plainL, V.flat]) ?_
          · show _ = [_, _, _, V.int .i64 (((0 : Nat) : Int) + 1)]
            exact tv_
          rintro i hi1 K hK
          simp only [zipT]
          rcases Nat.lt_or_ge (i + 1) o.length with hi | hi
          · have e1 := txV_get (o := o) (i := i) (by omega)
            have e2 := txV_get (o := o) (i := i + 1) hi
            have hx0 := And.intro e1 (And.intro e2 (And.intro (show ((i : Int) + 1).toNat = i + 1 by omega) (show ((i : Int) + 1 - 1).toNat = i by omega)))
            have h1 := heo i (by omega)
            have h2 := heo (i + 1) hi
            have s1 := hsd i (by omega)
            have s2 := hsd (i + 1) hi
            have hgg := hgp (i + 1) hi (by omega)
            rw [Nat.add_sub_cancel] at hgg
            generalize odDip a o i = x at *
            generalize odDip a o (i + 1) = y at *
            have t1 := fun m => tsound_c x s1 m
            have t2 := fun m => tsound_c y s2 m
            have hsb := fun m => rsub_c y x s2 s1 m
            by_cases hsy : sm (y - x)
            · rw [smB_of hsy] at hsb
              have hcm : ∀ m, Gives Tryz.prog 16 [.agg [.int .i64 (Rat.num ((y - x))), .int .i64 ((Rat.den ((y - x)) : Nat) : Int)], .agg [.int .i64 g, .int .i64 1]] m (.int .i64 (cmpQ (y - x) (g : Rat))) := fun m => bcmp_c (y - x) (g : Rat) hsy hgs m
              have hc := cmpQ_lt (p := y - x) (q := (g : Rat))
              have hnl : ¬ cmpQ (y - x) (g : Rat) < 0 := fun h => by have := hc.1 h; grind
              (have FX := And.intro hlo hx0; repeat' (first | (refine sx ?_ ?_ <;> intro h <;> first | (exfalso; omega) | skip) | (refine g_op ?_; refine g_call ?_; refine g_args ?_; (first | refine s_fn (hcp _) ?_ | refine s_fn (h1 _) ?_ | refine s_fn (h2 _) ?_ | refine s_fn (t1 _) ?_ | refine s_fn (t2 _) ?_ | refine s_fn (hsb _) ?_ | refine s_fn (rwhole_c _ _) ?_ | refine s_fn (hcm _) ?_) <;> try first | omega | assumption) | refine ny ?_ | refine WA_block ?_ | (refine uH15_5_5 ?_; refine ⟨by kernel_rfl, ?_⟩) | (refine uH15_5_8 ?_; refine ⟨by kernel_rfl, ?_⟩) | (refine uH15_5_22 ?_; refine ⟨by kernel_rfl, ?_⟩) | (refine uH15_5_23 ?_; refine ⟨by kernel_rfl, ?_⟩) | (refine uH15_5_27 ?_; refine ⟨by kernel_rfl, ?_⟩) | ((first | refine grp_cons (fun _ => hcp _) ?_ | refine grp_cons (fun _ => h1 _) ?_ | refine grp_cons (fun _ => h2 _) ?_ | refine grp_cons (fun _ => t1 _) ?_ | refine grp_cons (fun _ => t2 _) ?_ | refine grp_cons (fun _ => hsb _) ?_ | refine grp_cons (fun _ => rwhole_c _ _) ?_ | refine grp_cons (fun _ => hcm _) ?_) <;> try first | omega | assumption) | (refine g_d ?_; refine d_args ?_; (first | refine d_fn (hcp _) ?_ | refine d_fn (h1 _) ?_ | refine d_fn (h2 _) ?_ | refine d_fn (t1 _) ?_ | refine d_fn (t2 _) ?_ | refine d_fn (hsb _) ?_ | refine d_fn (rwhole_c _ _) ?_ | refine d_fn (hcm _) ?_ | refine d_fnQ (fun _ => hcp _) ?_ | refine d_fnQ (fun _ => h1 _) ?_ | refine d_fnQ (fun _ => h2 _) ?_ | refine d_fnQ (fun _ => t1 _) ?_ | refine d_fnQ (fun _ => t2 _) ?_ | refine d_fnQ (fun _ => hsb _) ?_ | refine d_fnQ (fun _ => rwhole_c _ _) ?_ | refine d_fnQ (fun _ => hcm _) ?_) <;> try first | omega | assumption) | (refine g_d ?_; (first | refine d_fnY (hcp _) ?_ | refine d_fnY (h1 _) ?_ | refine d_fnY (h2 _) ?_ | refine d_fnY (t1 _) ?_ | refine d_fnY (t2 _) ?_ | refine d_fnY (hsb _) ?_ | refine d_fnY (rwhole_c _ _) ?_ | refine d_fnY (hcm _) ?_) <;> try first | omega | assumption)))
              all_goals (try (exfalso; omega))
              all_goals (refine nextL_ hK (i + 1) (.inr hi) (by omega) (ht := ?_))
              all_goals (show _ = [_, _, _, V.int .i64 (((i + 1 : Nat) : Int) + 1)]; rw [Int.natCast_add]; exact tv_)
            · rw [smB_no hsy] at hsb
              (have FX := And.intro hlo hx0; repeat' (first | (refine sx ?_ ?_ <;> intro h <;> first | (exfalso; omega) | skip) | (refine g_op ?_; refine g_call ?_; refine g_args ?_; (first | refine s_fn (hcp _) ?_ | refine s_fn (h1 _) ?_ | refine s_fn (h2 _) ?_ | refine s_fn (t1 _) ?_ | refine s_fn (t2 _) ?_ | refine s_fn (hsb _) ?_) <;> try first | omega | assumption) | refine ny ?_ | refine WA_block ?_ | (refine uH15_5_5 ?_; refine ⟨by kernel_rfl, ?_⟩) | (refine uH15_5_8 ?_; refine ⟨by kernel_rfl, ?_⟩) | (refine uH15_5_22 ?_; refine ⟨by kernel_rfl, ?_⟩) | (refine uH15_5_23 ?_; refine ⟨by kernel_rfl, ?_⟩) | (refine uH15_5_27 ?_; refine ⟨by kernel_rfl, ?_⟩) | ((first | refine grp_cons (fun _ => hcp _) ?_ | refine grp_cons (fun _ => h1 _) ?_ | refine grp_cons (fun _ => h2 _) ?_ | refine grp_cons (fun _ => t1 _) ?_ | refine grp_cons (fun _ => t2 _) ?_ | refine grp_cons (fun _ => hsb _) ?_) <;> try first | omega | assumption) | (refine g_d ?_; refine d_args ?_; (first | refine d_fn (hcp _) ?_ | refine d_fn (h1 _) ?_ | refine d_fn (h2 _) ?_ | refine d_fn (t1 _) ?_ | refine d_fn (t2 _) ?_ | refine d_fn (hsb _) ?_ | refine d_fnQ (fun _ => hcp _) ?_ | refine d_fnQ (fun _ => h1 _) ?_ | refine d_fnQ (fun _ => h2 _) ?_ | refine d_fnQ (fun _ => t1 _) ?_ | refine d_fnQ (fun _ => t2 _) ?_ | refine d_fnQ (fun _ => hsb _) ?_) <;> try first | omega | assumption) | (refine g_d ?_; (first | refine d_fnY (hcp _) ?_ | refine d_fnY (h1 _) ?_ | refine d_fnY (h2 _) ?_ | refine d_fnY (t1 _) ?_ | refine d_fnY (t2 _) ?_ | refine d_fnY (hsb _) ?_) <;> try first | omega | assumption)))
              all_goals (try (exfalso; omega))
              all_goals (refine nextL_ hK (i + 1) (.inr hi) (by omega) (ht := ?_))
              all_goals (show _ = [_, _, _, V.int .i64 (((i + 1 : Nat) : Int) + 1)]; rw [Int.natCast_add]; exact tv_)
          · have hx0 := hlo
            (have FX := And.intro hlo hx0; repeat' (first | (refine sx ?_ ?_ <;> intro h <;> first | (exfalso; omega) | skip) | refine ny ?_ | refine WA_block ?_ | (refine uH15_5_5 ?_; refine ⟨by kernel_rfl, ?_⟩) | (refine uH15_5_8 ?_; refine ⟨by kernel_rfl, ?_⟩) | (refine uH15_5_22 ?_; refine ⟨by kernel_rfl, ?_⟩) | (refine uH15_5_23 ?_; refine ⟨by kernel_rfl, ?_⟩) | (refine uH15_5_27 ?_; refine ⟨by kernel_rfl, ?_⟩)))
            all_goals (try (exfalso; omega))
            all_goals (refine r_es hQ ?_; try with_reducible rfl)
    · rw [if_pos hck] at hhp
      have hx0 := hck
      unfold actV at hlg hcp hco hac hhp ⊢
      refine Gives_in Tryz.func5 rfl Tryz.ntmps5 Tryz.results5 (by kernel_rfl) (by simp) rfl fun Q hQ => ?_
      (have FX := And.intro hlo hx0; repeat' (first | (refine sx ?_ ?_ <;> intro h <;> first | (exfalso; omega) | skip) | (refine g_op ?_; refine g_call ?_; refine g_args ?_; (first | refine s_fn (tstruck_c _) ?_ | refine s_fn (hlg _) ?_ | refine s_fn (hac _) ?_ | refine s_fn (bwithin_c _ _ _ _) ?_ | refine s_fn (hcp _) ?_ | refine s_fn (hct _) ?_ | refine s_fn (hco _) ?_ | refine s_fn (hhp _) ?_) <;> try first | omega | assumption) | refine ny ?_ | refine WA_block ?_ | (refine uH15_5_5 ?_; refine ⟨by kernel_rfl, ?_⟩) | (refine uH15_5_8 ?_; refine ⟨by kernel_rfl, ?_⟩) | (refine uH15_5_22 ?_; refine ⟨by kernel_rfl, ?_⟩) | (refine uH15_5_23 ?_; refine ⟨by kernel_rfl, ?_⟩) | (refine uH15_5_27 ?_; refine ⟨by kernel_rfl, ?_⟩) | ((first | refine grp_cons (fun _ => tstruck_c _) ?_ | refine grp_cons (fun _ => hlg _) ?_ | refine grp_cons (fun _ => hac _) ?_ | refine grp_cons (fun _ => bwithin_c _ _ _ _) ?_ | refine grp_cons (fun _ => hcp _) ?_ | refine grp_cons (fun _ => hct _) ?_ | refine grp_cons (fun _ => hco _) ?_ | refine grp_cons (fun _ => hhp _) ?_) <;> try first | omega | assumption) | (refine g_d ?_; refine d_args ?_; (first | refine d_fn (tstruck_c _) ?_ | refine d_fn (hlg _) ?_ | refine d_fn (hac _) ?_ | refine d_fn (bwithin_c _ _ _ _) ?_ | refine d_fn (hcp _) ?_ | refine d_fn (hct _) ?_ | refine d_fn (hco _) ?_ | refine d_fn (hhp _) ?_ | refine d_fnQ (fun _ => tstruck_c _) ?_ | refine d_fnQ (fun _ => hlg _) ?_ | refine d_fnQ (fun _ => hac _) ?_ | refine d_fnQ (fun _ => bwithin_c _ _ _ _) ?_ | refine d_fnQ (fun _ => hcp _) ?_ | refine d_fnQ (fun _ => hct _) ?_ | refine d_fnQ (fun _ => hco _) ?_ | refine d_fnQ (fun _ => hhp _) ?_) <;> try first | omega | assumption) | (refine g_d ?_; (first | refine d_fnY (tstruck_c _) ?_ | refine d_fnY (hlg _) ?_ | refine d_fnY (hac _) ?_ | refine d_fnY (bwithin_c _ _ _ _) ?_ | refine d_fnY (hcp _) ?_ | refine d_fnY (hct _) ?_ | refine d_fnY (hco _) ?_ | refine d_fnY (hhp _) ?_) <;> try first | omega | assumption)))
      all_goals (try (exfalso; omega))
      all_goals (refine r_es hQ ?_; try with_reducible rfl)
  · have hx0 := hc0
    generalize (odErr a o g).1 = n0 at *
    generalize (odErr a o g).2 = c0 at *
    unfold actV at hlg hcp hco hac ⊢
    refine Gives_in Tryz.func5 rfl Tryz.ntmps5 Tryz.results5 (by kernel_rfl) (by simp) rfl fun Q hQ => ?_
    (have FX := And.intro hlo hx0; repeat' (first | (refine sx ?_ ?_ <;> intro h <;> first | (exfalso; omega) | skip) | (refine g_op ?_; refine g_call ?_; refine g_args ?_; (first | refine s_fn (tstruck_c _) ?_ | refine s_fn (hlg _) ?_ | refine s_fn (hac _) ?_ | refine s_fn (bwithin_c _ _ _ _) ?_ | refine s_fn (hcp _) ?_ | refine s_fn (hct _) ?_ | refine s_fn (hco _) ?_) <;> try first | omega | assumption) | refine ny ?_ | refine WA_block ?_ | (refine uH15_5_5 ?_; refine ⟨by kernel_rfl, ?_⟩) | (refine uH15_5_8 ?_; refine ⟨by kernel_rfl, ?_⟩) | (refine uH15_5_22 ?_; refine ⟨by kernel_rfl, ?_⟩) | (refine uH15_5_23 ?_; refine ⟨by kernel_rfl, ?_⟩) | (refine uH15_5_27 ?_; refine ⟨by kernel_rfl, ?_⟩) | ((first | refine grp_cons (fun _ => tstruck_c _) ?_ | refine grp_cons (fun _ => hlg _) ?_ | refine grp_cons (fun _ => hac _) ?_ | refine grp_cons (fun _ => bwithin_c _ _ _ _) ?_ | refine grp_cons (fun _ => hcp _) ?_ | refine grp_cons (fun _ => hct _) ?_ | refine grp_cons (fun _ => hco _) ?_) <;> try first | omega | assumption) | (refine g_d ?_; refine d_args ?_; (first | refine d_fn (tstruck_c _) ?_ | refine d_fn (hlg _) ?_ | refine d_fn (hac _) ?_ | refine d_fn (bwithin_c _ _ _ _) ?_ | refine d_fn (hcp _) ?_ | refine d_fn (hct _) ?_ | refine d_fn (hco _) ?_ | refine d_fnQ (fun _ => tstruck_c _) ?_ | refine d_fnQ (fun _ => hlg _) ?_ | refine d_fnQ (fun _ => hac _) ?_ | refine d_fnQ (fun _ => bwithin_c _ _ _ _) ?_ | refine d_fnQ (fun _ => hcp _) ?_ | refine d_fnQ (fun _ => hct _) ?_ | refine d_fnQ (fun _ => hco _) ?_) <;> try first | omega | assumption) | (refine g_d ?_; (first | refine d_fnY (tstruck_c _) ?_ | refine d_fnY (hlg _) ?_ | refine d_fnY (hac _) ?_ | refine d_fnY (bwithin_c _ _ _ _) ?_ | refine d_fnY (hcp _) ?_ | refine d_fnY (hct _) ?_ | refine d_fnY (hco _) ?_) <;> try first | omega | assumption)))
    all_goals (try (exfalso; omega))
    all_goals (refine r_es hQ ?_; try with_reducible rfl)
theorem stroke_law (a : ActR) (o : Nms) (n d g : Int) (m : Mem) : Gives Tryz.prog 5 [.agg (actV a), .lst (txV o), .agg [.int .i64 n, .int .i64 d, .int .i64 g]] m (.bool true) := by
  by_cases h : stkP a o n d
  · exact stroke_in a o n d g h m
  · exact stroke_out a o n d g h m
end Go.Proofs.YtbcjcbcakcdnfaaGreat
