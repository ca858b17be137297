/- contracts: where a curve reaches a level, in the reference -/
import Derived.Test.YtbcjcbcakcdnfaaGreatC22
set_option linter.unusedSimpArgs false
set_option linter.unusedVariables false
namespace Go.Proofs.YtbcjcbcakcdnfaaGreat
open Go.RowKit
attribute [local irreducible] WA WOs WDs WAn qThen qBlock tput
set_option maxHeartbeats 1000000
set_option maxRecDepth 20000
set_option linter.unusedSimpArgs false
set_option linter.unusedVariables false
attribute [local irreducible] smB cut sm

theorem ralong_ok {u v u2 v2 y : Rat} (a1 : sm u) (a2 : sm v) (b1 : sm u2) (b2 : sm v2) (hlt : u < u2) (hs : slOk (u, v) (u2, v2)) (h0 : sl (u, v) (u2, v2) ≠ 0) (hy : sm y) (ho : alOk (u, v) (u2, v2) y) (m : Mem) : Gives Tryz.prog 90 [.agg (ptV (u, v)), .agg (ptV (u2, v2)), .agg [.int .i64 (Rat.num (y)), .int .i64 ((Rat.den (y) : Nat) : Int)]] m (.tup [.agg [.int .i64 (Rat.num (alE (u, v) (u2, v2) y)), .int .i64 ((Rat.den (alE (u, v) (u2, v2) y) : Nat) : Int)], .bool true]) := by
  have hss := hs.2.2
  have hrs := fun m => rslope_ok (a := (u, v)) (b := (u2, v2)) a1 a2 b1 b2 hlt hs m
  unfold alOk at ho
  unfold alE
  generalize sl (u, v) (u2, v2) = S at *
  obtain ⟨ho1, ho2, ho3⟩ := ho
  dsimp only at ho1 ho2 ho3 ⊢
  unfold ptV at hrs ⊢
  dsimp only at hrs ⊢
  have hcz := And.intro (smB_of ho1) (smB_of ho2)
  have hq := smB_of ho3
  rw [← hq]
  refine Gives_in Tryz.func90 rfl Tryz.ntmps90 Tryz.results90 (by kernel_rfl) (by simp) rfl fun Q hQ => ?_
  (have FX := hcz; repeat' (first | (refine sx ?_ ?_ <;> intro h <;> first | (exfalso; omega) | skip) | (refine g_op ?_; refine g_call ?_; refine g_args ?_; (first | refine s_fn (hrs _) ?_ | refine s_fn (rsub_c y v hy a2 _) ?_ | refine s_fn (rdiv_c _ _ ho1 hss h0 _) ?_ | refine s_fn (radd_c _ _ a1 ho2 _) ?_) <;> try first | omega | assumption) | refine ny ?_ | refine WA_block ?_))
  all_goals (try (exfalso; omega))
  all_goals (refine r_es hQ ?_; try with_reducible rfl)
theorem ralong_bad {u v u2 v2 y : Rat} (a1 : sm u) (a2 : sm v) (b1 : sm u2) (b2 : sm v2) (hlt : u < u2) (hs : slOk (u, v) (u2, v2)) (h0 : sl (u, v) (u2, v2) ≠ 0) (hy : sm y) (ho : ¬ alOk (u, v) (u2, v2) y) : ∃ a b : Int, ∀ m : Mem, Gives Tryz.prog 90 [.agg (ptV (u, v)), .agg (ptV (u2, v2)), .agg [.int .i64 (Rat.num (y)), .int .i64 ((Rat.den (y) : Nat) : Int)]] m (.tup [.agg [.int .i64 a, .int .i64 b], .bool false]) := by
  have hss := hs.2.2
  have hrs := fun m => rslope_ok (a := (u, v)) (b := (u2, v2)) a1 a2 b1 b2 hlt hs m
  unfold alOk at ho
  generalize sl (u, v) (u2, v2) = S at *
  dsimp only at ho ⊢
  unfold ptV at hrs ⊢
  dsimp only at hrs ⊢
  by_cases h1 : sm (y - v)
  · by_cases h2 : sm ((y - v) / S)
    · have h3 : ¬ sm (u + (y - v) / S) := fun h => ho ⟨h1, h2, h⟩
      have hcz := And.intro (smB_of h1) (smB_of h2)
      have hq := smB_no h3
      refine ⟨(u + (y - v) / S).num, ((u + (y - v) / S).den : Int), fun m => ?_⟩
      rw [← hq]
      refine Gives_in Tryz.func90 rfl Tryz.ntmps90 Tryz.results90 (by kernel_rfl) (by simp) rfl fun Q hQ => ?_
      (have FX := hcz; repeat' (first | (refine sx ?_ ?_ <;> intro h <;> first | (exfalso; omega) | skip) | (refine g_op ?_; refine g_call ?_; refine g_args ?_; (first | refine s_fn (hrs _) ?_ | refine s_fn (rsub_c y v hy a2 _) ?_ | refine s_fn (rdiv_c _ _ h1 hss h0 _) ?_ | refine s_fn (radd_c _ _ a1 h2 _) ?_) <;> try first | omega | assumption) | refine ny ?_ | refine WA_block ?_))
      all_goals (try (exfalso; omega))
      all_goals (refine r_es hQ ?_; try with_reducible rfl)
    · have hcz := And.intro (smB_of h1) (smB_no h2)
      refine ⟨0, 0, fun m => ?_⟩
      refine Gives_in Tryz.func90 rfl Tryz.ntmps90 Tryz.results90 (by kernel_rfl) (by simp) rfl fun Q hQ => ?_
      (have FX := hcz; repeat' (first | (refine sx ?_ ?_ <;> intro h <;> first | (exfalso; omega) | skip) | (refine g_op ?_; refine g_call ?_; refine g_args ?_; (first | refine s_fn (hrs _) ?_ | refine s_fn (rsub_c y v hy a2 _) ?_ | refine s_fn (rdiv_c _ _ h1 hss h0 _) ?_) <;> try first | omega | assumption) | refine ny ?_ | refine WA_block ?_))
      all_goals (try (exfalso; omega))
      all_goals (refine r_es hQ ?_; try with_reducible rfl)
  · have hcz := smB_no h1
    refine ⟨0, 0, fun m => ?_⟩
    refine Gives_in Tryz.func90 rfl Tryz.ntmps90 Tryz.results90 (by kernel_rfl) (by simp) rfl fun Q hQ => ?_
    (have FX := hcz; repeat' (first | (refine sx ?_ ?_ <;> intro h <;> first | (exfalso; omega) | skip) | (refine g_op ?_; refine g_call ?_; refine g_args ?_; (first | refine s_fn (hrs _) ?_ | refine s_fn (rsub_c y v hy a2 _) ?_) <;> try first | omega | assumption) | refine ny ?_ | refine WA_block ?_))
    all_goals (try (exfalso; omega))
    all_goals (refine r_es hQ ?_; try with_reducible rfl)

theorem rreached_c (p : Pt) (lv : Rat) (f : Bool) (hs : sm p.2) (hl : sm lv) (m : Mem) : Gives Tryz.prog 89 [.agg [.int .i64 (Rat.num (p.2)), .int .i64 ((Rat.den (p.2) : Nat) : Int)], .agg [.int .i64 (Rat.num (lv)), .int .i64 ((Rat.den (lv) : Nat) : Int)], .bool f] m (.bool (rchd f lv p)) := by
  have h1 := cmpQ_gt (p := p.2) (q := lv)
  have h2 := cmpQ_lt (p := p.2) (q := lv)
  have h3 := cmpQ_zero (p := p.2) (q := lv)
  cases f with
  | false =>
    refine Gives_in Tryz.func89 rfl Tryz.ntmps89 Tryz.results89 (by kernel_rfl) (by simp) rfl fun Q hQ => ?_
    (repeat' (first | (refine sx ?_ ?_ <;> intro h <;> first | (exfalso; omega) | skip) | (refine g_op ?_; refine g_call ?_; refine g_args ?_; (first | refine s_fn (bcmp_c p.2 lv hs hl _) ?_) <;> try first | omega | assumption) | refine ny ?_ | refine WA_block ?_))
    all_goals (try (exfalso; omega))
    all_goals ((refine r_es hQ ?_; try with_reducible rfl))
    all_goals (unfold rchd; simp only [Bool.false_eq_true, if_false])
    all_goals (exact congrArg V.bool (by first | exact (decide_eq_decide.2 (by grind)) | exact (decide_eq_true (by grind)).symm | exact (decide_eq_false (by grind)).symm))
  | true =>
    refine Gives_in Tryz.func89 rfl Tryz.ntmps89 Tryz.results89 (by kernel_rfl) (by simp) rfl fun Q hQ => ?_
    (repeat' (first | (refine sx ?_ ?_ <;> intro h <;> first | (exfalso; omega) | skip) | (refine g_op ?_; refine g_call ?_; refine g_args ?_; (first | refine s_fn (bcmp_c p.2 lv hs hl _) ?_) <;> try first | omega | assumption) | refine ny ?_ | refine WA_block ?_))
    all_goals (try (exfalso; omega))
    all_goals ((refine r_es hQ ?_; try with_reducible rfl))
    all_goals (unfold rchd; simp only [if_true])
    all_goals (exact congrArg V.bool (by first | exact (decide_eq_decide.2 (by grind)) | exact (decide_eq_true (by grind)).symm | exact (decide_eq_false (by grind)).symm))
theorem uC45_56_1 {N : Nat} {l : List Oper} {t : List (Nat × V)} {m : Mem} {Q : Exit → List (Nat × V) → Mem → Prop} (h : RgN Tryz.prog N l t m Q (fun i => if i == 1 || i == 4 || i == 5 || i == 7 then .q else .p) [.one 0, .one 1, .one 2, .one 3, .one 4, .one 5, .one 6, .one 7]) : WA Tryz.prog N (.region 1 l.toArray true) t m Q := d_rgN h
theorem uC45_56_6 {N : Nat} {l : List Oper} {t : List (Nat × V)} {m : Mem} {Q : Exit → List (Nat × V) → Mem → Prop} (h : RgN Tryz.prog N l t m Q (fun i => if i == 1 || i == 5 || i == 6 || i == 8 || i == 9 then .q else .p) [.one 0, .one 1, .one 2, .one 3, .one 4, .one 5, .one 6, .one 7, .one 8, .one 9]) : WA Tryz.prog N (.region 6 l.toArray true) t m Q := d_rgN h
theorem uC45_56_7 {N : Nat} {l : List Oper} {t : List (Nat × V)} {m : Mem} {Q : Exit → List (Nat × V) → Mem → Prop} (h : RgN Tryz.prog N l t m Q (fun i => if i == 17 then .f else if i == 16 then .a else if i == 1 || i == 5 || i == 7 || i == 10 || i == 11 || i == 12 then .q else .p) [.one 0, .one 1, .one 2, .one 3, .one 4, .one 5, .one 6, .one 7, .one 8, .one 9, .one 10, .one 11, .one 12, .one 13, .one 14, .one 15, .one 16, .one 17, .one 18]) : WA Tryz.prog N (.region 7 l.toArray true) t m Q := d_rgN h
theorem rreach_c (c : List Pt) (lv : Rat) (f : Bool) (hv : Valid c) (hl : sm lv) (m : Mem) : Gives Tryz.prog 56 [.agg [.lst (ptsV c)], .agg [.int .i64 (Rat.num (lv)), .int .i64 ((Rat.den (lv) : Nat) : Int)], .bool f] m (rchV (rch c lv f)) := by
  have hlen := ptsV_length (c := c)
  have hfew := hv.few
  have hp := hv.pos
  have hgl := ptsV_get hp
  have hr0 := fun m => rreached_c (at' c 0) lv f (hv.sm 0 hp).2 hl m
  unfold ptV at hgl
  cases h0 : rchd f lv (at' c 0) with
  | true =>
    rw [rch_zero hp h0]
    rw [h0] at hr0
    refine Gives_in Tryz.func56 rfl Tryz.ntmps56 Tryz.results56 (by kernel_rfl) (by simp) rfl fun Q hQ => ?_
    (have FX := And.intro hlen hgl; repeat' (first | (refine sx ?_ ?_ <;> intro h <;> first | (exfalso; omega) | skip) | (refine g_op ?_; refine g_call ?_; refine g_args ?_; (first | refine s_fn (hr0 _) ?_) <;> try first | omega | assumption) | refine ny ?_ | refine WA_block ?_ | (refine uC45_56_1 ?_; refine ⟨by kernel_rfl, ?_⟩) | (refine uC45_56_6 ?_; refine ⟨by kernel_rfl, ?_⟩) | (refine uC45_56_7 ?_; refine ⟨by kernel_rfl, ?_⟩) | ((first | refine grp_cons (fun _ => hr0 _) ?_) <;> try first | omega | assumption) | (refine g_d ?_; refine d_args ?_; (first | refine d_fn (hr0 _) ?_ | refine d_fnQ (fun _ => hr0 _) ?_) <;> try first | omega | assumption) | (refine g_d ?_; (first | refine d_fnY (hr0 _) ?_) <;> try first | omega | assumption)))
    all_goals (try (exfalso; omega))
    all_goals ((refine r_es hQ ?_; try with_reducible rfl); rfl)
  | false =>
    rw [h0] at hr0
    have hb0 : ∀ j, j < 1 → rchd f lv (at' c j) = false := fun j h => by
      obtain rfl : j = 0 := by omega
      exact h0
    refine CallA_in Tryz.func56 rfl Tryz.ntmps56 Tryz.results56 (by kernel_rfl) (by simp) fun Q hQ => ?_
    (have FX := And.intro hlen hgl; repeat' (first | (refine sx ?_ ?_ <;> intro h <;> first | (exfalso; omega) | skip) | (refine g_op ?_; refine g_call ?_; refine g_args ?_; (first | refine s_fn (hr0 _) ?_) <;> try first | omega | assumption) | refine ny ?_ | refine WA_block ?_ | (refine uC45_56_1 ?_; refine ⟨by kernel_rfl, ?_⟩) | (refine uC45_56_6 ?_; refine ⟨by kernel_rfl, ?_⟩) | (refine uC45_56_7 ?_; refine ⟨by kernel_rfl, ?_⟩) | ((first | refine grp_cons (fun _ => hr0 _) ?_) <;> try first | omega | assumption) | (refine g_d ?_; refine d_args ?_; (first | refine d_fn (hr0 _) ?_ | refine d_fnQ (fun _ => hr0 _) ?_) <;> try first | omega | assumption) | (refine g_d ?_; (first | refine d_fnY (hr0 _) ?_) <;> try first | omega | assumption)))
    refine WA_whileK (σ := Nat) [2, 3, 4, 6, 8] (fun i => [.bool f, .ptr (lend m).length 0 0, .ptr ((lend m).length + 1) 0 0, .ptr ((lend m).length + 2) 0 0, .int .i64 i]) (fun _ => [.cells .own 75 1 [[.lst (ptsV c)]], .cells .own 30 2 [[.int .i64 lv.num, .int .i64 (lv.den : Int)]], .cells .own 30 2 [[.int .i64 0, .int .i64 0]]]) 3 (fun i => (1 ≤ i ∧ i ≤ c.length) ∧ ∀ j, j < i → rchd f lv (at' c j) = false) (fun i => c.length - i) 1 ⟨⟨Nat.le_refl _, hp⟩, hb0⟩ tv_ rfl (fun _ => rfl) (by intro s s' _ _; simp [conB, conS, V.keeps, V.plain, Blk.flat, flatL, plainL, V.flat]) (by intro s s' _ _; simp [conB, conS, V.keeps, V.plain, Blk.flat, flatL, plainL, V.flat]) ?_
    rintro i ⟨⟨hi1, hi⟩, hj⟩ K hK
    simp only [zipT]
    clear FX
    rcases Nat.lt_or_ge i c.length with hlt | hge
    · obtain ⟨k, rfl⟩ : ∃ k, i = k + 1 := ⟨i - 1, by omega⟩
      have hri := fun m => rreached_c (at' c (k + 1)) lv f (hv.sm (k + 1) hlt).2 hl m
      have hgb := ptsV_get (c := c) (i := k + 1) hlt
      have hga := ptsV_get (c := c) (i := k) (by omega)
      have ht0 : (((k + 1 : Nat) : Int) - 1).toNat = k := by omega
      have ht1 : (((k + 1 : Nat) : Int)).toNat = k + 1 := by omega
      cases h1 : rchd f lv (at' c (k + 1)) with
      | false =>
        rw [h1] at hri
        unfold ptV at hgb
        have hgl := And.intro hgb ht1
        (have FX := And.intro hlen hgl; repeat' (first | (refine sx ?_ ?_ <;> intro h <;> first | (exfalso; omega) | skip) | (refine g_op ?_; refine g_call ?_; refine g_args ?_; (first | refine s_fn (hri _) ?_) <;> try first | omega | assumption) | refine ny ?_ | refine WA_block ?_ | (refine uC45_56_1 ?_; refine ⟨by kernel_rfl, ?_⟩) | (refine uC45_56_6 ?_; refine ⟨by kernel_rfl, ?_⟩) | (refine uC45_56_7 ?_; refine ⟨by kernel_rfl, ?_⟩) | ((first | refine grp_cons (fun _ => hri _) ?_) <;> try first | omega | assumption) | (refine g_d ?_; refine d_args ?_; (first | refine d_fn (hri _) ?_ | refine d_fnQ (fun _ => hri _) ?_) <;> try first | omega | assumption) | (refine g_d ?_; (first | refine d_fnY (hri _) ?_) <;> try first | omega | assumption)))
        all_goals (try (exfalso; omega))
        all_goals (refine nextL_ hK (k + 1 + 1) ⟨⟨by omega, by omega⟩, fun j h => ?_⟩ (by omega))
        all_goals (rcases Nat.lt_or_ge j (k + 1) with h2 | h2)
        all_goals first
          | exact hj j h2
          | (obtain rfl : j = k + 1 := by omega
             exact h1)
      | true =>
        rw [h1] at hri
        rw [rch_succ hlt hj h1] at hQ
        have s1 := hv.sm k (by omega)
        have s2 := hv.sm (k + 1) hlt
        have hsl := hv.sl k hlt
        have hup := hv.up k hlt
        obtain ⟨k1, _⟩ := rchd_y (hj k (by omega)) h1
        have hs0 := sl_ne hup k1
        obtain ⟨⟨u, v⟩, hu⟩ : ∃ p, at' c k = p := ⟨_, rfl⟩
        obtain ⟨⟨u2, v2⟩, hu2⟩ : ∃ p, at' c (k + 1) = p := ⟨_, rfl⟩
        rw [hu] at hga s1 hsl hup hs0 hQ
        rw [hu2] at hgb s2 hsl hup hs0 hQ hri
        unfold ptV at hga hgb
        dsimp only at hga hgb s1 s2 hri
        have hgl := And.intro hga (And.intro hgb (And.intro ht0 ht1))
        by_cases ho : alOk (u, v) (u2, v2) lv
        · rw [if_pos ho] at hQ
          simp only [rchV, frO] at hQ
          have hal := fun m => ralong_ok s1.1 s1.2 s2.1 s2.2 hup hsl hs0 hl ho m
          unfold ptV at hal
          dsimp only at hal
          (have FX := And.intro hlen hgl; repeat' (first | (refine sx ?_ ?_ <;> intro h <;> first | (exfalso; omega) | skip) | (refine g_op ?_; refine g_call ?_; refine g_args ?_; (first | refine s_fn (hri _) ?_ | refine s_fn (hal _) ?_) <;> try first | omega | assumption) | refine ny ?_ | refine WA_block ?_ | (refine uC45_56_1 ?_; refine ⟨by kernel_rfl, ?_⟩) | (refine uC45_56_6 ?_; refine ⟨by kernel_rfl, ?_⟩) | (refine uC45_56_7 ?_; refine ⟨by kernel_rfl, ?_⟩) | ((first | refine grp_cons (fun _ => hri _) ?_ | refine grp_cons (fun _ => hal _) ?_) <;> try first | omega | assumption) | (refine g_d ?_; refine d_args ?_; (first | refine d_fn (hri _) ?_ | refine d_fn (hal _) ?_ | refine d_fnQ (fun _ => hri _) ?_ | refine d_fnQ (fun _ => hal _) ?_) <;> try first | omega | assumption) | (refine g_d ?_; (first | refine d_fnY (hri _) ?_ | refine d_fnY (hal _) ?_) <;> try first | omega | assumption)))
          all_goals (try (exfalso; omega))
          all_goals (refine r_esA hQ (.inl ⟨rfl, rfl, rfl⟩))
        · rw [if_neg ho] at hQ
          simp only [rchV, frO] at hQ
          obtain ⟨x, y, hal⟩ := ralong_bad s1.1 s1.2 s2.1 s2.2 hup hsl hs0 hl ho
          unfold ptV at hal
          dsimp only at hal
          (have FX := And.intro hlen hgl; repeat' (first | (refine sx ?_ ?_ <;> intro h <;> first | (exfalso; omega) | skip) | (refine g_op ?_; refine g_call ?_; refine g_args ?_; (first | refine s_fn (hri _) ?_ | refine s_fn (hal _) ?_) <;> try first | omega | assumption) | refine ny ?_ | refine WA_block ?_ | (refine uC45_56_1 ?_; refine ⟨by kernel_rfl, ?_⟩) | (refine uC45_56_6 ?_; refine ⟨by kernel_rfl, ?_⟩) | (refine uC45_56_7 ?_; refine ⟨by kernel_rfl, ?_⟩) | ((first | refine grp_cons (fun _ => hri _) ?_ | refine grp_cons (fun _ => hal _) ?_) <;> try first | omega | assumption) | (refine g_d ?_; refine d_args ?_; (first | refine d_fn (hri _) ?_ | refine d_fn (hal _) ?_ | refine d_fnQ (fun _ => hri _) ?_ | refine d_fnQ (fun _ => hal _) ?_) <;> try first | omega | assumption) | (refine g_d ?_; (first | refine d_fnY (hri _) ?_ | refine d_fnY (hal _) ?_) <;> try first | omega | assumption)))
          all_goals (try (exfalso; omega))
          all_goals (refine r_esA hQ (.inl ⟨rfl, rfl, rfl⟩))
    · have e : i = c.length := by omega
      subst e
      rw [rch_none hj] at hQ
      simp only [rchV, frO] at hQ
      have hgl := hlen
      (have FX := And.intro hlen hgl; repeat' (first | (refine sx ?_ ?_ <;> intro h <;> first | (exfalso; omega) | skip) | refine ny ?_ | refine WA_block ?_ | (refine uC45_56_1 ?_; refine ⟨by kernel_rfl, ?_⟩) | (refine uC45_56_6 ?_; refine ⟨by kernel_rfl, ?_⟩) | (refine uC45_56_7 ?_; refine ⟨by kernel_rfl, ?_⟩)))
      all_goals (try (exfalso; omega))
      all_goals (refine r_esA hQ (.inl ⟨rfl, rfl, rfl⟩))
end Go.Proofs.YtbcjcbcakcdnfaaGreat
