/- the law ActionRises, over contracts -/
import Derived.Test.YtmigenmibohnkaaC43
import Derived.Test.YtmigenmibohnkaaYF
set_option linter.unusedSimpArgs false
set_option linter.unusedVariables false
namespace Go.Proofs.Ytmigenmibohnkaa
open Go.RowKit
attribute [local irreducible] WA WOs WDs WAn qThen qBlock tput
set_option maxHeartbeats 1000000
set_option maxRecDepth 20000
set_option linter.unusedSimpArgs false
set_option linter.unusedVariables false
attribute [local irreducible] smB cut sm
theorem cmp_prod {x y p q : Rat} (h1 : p ≤ q → x ≤ y) (h2 : q ≤ p → y ≤ x) : 0 ≤ cmpQ x y * cmpQ p q ∧ cmpQ x y * cmpQ p q ≤ 1 := by
  unfold cmpQ
  by_cases h3 : x < y
  · rw [if_pos h3]
    by_cases h4 : p < q
    · rw [if_pos h4]; decide
    · have := h2 (Rat.not_lt.1 h4)
      exact absurd h3 (Rat.not_lt.2 this)
  · rw [if_neg h3]
    by_cases h5 : y < x
    · rw [if_pos h5]
      by_cases h4 : p < q
      · have := h1 (Rat.le_of_lt h4)
        exact absurd h5 (Rat.not_lt.2 this)
      · rw [if_neg h4]
        split <;> decide
    · rw [if_neg h5, Int.zero_mul]; decide
theorem uH5_8_12 {N : Nat} {l : List Oper} {t : List (Nat × V)} {m : Mem} {Q : Exit → List (Nat × V) → Mem → Prop} (h : RgN Try.prog N l t m Q (fun i => if i == 5 || i == 12 then .q else .p) [.one 0, .one 1, .one 2, .one 3, .one 4, .one 5, .one 6, .one 7, .one 8, .one 9, .one 10, .one 11, .one 12, .one 13]) : WA Try.prog N (.region 12 l.toArray true) t m Q := d_rgN h
theorem uH5_8_18 {N : Nat} {l : List Oper} {t : List (Nat × V)} {m : Mem} {Q : Exit → List (Nat × V) → Mem → Prop} (h : RgN Try.prog N l t m Q (fun i => if i == 0 || i == 1 || i == 2 || i == 4 || i == 6 || i == 7 then .q else .p) [.one 0, .one 1, .one 2, .one 3, .one 4, .one 5, .one 6, .one 7, .one 8, .one 9, .one 10]) : WA Try.prog N (.region 18 l.toArray true) t m Q := d_rgN h
theorem rises_out (a : ActR) (s : List UInt8) (n1 d1 n2 d2 : Int) (hout : ¬ (light a ∧ ¬ 30 < (s.length : Int) ∧ sane n1 d1 ∧ sane n2 d2 ∧ acErr a = 0)) (m : Mem) : Gives Try.prog 8 [.agg (actV a), .str s, .agg [.int .i64 n1, .int .i64 d1, .int .i64 n2, .int .i64 d2]] m (.bool true) := by
  unfold actV
  refine Gives_in Try.func8 rfl Try.ntmps8 Try.results8 (by kernel_rfl) (by simp) rfl fun Q hQ => ?_
  (repeat' (first | (refine sx ?_ ?_ <;> intro h <;> first | (exfalso; omega) | skip) | (refine g_op ?_; refine g_call ?_; refine g_args ?_; (first | refine s_fn (lawake_c _) ?_ | refine s_fn (llight_c _ _) ?_ | refine s_fn (lsane_d _ _ _) ?_ | refine s_fn (rcheckaction_c a (light_lt (by assumption)) _) ?_) <;> try first | omega | assumption) | refine ny ?_ | refine WA_block ?_ | (refine uH5_8_12 ?_; refine ⟨by kernel_rfl, ?_⟩) | (refine uH5_8_18 ?_; refine ⟨by kernel_rfl, ?_⟩) | ((first | refine grp_cons (fun _ => lawake_c _) ?_ | refine grp_cons (fun _ => llight_c _ _) ?_ | refine grp_cons (fun _ => lsane_d _ _ _) ?_ | refine grp_cons (fun _ => rcheckaction_c a (light_lt (by assumption)) _) ?_) <;> try first | omega | assumption) | (refine g_d ?_; refine d_args ?_; (first | refine d_fn (lawake_c _) ?_ | refine d_fn (llight_c _ _) ?_ | refine d_fn (lsane_d _ _ _) ?_ | refine d_fn (rcheckaction_c a (light_lt (by assumption)) _) ?_ | refine d_fnQ (fun _ => lawake_c _) ?_ | refine d_fnQ (fun _ => llight_c _ _) ?_ | refine d_fnQ (fun _ => lsane_d _ _ _) ?_ | refine d_fnQ (fun _ => rcheckaction_c a (light_lt (by assumption)) _) ?_) <;> try first | omega | assumption) | (refine g_d ?_; (first | refine d_fnY (lawake_c _) ?_ | refine d_fnY (llight_c _ _) ?_ | refine d_fnY (lsane_d _ _ _) ?_ | refine d_fnY (rcheckaction_c a (light_lt (by assumption)) _) ?_) <;> try first | omega | assumption)))
  all_goals (try (exfalso; first | exact hout ⟨by assumption, by assumption, by assumption, by assumption, by assumption⟩ | omega))
  all_goals (refine r_es hQ ?_; try with_reducible rfl)
def upAt (a : ActR) (i : Nat) : Prop := ∀ k, k + 1 < (a.parts.getD i p0).cor.length → ((a.parts.getD i p0).cor.getD k rk0).2.1 ≤ ((a.parts.getD i p0).cor.getD (k + 1) rk0).2.1
theorem rises_in (a : ActR) (s : List UInt8) (n1 d1 n2 d2 : Int) (hL : light a) (hs : ¬ 30 < (s.length : Int)) (hsa : sane n1 d1) (hsb : sane n2 d2) (hac0 : acErr a = 0) (m : Mem) : Gives Try.prog 8 [.agg (actV a), .str s, .agg [.int .i64 n1, .int .i64 d1, .int .i64 n2, .int .i64 d2]] m (.bool true) := by
  have hlt := light_lt hL
  have hpn := hlt.np
  have hlp := prtsV_length (l := a.parts)
  have hga := hlp
  have hgb := hlp
  have hgc := hlp
  have hti := hlp
  have htj := hlp
  obtain ⟨b1, b2⟩ := sane_b hsa
  obtain ⟨b3, b4⟩ := sane_b hsb
  have hli := fun m => llight_c a m
  rw [decide_eq_true hL] at hli
  have hs1 := fun m => lsane_d n1 d1 m
  rw [decide_eq_true hsa] at hs1
  have hs2 := fun m => lsane_d n2 d2 m
  rw [decide_eq_true hsb] at hs2
  have hac := fun m => rcheckaction_c a hlt m
  rw [hac0] at hac
  have hp1 := fun m => apos_r a hlt s n1 d1 b1 b2 m
  have hp2 := fun m => apos_r a hlt s n2 d2 b3 b4 m
  unfold actV at hli hac hp1 hp2 ⊢
  refine Gives_in Try.func8 rfl Try.ntmps8 Try.results8 (by kernel_rfl) (by simp) rfl fun Q hQ => ?_
  (have FX := And.intro hlp (And.intro hga (And.intro hgb (And.intro hgc (And.intro hti htj)))); repeat' (first | (refine sx ?_ ?_ <;> intro h <;> first | (exfalso; omega) | skip) | (refine g_op ?_; refine g_call ?_; refine g_args ?_; (first | refine s_fn (lawake_c _) ?_ | refine s_fn (hli _) ?_ | refine s_fn (hs1 _) ?_ | refine s_fn (hs2 _) ?_ | refine s_fn (hac _) ?_ | refine s_fn (hp1 _) ?_ | refine s_fn (hp2 _) ?_ | refine s_fn (bcmp_c _ _ ?_ ?_ _) ?_) <;> try first | omega | assumption) | refine ny ?_ | refine WA_block ?_ | (refine uH5_8_12 ?_; refine ⟨by kernel_rfl, ?_⟩) | (refine uH5_8_18 ?_; refine ⟨by kernel_rfl, ?_⟩) | ((first | refine grp_cons (fun _ => lawake_c _) ?_ | refine grp_cons (fun _ => hli _) ?_ | refine grp_cons (fun _ => hs1 _) ?_ | refine grp_cons (fun _ => hs2 _) ?_ | refine grp_cons (fun _ => hac _) ?_ | refine grp_cons (fun _ => hp1 _) ?_ | refine grp_cons (fun _ => hp2 _) ?_ | refine grp_cons (fun _ => bcmp_c _ _ ?_ ?_ _) ?_) <;> try first | omega | assumption) | (refine g_d ?_; refine d_args ?_; (first | refine d_fn (lawake_c _) ?_ | refine d_fn (hli _) ?_ | refine d_fn (hs1 _) ?_ | refine d_fn (hs2 _) ?_ | refine d_fn (hac _) ?_ | refine d_fn (hp1 _) ?_ | refine d_fn (hp2 _) ?_ | refine d_fn (bcmp_c _ _ ?_ ?_ _) ?_ | refine d_fnQ (fun _ => lawake_c _) ?_ | refine d_fnQ (fun _ => hli _) ?_ | refine d_fnQ (fun _ => hs1 _) ?_ | refine d_fnQ (fun _ => hs2 _) ?_ | refine d_fnQ (fun _ => hac _) ?_ | refine d_fnQ (fun _ => hp1 _) ?_ | refine d_fnQ (fun _ => hp2 _) ?_ | refine d_fnQ (fun _ => bcmp_c _ _ ?_ ?_ _) ?_) <;> try first | omega | assumption) | (refine g_d ?_; (first | refine d_fnY (lawake_c _) ?_ | refine d_fnY (hli _) ?_ | refine d_fnY (hs1 _) ?_ | refine d_fnY (hs2 _) ?_ | refine d_fnY (hac _) ?_ | refine d_fnY (hp1 _) ?_ | refine d_fnY (hp2 _) ?_ | refine d_fnY (bcmp_c _ _ ?_ ?_ _) ?_) <;> try first | omega | assumption)))
  all_goals (try (exfalso; omega))
  refine WA_whileK (σ := Nat) [1, 3, 5, 7] (fun i => [.str s, .ptr (lend m).length 0 0, .ptr ((lend m).length + 1) 0 0, .int .i64 i]) (fun _ => [actB a, .cells .own 69 4 [[.int .i64 n1, .int .i64 d1, .int .i64 n2, .int .i64 d2]]]) 2 (fun i => i ≤ a.parts.length ∧ ∀ j, j < i → upAt a j) (fun i => a.parts.length - i) 0 ⟨Nat.zero_le _, fun j h => absurd h (Nat.not_lt_zero _)⟩ tv_ rfl (fun _ => rfl) (by intro s s' _ _; simp [conB, conS, V.keeps, V.plain, Blk.flat, flatL, V.flat]) (by intro s s' _ _; simp [conB, conS, V.keeps, V.plain, Blk.flat, flatL, V.flat]) ?_
  rintro i ⟨hi1, hi2⟩ K hK
  simp only [zipT]
  clear FX hga hgb hgc hti htj
  rcases Nat.lt_or_ge i a.parts.length with hi | hi
  · have hga := prtsV_get hi
    have hsu := ext_all hi2
    unfold upAt at hsu
    have hpl := hL.2.1 i hi
    have hcl : (a.parts.getD i p0).cor.length ≤ 15 := by unfold ptLight at hpl; omega
    clear hpl
    have hnx := hK (i + 1)
    generalize a.parts.getD i p0 = p at *
    unfold prtV at hga
    have hgb := hlp
    have hgc := hlp
    have hti := hlp
    have htj := hlp
    (have FX := And.intro hlp (And.intro hga (And.intro hgb (And.intro hgc (And.intro hti htj)))); repeat' (first | (refine sx ?_ ?_ <;> intro h <;> first | (exfalso; omega) | skip) | (refine g_op ?_; refine g_call ?_; refine g_args ?_; (first | refine s_fn (lawake_c _) ?_ | refine s_fn (hli _) ?_ | refine s_fn (hs1 _) ?_ | refine s_fn (hs2 _) ?_ | refine s_fn (hac _) ?_ | refine s_fn (hp1 _) ?_ | refine s_fn (hp2 _) ?_ | refine s_fn (bcmp_c _ _ ?_ ?_ _) ?_) <;> try first | omega | assumption) | refine ny ?_ | refine WA_block ?_ | (refine uH5_8_12 ?_; refine ⟨by kernel_rfl, ?_⟩) | (refine uH5_8_18 ?_; refine ⟨by kernel_rfl, ?_⟩) | ((first | refine grp_cons (fun _ => lawake_c _) ?_ | refine grp_cons (fun _ => hli _) ?_ | refine grp_cons (fun _ => hs1 _) ?_ | refine grp_cons (fun _ => hs2 _) ?_ | refine grp_cons (fun _ => hac _) ?_ | refine grp_cons (fun _ => hp1 _) ?_ | refine grp_cons (fun _ => hp2 _) ?_ | refine grp_cons (fun _ => bcmp_c _ _ ?_ ?_ _) ?_) <;> try first | omega | assumption) | (refine g_d ?_; refine d_args ?_; (first | refine d_fn (lawake_c _) ?_ | refine d_fn (hli _) ?_ | refine d_fn (hs1 _) ?_ | refine d_fn (hs2 _) ?_ | refine d_fn (hac _) ?_ | refine d_fn (hp1 _) ?_ | refine d_fn (hp2 _) ?_ | refine d_fn (bcmp_c _ _ ?_ ?_ _) ?_ | refine d_fnQ (fun _ => lawake_c _) ?_ | refine d_fnQ (fun _ => hli _) ?_ | refine d_fnQ (fun _ => hs1 _) ?_ | refine d_fnQ (fun _ => hs2 _) ?_ | refine d_fnQ (fun _ => hac _) ?_ | refine d_fnQ (fun _ => hp1 _) ?_ | refine d_fnQ (fun _ => hp2 _) ?_ | refine d_fnQ (fun _ => bcmp_c _ _ ?_ ?_ _) ?_) <;> try first | omega | assumption) | (refine g_d ?_; (first | refine d_fnY (lawake_c _) ?_ | refine d_fnY (hli _) ?_ | refine d_fnY (hs1 _) ?_ | refine d_fnY (hs2 _) ?_ | refine d_fnY (hac _) ?_ | refine d_fnY (hp1 _) ?_ | refine d_fnY (hp2 _) ?_ | refine d_fnY (bcmp_c _ _ ?_ ?_ _) ?_) <;> try first | omega | assumption)))
    all_goals (try (exfalso; omega))
    refine WA_whileK (σ := Nat) [1, 3, 5, 7, 8, 9] (fun k => [.str s, .ptr (lend m).length 0 0, .ptr ((lend m).length + 1) 0 0, .int .i64 i, .lst (rksV p.cor), .int .i64 ((k : Int) + 1)]) (fun _ => [actB a, .cells .own 69 4 [[.int .i64 n1, .int .i64 d1, .int .i64 n2, .int .i64 d2]]]) 2 (fun k => (0 < p.cor.length → k < p.cor.length) ∧ ∀ j, j < k → (p.cor.getD j rk0).2.1 ≤ (p.cor.getD (j + 1) rk0).2.1) (fun k => p.cor.length - k) 0 ⟨fun h => h, fun j h => absurd h (Nat.not_lt_zero _)⟩ ?_ rfl (fun _ => rfl) (by intro s s' _ _; simp [conB, conS, V.keeps, V.plain, Blk.flat, flatL, V.flat]) (by intro s s' _ _; simp [conB, conS, V.keeps, V.plain, Blk.flat, flatL, V.flat]) ?_
    · show _ = [_, _, _, _, _, V.int .i64 (((0 : Nat) : Int) + 1)]
      exact tv_
    rintro k ⟨hk1, hk2⟩ K2 hK2
    simp only [zipT]
    clear FX hgb hgc hti htj
    have hgb := rksV_length (l := p.cor)
    rcases Nat.lt_or_ge (k + 1) p.cor.length with hk | hk
    · have hgc0 := rksV_get (l := p.cor) (i := k + 1) hk
      have hgd0 := rksV_get (l := p.cor) (i := k) (by omega)
      have hstep := ext_all (p := fun j => (p.cor.getD j rk0).2.1 ≤ (p.cor.getD (j + 1) rk0).2.1) hk2
      obtain ⟨⟨⟨u1, u2⟩, ⟨u3, u4⟩⟩, hu⟩ : ∃ x, p.cor.getD (k + 1) rk0 = x := ⟨_, rfl⟩
      obtain ⟨⟨⟨v1, v2⟩, ⟨v3, v4⟩⟩, hv⟩ : ∃ x, p.cor.getD k rk0 = x := ⟨_, rfl⟩
      rw [hu] at hgc0 hstep
      rw [hv] at hgd0 hstep
      dsimp only [rkV] at hgc0 hgd0 hstep
      have hgc := And.intro hgc0 hgd0
      have hti : ((k : Int) + 1).toNat = k + 1 := by omega
      have htj : ((k : Int) + 1 - 1).toNat = k := by omega
      (have FX := And.intro hlp (And.intro hga (And.intro hgb (And.intro hgc (And.intro hti htj)))); repeat' (first | (refine sx ?_ ?_ <;> intro h <;> first | (exfalso; omega) | skip) | (refine g_op ?_; refine g_call ?_; refine g_args ?_; (first | refine s_fn (lawake_c _) ?_ | refine s_fn (hli _) ?_ | refine s_fn (hs1 _) ?_ | refine s_fn (hs2 _) ?_ | refine s_fn (hac _) ?_ | refine s_fn (hp1 _) ?_ | refine s_fn (hp2 _) ?_ | refine s_fn (bcmp_c _ _ ?_ ?_ _) ?_) <;> try first | omega | assumption) | refine ny ?_ | refine WA_block ?_ | (refine uH5_8_12 ?_; refine ⟨by kernel_rfl, ?_⟩) | (refine uH5_8_18 ?_; refine ⟨by kernel_rfl, ?_⟩) | ((first | refine grp_cons (fun _ => lawake_c _) ?_ | refine grp_cons (fun _ => hli _) ?_ | refine grp_cons (fun _ => hs1 _) ?_ | refine grp_cons (fun _ => hs2 _) ?_ | refine grp_cons (fun _ => hac _) ?_ | refine grp_cons (fun _ => hp1 _) ?_ | refine grp_cons (fun _ => hp2 _) ?_ | refine grp_cons (fun _ => bcmp_c _ _ ?_ ?_ _) ?_) <;> try first | omega | assumption) | (refine g_d ?_; refine d_args ?_; (first | refine d_fn (lawake_c _) ?_ | refine d_fn (hli _) ?_ | refine d_fn (hs1 _) ?_ | refine d_fn (hs2 _) ?_ | refine d_fn (hac _) ?_ | refine d_fn (hp1 _) ?_ | refine d_fn (hp2 _) ?_ | refine d_fn (bcmp_c _ _ ?_ ?_ _) ?_ | refine d_fnQ (fun _ => lawake_c _) ?_ | refine d_fnQ (fun _ => hli _) ?_ | refine d_fnQ (fun _ => hs1 _) ?_ | refine d_fnQ (fun _ => hs2 _) ?_ | refine d_fnQ (fun _ => hac _) ?_ | refine d_fnQ (fun _ => hp1 _) ?_ | refine d_fnQ (fun _ => hp2 _) ?_ | refine d_fnQ (fun _ => bcmp_c _ _ ?_ ?_ _) ?_) <;> try first | omega | assumption) | (refine g_d ?_; (first | refine d_fnY (lawake_c _) ?_ | refine d_fnY (hli _) ?_ | refine d_fnY (hs1 _) ?_ | refine d_fnY (hs2 _) ?_ | refine d_fnY (hac _) ?_ | refine d_fnY (hp1 _) ?_ | refine d_fnY (hp2 _) ?_ | refine d_fnY (bcmp_c _ _ ?_ ?_ _) ?_) <;> try first | omega | assumption)))
      all_goals (try (exfalso; omega))
      all_goals try ((refine r_es hQ ?_; try with_reducible rfl); done)
      all_goals (refine nextL_ hK2 (k + 1) ⟨fun _ => hk, hstep (by omega)⟩ (by omega) (ht := ?_))
      all_goals (show _ = [_, _, _, _, _, V.int .i64 (((k + 1 : Nat) : Int) + 1)]; rw [Int.natCast_add]; exact tv_)
    · have hgc := hlp
      have hti := hlp
      have htj := hlp
      have hup : ∀ k, k + 1 < p.cor.length → (p.cor.getD k rk0).2.1 ≤ (p.cor.getD (k + 1) rk0).2.1 := fun j hj => hk2 j (by omega)
      (have FX := And.intro hlp (And.intro hga (And.intro hgb (And.intro hgc (And.intro hti htj)))); repeat' (first | (refine sx ?_ ?_ <;> intro h <;> first | (exfalso; omega) | skip) | (refine g_op ?_; refine g_call ?_; refine g_args ?_; (first | refine s_fn (lawake_c _) ?_ | refine s_fn (hli _) ?_ | refine s_fn (hs1 _) ?_ | refine s_fn (hs2 _) ?_ | refine s_fn (hac _) ?_ | refine s_fn (hp1 _) ?_ | refine s_fn (hp2 _) ?_ | refine s_fn (bcmp_c _ _ ?_ ?_ _) ?_) <;> try first | omega | assumption) | refine ny ?_ | refine WA_block ?_ | (refine uH5_8_12 ?_; refine ⟨by kernel_rfl, ?_⟩) | (refine uH5_8_18 ?_; refine ⟨by kernel_rfl, ?_⟩) | ((first | refine grp_cons (fun _ => lawake_c _) ?_ | refine grp_cons (fun _ => hli _) ?_ | refine grp_cons (fun _ => hs1 _) ?_ | refine grp_cons (fun _ => hs2 _) ?_ | refine grp_cons (fun _ => hac _) ?_ | refine grp_cons (fun _ => hp1 _) ?_ | refine grp_cons (fun _ => hp2 _) ?_ | refine grp_cons (fun _ => bcmp_c _ _ ?_ ?_ _) ?_) <;> try first | omega | assumption) | (refine g_d ?_; refine d_args ?_; (first | refine d_fn (lawake_c _) ?_ | refine d_fn (hli _) ?_ | refine d_fn (hs1 _) ?_ | refine d_fn (hs2 _) ?_ | refine d_fn (hac _) ?_ | refine d_fn (hp1 _) ?_ | refine d_fn (hp2 _) ?_ | refine d_fn (bcmp_c _ _ ?_ ?_ _) ?_ | refine d_fnQ (fun _ => lawake_c _) ?_ | refine d_fnQ (fun _ => hli _) ?_ | refine d_fnQ (fun _ => hs1 _) ?_ | refine d_fnQ (fun _ => hs2 _) ?_ | refine d_fnQ (fun _ => hac _) ?_ | refine d_fnQ (fun _ => hp1 _) ?_ | refine d_fnQ (fun _ => hp2 _) ?_ | refine d_fnQ (fun _ => bcmp_c _ _ ?_ ?_ _) ?_) <;> try first | omega | assumption) | (refine g_d ?_; (first | refine d_fnY (lawake_c _) ?_ | refine d_fnY (hli _) ?_ | refine d_fnY (hs1 _) ?_ | refine d_fnY (hs2 _) ?_ | refine d_fnY (hac _) ?_ | refine d_fnY (hp1 _) ?_ | refine d_fnY (hp2 _) ?_ | refine d_fnY (bcmp_c _ _ ?_ ?_ _) ?_) <;> try first | omega | assumption)))
      all_goals (try (exfalso; omega))
      all_goals (refine nextL_ hK (i + 1) ⟨hi, hsu hup⟩ (by omega))
  · have hie : i = a.parts.length := by omega
    subst hie
    have hup : upP a := fun j hj => hi2 j hj
    have hga := hlp
    have hgb := hlp
    have hgc := hlp
    have hti := hlp
    have htj := hlp
    rcases pos_cases a s n1 d1 with ⟨y, c, e1, sy, _, _, hj, hc, ey, g2, g3, g4⟩ | ⟨e, he, e1⟩
    · rcases pos_cases a s n2 d2 with ⟨z, c2, e2, sz, _, _, _, hc2, ez, f2, f3, f4⟩ | ⟨e, he, e2⟩
      · rw [hc] at hc2
        obtain rfl : c = c2 := Option.some.inj hc2
        have hpr := cmp_prod (x := y) (y := z) (p := toQ (n1, d1)) (q := toQ (n2, d2)) (fun h => by rw [ey, ez]; exact curP_mono (acErr_pts hac0) hup hj hc h) (fun h => by rw [ey, ez]; exact curP_mono (acErr_pts hac0) hup hj hc h)
        rw [e1] at hp1
        rw [e2] at hp2
        simp only [rchV, frO] at hp1 hp2
        have c1 := cmpQ_bd y z
        generalize toQ (n1, d1) = q1 at *
        generalize toQ (n2, d2) = q2 at *
        subst g2 g3 f2 f3
        (have FX := And.intro hlp (And.intro hga (And.intro hgb (And.intro hgc (And.intro hti htj)))); repeat' (first | (refine sx ?_ ?_ <;> intro h <;> first | (exfalso; omega) | skip) | (refine g_op ?_; refine g_call ?_; refine g_args ?_; (first | refine s_fn (lawake_c _) ?_ | refine s_fn (hli _) ?_ | refine s_fn (hs1 _) ?_ | refine s_fn (hs2 _) ?_ | refine s_fn (hac _) ?_ | refine s_fn (hp1 _) ?_ | refine s_fn (hp2 _) ?_ | refine s_fn (bcmp_c _ _ ?_ ?_ _) ?_) <;> try first | omega | assumption) | refine ny ?_ | refine WA_block ?_ | (refine uH5_8_12 ?_; refine ⟨by kernel_rfl, ?_⟩) | (refine uH5_8_18 ?_; refine ⟨by kernel_rfl, ?_⟩) | ((first | refine grp_cons (fun _ => lawake_c _) ?_ | refine grp_cons (fun _ => hli _) ?_ | refine grp_cons (fun _ => hs1 _) ?_ | refine grp_cons (fun _ => hs2 _) ?_ | refine grp_cons (fun _ => hac _) ?_ | refine grp_cons (fun _ => hp1 _) ?_ | refine grp_cons (fun _ => hp2 _) ?_ | refine grp_cons (fun _ => bcmp_c _ _ ?_ ?_ _) ?_) <;> try first | omega | assumption) | (refine g_d ?_; refine d_args ?_; (first | refine d_fn (lawake_c _) ?_ | refine d_fn (hli _) ?_ | refine d_fn (hs1 _) ?_ | refine d_fn (hs2 _) ?_ | refine d_fn (hac _) ?_ | refine d_fn (hp1 _) ?_ | refine d_fn (hp2 _) ?_ | refine d_fn (bcmp_c _ _ ?_ ?_ _) ?_ | refine d_fnQ (fun _ => lawake_c _) ?_ | refine d_fnQ (fun _ => hli _) ?_ | refine d_fnQ (fun _ => hs1 _) ?_ | refine d_fnQ (fun _ => hs2 _) ?_ | refine d_fnQ (fun _ => hac _) ?_ | refine d_fnQ (fun _ => hp1 _) ?_ | refine d_fnQ (fun _ => hp2 _) ?_ | refine d_fnQ (fun _ => bcmp_c _ _ ?_ ?_ _) ?_) <;> try first | omega | assumption) | (refine g_d ?_; (first | refine d_fnY (lawake_c _) ?_ | refine d_fnY (hli _) ?_ | refine d_fnY (hs1 _) ?_ | refine d_fnY (hs2 _) ?_ | refine d_fnY (hac _) ?_ | refine d_fnY (hp1 _) ?_ | refine d_fnY (hp2 _) ?_ | refine d_fnY (bcmp_c _ _ ?_ ?_ _) ?_) <;> try first | omega | assumption)))
        all_goals (try (exfalso; omega))
        all_goals (refine r_es hQ ?_; try with_reducible rfl)
      · rw [e1] at hp1
        rw [e2] at hp2
        simp only [rchV, frO] at hp1 hp2
        (have FX := And.intro hlp (And.intro hga (And.intro hgb (And.intro hgc (And.intro hti htj)))); repeat' (first | (refine sx ?_ ?_ <;> intro h <;> first | (exfalso; omega) | skip) | (refine g_op ?_; refine g_call ?_; refine g_args ?_; (first | refine s_fn (lawake_c _) ?_ | refine s_fn (hli _) ?_ | refine s_fn (hs1 _) ?_ | refine s_fn (hs2 _) ?_ | refine s_fn (hac _) ?_ | refine s_fn (hp1 _) ?_ | refine s_fn (hp2 _) ?_ | refine s_fn (bcmp_c _ _ ?_ ?_ _) ?_) <;> try first | omega | assumption) | refine ny ?_ | refine WA_block ?_ | (refine uH5_8_12 ?_; refine ⟨by kernel_rfl, ?_⟩) | (refine uH5_8_18 ?_; refine ⟨by kernel_rfl, ?_⟩) | ((first | refine grp_cons (fun _ => lawake_c _) ?_ | refine grp_cons (fun _ => hli _) ?_ | refine grp_cons (fun _ => hs1 _) ?_ | refine grp_cons (fun _ => hs2 _) ?_ | refine grp_cons (fun _ => hac _) ?_ | refine grp_cons (fun _ => hp1 _) ?_ | refine grp_cons (fun _ => hp2 _) ?_ | refine grp_cons (fun _ => bcmp_c _ _ ?_ ?_ _) ?_) <;> try first | omega | assumption) | (refine g_d ?_; refine d_args ?_; (first | refine d_fn (lawake_c _) ?_ | refine d_fn (hli _) ?_ | refine d_fn (hs1 _) ?_ | refine d_fn (hs2 _) ?_ | refine d_fn (hac _) ?_ | refine d_fn (hp1 _) ?_ | refine d_fn (hp2 _) ?_ | refine d_fn (bcmp_c _ _ ?_ ?_ _) ?_ | refine d_fnQ (fun _ => lawake_c _) ?_ | refine d_fnQ (fun _ => hli _) ?_ | refine d_fnQ (fun _ => hs1 _) ?_ | refine d_fnQ (fun _ => hs2 _) ?_ | refine d_fnQ (fun _ => hac _) ?_ | refine d_fnQ (fun _ => hp1 _) ?_ | refine d_fnQ (fun _ => hp2 _) ?_ | refine d_fnQ (fun _ => bcmp_c _ _ ?_ ?_ _) ?_) <;> try first | omega | assumption) | (refine g_d ?_; (first | refine d_fnY (lawake_c _) ?_ | refine d_fnY (hli _) ?_ | refine d_fnY (hs1 _) ?_ | refine d_fnY (hs2 _) ?_ | refine d_fnY (hac _) ?_ | refine d_fnY (hp1 _) ?_ | refine d_fnY (hp2 _) ?_ | refine d_fnY (bcmp_c _ _ ?_ ?_ _) ?_) <;> try first | omega | assumption)))
        all_goals (try (exfalso; omega))
        all_goals (refine r_es hQ ?_; try with_reducible rfl)
    · rw [e1] at hp1
      rcases pos_cases a s n2 d2 with ⟨z, c2, e2, _⟩ | ⟨e', he', e2⟩
      all_goals
        rw [e2] at hp2
        simp only [rchV, frO] at hp1 hp2
        (have FX := And.intro hlp (And.intro hga (And.intro hgb (And.intro hgc (And.intro hti htj)))); repeat' (first | (refine sx ?_ ?_ <;> intro h <;> first | (exfalso; omega) | skip) | (refine g_op ?_; refine g_call ?_; refine g_args ?_; (first | refine s_fn (lawake_c _) ?_ | refine s_fn (hli _) ?_ | refine s_fn (hs1 _) ?_ | refine s_fn (hs2 _) ?_ | refine s_fn (hac _) ?_ | refine s_fn (hp1 _) ?_ | refine s_fn (hp2 _) ?_ | refine s_fn (bcmp_c _ _ ?_ ?_ _) ?_) <;> try first | omega | assumption) | refine ny ?_ | refine WA_block ?_ | (refine uH5_8_12 ?_; refine ⟨by kernel_rfl, ?_⟩) | (refine uH5_8_18 ?_; refine ⟨by kernel_rfl, ?_⟩) | ((first | refine grp_cons (fun _ => lawake_c _) ?_ | refine grp_cons (fun _ => hli _) ?_ | refine grp_cons (fun _ => hs1 _) ?_ | refine grp_cons (fun _ => hs2 _) ?_ | refine grp_cons (fun _ => hac _) ?_ | refine grp_cons (fun _ => hp1 _) ?_ | refine grp_cons (fun _ => hp2 _) ?_ | refine grp_cons (fun _ => bcmp_c _ _ ?_ ?_ _) ?_) <;> try first | omega | assumption) | (refine g_d ?_; refine d_args ?_; (first | refine d_fn (lawake_c _) ?_ | refine d_fn (hli _) ?_ | refine d_fn (hs1 _) ?_ | refine d_fn (hs2 _) ?_ | refine d_fn (hac _) ?_ | refine d_fn (hp1 _) ?_ | refine d_fn (hp2 _) ?_ | refine d_fn (bcmp_c _ _ ?_ ?_ _) ?_ | refine d_fnQ (fun _ => lawake_c _) ?_ | refine d_fnQ (fun _ => hli _) ?_ | refine d_fnQ (fun _ => hs1 _) ?_ | refine d_fnQ (fun _ => hs2 _) ?_ | refine d_fnQ (fun _ => hac _) ?_ | refine d_fnQ (fun _ => hp1 _) ?_ | refine d_fnQ (fun _ => hp2 _) ?_ | refine d_fnQ (fun _ => bcmp_c _ _ ?_ ?_ _) ?_) <;> try first | omega | assumption) | (refine g_d ?_; (first | refine d_fnY (lawake_c _) ?_ | refine d_fnY (hli _) ?_ | refine d_fnY (hs1 _) ?_ | refine d_fnY (hs2 _) ?_ | refine d_fnY (hac _) ?_ | refine d_fnY (hp1 _) ?_ | refine d_fnY (hp2 _) ?_ | refine d_fnY (bcmp_c _ _ ?_ ?_ _) ?_) <;> try first | omega | assumption)))
        all_goals (try (exfalso; omega))
        all_goals (refine r_es hQ ?_; try with_reducible rfl)
theorem rises_law (a : ActR) (s : List UInt8) (n1 d1 n2 d2 : Int) (m : Mem) : Gives Try.prog 8 [.agg (actV a), .str s, .agg [.int .i64 n1, .int .i64 d1, .int .i64 n2, .int .i64 d2]] m (.bool true) := by
  by_cases h : light a ∧ ¬ 30 < (s.length : Int) ∧ sane n1 d1 ∧ sane n2 d2 ∧ acErr a = 0
  · exact rises_in a s n1 d1 n2 d2 h.1 h.2.1 h.2.2.1 h.2.2.2.1 h.2.2.2.2 m
  · exact rises_out a s n1 d1 n2 d2 h m
end Go.Proofs.Ytmigenmibohnkaa
