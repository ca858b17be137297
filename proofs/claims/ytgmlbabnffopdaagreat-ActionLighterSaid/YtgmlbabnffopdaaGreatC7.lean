/- contracts: where a number lies on a curve; slopes -/
import Derived.Test.YtgmlbabnffopdaaGreatC5
set_option linter.unusedSimpArgs false
set_option linter.unusedVariables false
namespace Go.Proofs.YtgmlbabnffopdaaGreat
open Go.RowKit
attribute [local irreducible] WA WOs WDs WAn qThen qBlock tput
set_option maxHeartbeats 1000000
set_option maxRecDepth 20000
set_option linter.unusedSimpArgs false
set_option linter.unusedVariables false
attribute [local irreducible] smB cut sm
def ptsV (c : List Pt) : List (List V) := c.map ptV
theorem ptsV_length {c : List Pt} : (ptsV c).length = c.length := by simp [ptsV]
theorem ptsV_get {c : List Pt} {i : Nat} (h : i < c.length) : (ptsV c)[i]? = some (ptV (at' c i)) := by
  unfold ptsV; rw [List.getElem?_map, at_get h]; rfl
theorem ptsV_raw (c : List Pt) : ptsV c = rksV (c.map raw) := by simp [ptsV, rksV, ptV, rkV, raw, rawQ]
theorem ptsV_plain (c : List Pt) : plainLL (ptsV c) = true := by rw [ptsV_raw]; exact rksV_plain _
theorem ptsV_flat (c : List Pt) : (ptsV c).all flatL = true := by rw [ptsV_raw]; exact rksV_flat _
theorem b_shr1 {P : Program} {m : Mem} {T : TypeId} {j : IntKind} {a : Int} : evB P m .shr T (.int .u64 a) (.int j 1) = some (True, .int .u64 (a / 2), m) := by
  rw [b_shr]
  have h1 : (min (Int.toNat 1) IntKind.u64.bits) = 1 := rfl
  rw [h1]
  have h2 : a.fdiv (2 ^ 1) = a / 2 := by rw [Int.fdiv_eq_ediv_of_nonneg]; rfl; decide
  rw [h2]
  simp

theorem astretch1_c (p : Pt) (x : Rat) (hp : sm p.1) (hx : sm x) (m : Mem) : Gives Tryz.prog 72 [.agg (ptV p), .agg [.int .i64 (Rat.num (x)), .int .i64 ((Rat.den (x) : Nat) : Int)]] m (.int .i64 (if p.1 ≤ x then -1 else 1)) := by
  have hle := cmpQ_le (p := p.1) (q := x)
  unfold ptV
  by_cases h : p.1 ≤ x
  · have hc := hle.2 h
    rw [if_pos h]
    refine Gives_in Tryz.func72 rfl Tryz.ntmps72 Tryz.results72 (by kernel_rfl) (by simp) rfl fun Q hQ => ?_
    (repeat' (first | (refine sx ?_ ?_ <;> intro h <;> first | (exfalso; omega) | skip) | (refine g_op ?_; refine g_call ?_; refine g_args ?_; (first | refine s_fn (acompare_c p.1 x hp hx _) ?_) <;> try first | omega | assumption) | refine ny ?_ | refine WA_block ?_))
    all_goals first | (exfalso; omega) | (refine r_es hQ ?_; try with_reducible rfl)
  · have hc : ¬ cmpQ p.1 x ≤ 0 := fun h1 => h (hle.1 h1)
    rw [if_neg h]
    refine Gives_in Tryz.func72 rfl Tryz.ntmps72 Tryz.results72 (by kernel_rfl) (by simp) rfl fun Q hQ => ?_
    (repeat' (first | (refine sx ?_ ?_ <;> intro h <;> first | (exfalso; omega) | skip) | (refine g_op ?_; refine g_call ?_; refine g_args ?_; (first | refine s_fn (acompare_c p.1 x hp hx _) ?_) <;> try first | omega | assumption) | refine ny ?_ | refine WA_block ?_))
    all_goals first | (exfalso; omega) | (refine r_es hQ ?_; try with_reducible rfl)
theorem uC7_71_5 {N : Nat} {l : List Oper} {t : List (Nat × V)} {m : Mem} {Q : Exit → List (Nat × V) → Mem → Prop} (h : RgN Tryz.prog N l t m Q (fun i => if i == 4 || i == 5 || i == 6 then .q else .p) [.one 0, .one 1, .one 2, .one 3, .one 4, .one 5, .one 6, .one 7]) : WA Tryz.prog N (.region 5 l.toArray true) t m Q := d_rgN h
theorem uC7_71_8 {N : Nat} {l : List Oper} {t : List (Nat × V)} {m : Mem} {Q : Exit → List (Nat × V) → Mem → Prop} (h : RgN Tryz.prog N l t m Q (fun i => if i == 9 || i == 10 || i == 11 then .q else .p) [.one 0, .one 1, .one 2, .one 3, .one 4, .one 5, .one 6, .one 7, .one 8, .one 9, .one 10, .one 11, .one 12, .one 13, .one 14, .one 15]) : WA Tryz.prog N (.region 8 l.toArray true) t m Q := d_rgN h
theorem absearch_c (c : List Pt) (x : Rat) (hv : Valid c) (hx : sm x) (m : Mem) : Gives Tryz.prog 71 [.lst (ptsV c), .agg [.int .i64 (Rat.num (x)), .int .i64 ((Rat.den (x) : Nat) : Int)], .clo (.func 72) [] []] m (.tup [.int .i64 (cnt c x), .bool false]) := by
  have hlen := ptsV_length (c := c)
  have hfew := hv.few
  have hget := hlen
  have hh := hlen
  have hcl := fun m => astretch1_c (0, 0) 0 sm_zero sm_zero m
  refine Gives_in Tryz.func71 rfl Tryz.ntmps71 Tryz.results71 (by kernel_rfl) (by simp) rfl fun Q hQ => ?_
  (have FX := And.intro hlen (And.intro hget (And.intro hh @b_shr1)); repeat' (first | (refine sx ?_ ?_ <;> intro h <;> first | (exfalso; omega) | skip) | (refine g_op ?_; refine g_call ?_; refine g_args ?_; (first | refine s_fn (hcl _) ?_) <;> try first | omega | assumption) | (refine g_op ?_; refine g_dyn ?_; refine g_dargs ?_; first | (refine s_fn (hcl _) ?_ <;> try first | omega | assumption)) | refine ny ?_ | refine WA_block ?_ | (refine uC7_71_5 ?_; refine ⟨by kernel_rfl, ?_⟩) | (refine uC7_71_8 ?_; refine ⟨by kernel_rfl, ?_⟩) | ((first | refine grp_cons (fun _ => hcl _) ?_) <;> try first | omega | assumption) | (refine g_d ?_; refine d_args ?_; (first | refine d_fn (hcl _) ?_ | refine d_fnQ (fun _ => hcl _) ?_) <;> try first | omega | assumption) | (refine g_d ?_; (first | refine d_fnY (hcl _) ?_) <;> try first | omega | assumption) | (refine g_d ?_; first | (refine d_dyn (hcl _) ?_ <;> try first | omega | assumption) | (refine d_dynY (hcl _) ?_ <;> try first | omega | assumption))))
  refine WA_whileK (σ := Nat × Nat) [0, 2, 4, 8, 9, 10] (fun s => [.lst (ptsV c), .clo (.func 72) [] [], .ptr (lend m).length 0 0, .int .i64 c.length, .int .i64 s.1, .int .i64 s.2]) (fun _ => [.cells .own 30 2 [[.int .i64 x.num, .int .i64 (x.den : Int)]]]) 1 (fun s => s.1 ≤ s.2 ∧ s.2 ≤ c.length ∧ (∀ j, j < s.1 → (at' c j).1 ≤ x) ∧ (∀ j, s.2 ≤ j → j < c.length → x < (at' c j).1)) (fun s => s.2 - s.1) (0, c.length) ⟨Nat.zero_le _, Nat.le_refl _, fun j h => absurd h (Nat.not_lt_zero _), fun j h1 h2 => absurd h2 (Nat.not_lt.2 h1)⟩ tv_ rfl (fun _ => rfl) (by intro s s' _ _; simp [conB, conS, V.keeps, V.plain, Blk.flat, flatL, plainL, V.flat]) (by intro s s' _ _; simp [conB, conS, V.keeps, V.plain, Blk.flat, flatL, plainL, V.flat]) ?_
  rintro ⟨i, j⟩ ⟨i1, i2, i3, i4⟩ K hK
  dsimp only at i1 i2 i3 i4
  simp only [zipT]
  clear FX
  rcases Nat.lt_or_ge i j with hij | hij
  · have hm : (i + j) / 2 < c.length := by omega
    have hget := ptsV_get hm
    have hh : (((i : Int) + (j : Int)) / 2).toNat = (i + j) / 2 := by omega
    have hcl := fun m => astretch1_c (at' c ((i + j) / 2)) x (hv.sm _ hm).1 hx m
    unfold ptV at hcl hget
    by_cases hle : (at' c ((i + j) / 2)).1 ≤ x
    · rw [if_pos hle] at hcl
      (have FX := And.intro hlen (And.intro hget (And.intro hh @b_shr1)); repeat' (first | (refine sx ?_ ?_ <;> intro h <;> first | (exfalso; omega) | skip) | (refine g_op ?_; refine g_call ?_; refine g_args ?_; (first | refine s_fn (hcl _) ?_) <;> try first | omega | assumption) | (refine g_op ?_; refine g_dyn ?_; refine g_dargs ?_; first | (refine s_fn (hcl _) ?_ <;> try first | omega | assumption)) | refine ny ?_ | refine WA_block ?_ | (refine uC7_71_5 ?_; refine ⟨by kernel_rfl, ?_⟩) | (refine uC7_71_8 ?_; refine ⟨by kernel_rfl, ?_⟩) | ((first | refine grp_cons (fun _ => hcl _) ?_) <;> try first | omega | assumption) | (refine g_d ?_; refine d_args ?_; (first | refine d_fn (hcl _) ?_ | refine d_fnQ (fun _ => hcl _) ?_) <;> try first | omega | assumption) | (refine g_d ?_; (first | refine d_fnY (hcl _) ?_) <;> try first | omega | assumption) | (refine g_d ?_; first | (refine d_dyn (hcl _) ?_ <;> try first | omega | assumption) | (refine d_dynY (hcl _) ?_ <;> try first | omega | assumption))))
      all_goals (try (exfalso; omega))
      all_goals (refine nextL_ hK ((i + j) / 2 + 1, j) ⟨by dsimp only; omega, i2, fun k h2 => ?_, i4⟩ (by dsimp only; omega))
      all_goals (dsimp only at h2; exact Rat.le_trans (hv.asc.le (by omega) hm) hle)
    · rw [if_neg hle] at hcl
      (have FX := And.intro hlen (And.intro hget (And.intro hh @b_shr1)); repeat' (first | (refine sx ?_ ?_ <;> intro h <;> first | (exfalso; omega) | skip) | (refine g_op ?_; refine g_call ?_; refine g_args ?_; (first | refine s_fn (hcl _) ?_) <;> try first | omega | assumption) | (refine g_op ?_; refine g_dyn ?_; refine g_dargs ?_; first | (refine s_fn (hcl _) ?_ <;> try first | omega | assumption)) | refine ny ?_ | refine WA_block ?_ | (refine uC7_71_5 ?_; refine ⟨by kernel_rfl, ?_⟩) | (refine uC7_71_8 ?_; refine ⟨by kernel_rfl, ?_⟩) | ((first | refine grp_cons (fun _ => hcl _) ?_) <;> try first | omega | assumption) | (refine g_d ?_; refine d_args ?_; (first | refine d_fn (hcl _) ?_ | refine d_fnQ (fun _ => hcl _) ?_) <;> try first | omega | assumption) | (refine g_d ?_; (first | refine d_fnY (hcl _) ?_) <;> try first | omega | assumption) | (refine g_d ?_; first | (refine d_dyn (hcl _) ?_ <;> try first | omega | assumption) | (refine d_dynY (hcl _) ?_ <;> try first | omega | assumption))))
      all_goals (try (exfalso; omega))
      all_goals (refine nextL_ hK (i, (i + j) / 2) ⟨by dsimp only; omega, by dsimp only; omega, i3, fun k h2 h3 => ?_⟩ (by dsimp only; omega))
      all_goals (dsimp only at h2; have h5 := hv.asc.le h2 h3; have h6 := Rat.not_le.1 hle; grind)
  · have hij' : i = j := by omega
    subst hij'
    have hcn := cnt_uniq hv.asc i2 i3 i4
    rw [← hcn] at hQ
    rcases Nat.lt_or_ge i c.length with hi | hi
    · have hget := ptsV_get hi
      have hh : ((i : Int)).toNat = i := by omega
      have hcl := fun m => astretch1_c (at' c i) x (hv.sm _ hi).1 hx m
      rw [if_neg (Rat.not_le.2 (i4 i (Nat.le_refl _) hi))] at hcl
      unfold ptV at hcl hget
      (have FX := And.intro hlen (And.intro hget (And.intro hh @b_shr1)); repeat' (first | (refine sx ?_ ?_ <;> intro h <;> first | (exfalso; omega) | skip) | (refine g_op ?_; refine g_call ?_; refine g_args ?_; (first | refine s_fn (hcl _) ?_) <;> try first | omega | assumption) | (refine g_op ?_; refine g_dyn ?_; refine g_dargs ?_; first | (refine s_fn (hcl _) ?_ <;> try first | omega | assumption)) | refine ny ?_ | refine WA_block ?_ | (refine uC7_71_5 ?_; refine ⟨by kernel_rfl, ?_⟩) | (refine uC7_71_8 ?_; refine ⟨by kernel_rfl, ?_⟩) | ((first | refine grp_cons (fun _ => hcl _) ?_) <;> try first | omega | assumption) | (refine g_d ?_; refine d_args ?_; (first | refine d_fn (hcl _) ?_ | refine d_fnQ (fun _ => hcl _) ?_) <;> try first | omega | assumption) | (refine g_d ?_; (first | refine d_fnY (hcl _) ?_) <;> try first | omega | assumption) | (refine g_d ?_; first | (refine d_dyn (hcl _) ?_ <;> try first | omega | assumption) | (refine d_dynY (hcl _) ?_ <;> try first | omega | assumption))))
      all_goals (try (exfalso; omega))
      all_goals (refine r_es hQ ?_; try with_reducible rfl)
    · have hget := hlen
      have hh := hlen
      have hcl := fun m => astretch1_c (0, 0) 0 sm_zero sm_zero m
      (have FX := And.intro hlen (And.intro hget (And.intro hh @b_shr1)); repeat' (first | (refine sx ?_ ?_ <;> intro h <;> first | (exfalso; omega) | skip) | (refine g_op ?_; refine g_call ?_; refine g_args ?_; (first | refine s_fn (hcl _) ?_) <;> try first | omega | assumption) | (refine g_op ?_; refine g_dyn ?_; refine g_dargs ?_; first | (refine s_fn (hcl _) ?_ <;> try first | omega | assumption)) | refine ny ?_ | refine WA_block ?_ | (refine uC7_71_5 ?_; refine ⟨by kernel_rfl, ?_⟩) | (refine uC7_71_8 ?_; refine ⟨by kernel_rfl, ?_⟩) | ((first | refine grp_cons (fun _ => hcl _) ?_) <;> try first | omega | assumption) | (refine g_d ?_; refine d_args ?_; (first | refine d_fn (hcl _) ?_ | refine d_fnQ (fun _ => hcl _) ?_) <;> try first | omega | assumption) | (refine g_d ?_; (first | refine d_fnY (hcl _) ?_) <;> try first | omega | assumption) | (refine g_d ?_; first | (refine d_dyn (hcl _) ?_ <;> try first | omega | assumption) | (refine d_dynY (hcl _) ?_ <;> try first | omega | assumption))))
      all_goals (try (exfalso; omega))
      all_goals (refine r_es hQ ?_; try with_reducible rfl)

theorem astretch_c (c : List Pt) (x : Rat) (hv : Valid c) (hx : sm x) (m : Mem) : Gives Tryz.prog 54 [.agg [.lst (ptsV c)], .agg [.int .i64 (Rat.num (x)), .int .i64 ((Rat.den (x) : Nat) : Int)]] m (.int .i64 ((cnt c x : Int) - 1)) := by
  have hn := cnt_le c x
  have hf := hv.few
  refine Gives_in Tryz.func54 rfl Tryz.ntmps54 Tryz.results54 (by kernel_rfl) (by simp) rfl fun Q hQ => ?_
  (repeat' (first | (refine sx ?_ ?_ <;> intro h <;> first | (exfalso; omega) | skip) | (refine g_op ?_; refine g_call ?_; refine g_args ?_; (first | refine s_fn (absearch_c c x hv hx _) ?_) <;> try first | omega | assumption) | refine ny ?_ | refine WA_block ?_))
  all_goals (refine r_es hQ ?_; try with_reducible rfl)
end Go.Proofs.YtgmlbabnffopdaaGreat
