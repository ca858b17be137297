/- contract: the enclosure of a multiple of a pitch -/
import Derived.Test.YtdkkhfkplpopdaaDoorK3
set_option linter.unusedSimpArgs false
set_option linter.unusedVariables false
namespace Go.Proofs.YtdkkhfkplpopdaaDoor
open Go.RowKit
attribute [local irreducible] WA WOs WDs WAn qThen qBlock tput
set_option maxHeartbeats 1000000
set_option maxRecDepth 20000
set_option linter.unusedSimpArgs false
set_option linter.unusedVariables false
theorem cmpN_le {v w : Nat} : cmpN v w ≤ 0 ↔ v ≤ w := by unfold cmpN; split <;> (try split) <;> omega
theorem cmpN_0 {v w : Nat} : cmpN v w = 0 ↔ v = w := by unfold cmpN; split <;> (try split) <;> omega
def lSta : Sta → Sta
  | .ro => .ro
  | _ => .lent
theorem lend_get2 {M : Mem} {k : Nat} {st : Sta} {ty sz : Nat} {es : List (List V)} (h : M[k]? = some (.cells st ty sz es)) (X : Mem) : (lend M ++ X)[k]? = some (.cells (lSta st) ty sz es) := by
  have hlt : k < (lend M).length := by
    have := (List.getElem?_eq_some_iff.1 h).1
    simpa [lend] using this
  rw [List.getElem?_append_left hlt]
  simp only [lend, List.getElem?_map, h, Option.map_some]
  cases st <;> rfl
theorem isLo_uniq {D num den t x y : Nat} (h : isLo D num den t x) (k : isLo D num den t y) : x = y := by
  have key : ∀ {x y}, isLo D num den t x → isLo D num den t y → ¬ x < y := fun {x y} h k hlt => by
    have := h.2.2 y hlt k.1
    have := k.2.1
    omega
  have h1 := key h k
  have h2 := key k h
  omega
theorem uK4_23_1 {N : Nat} {l : List Oper} {t : List (Nat × V)} {m : Mem} {Q : Exit → List (Nat × V) → Mem → Prop} (h : RgN Tryd.prog N l t m Q (fun i => if i == 6 || i == 9 then .a else if i == 1 || i == 3 || i == 5 || i == 8 then .q else .p) [.one 0, .one 1, .one 2, .one 3, .one 4, .one 5, .one 7, .one 8, .one 6, .one 9, .one 10]) : WA Tryd.prog N (.region 1 l.toArray true) t m Q := d_rgN h
theorem nagainst_c (n D den N : Nat) (a b c : Int) (hn : 1 ≤ n) (hn2 : n ≤ 2000000000000000) (hD : D ≤ 12) (hd : 1 ≤ den) (hl : (dig den).length ≤ 10000) (hN : (dig N).length ≤ 10000) (M : Mem) (k1 k2 : Nat) (s1 s2 : Sta) (h1 : M[k1]? = some (.cells s1 23 4 [[.int .i64 a, .int .i64 b, .int .i64 c, .int .i64 D]])) (h2 : M[k2]? = some (.cells s2 53 2 [[natV N, natV den]])) :
    Gives Tryd.prog 23 [.int .i64 n, .ptr k1 0 0, .ptr k2 0 0] M (.int .i64 (cmpN (den * n ^ D) N)) := by
  have g1 := lend_get2 h1
  have g2 := lend_get2 h2
  have hcm := fun m => ncmp_c (den * n ^ D) N (by have := dig_len_pow den n hd hn (by omega) D; omega) (by omega) m
  refine Gives_in Tryd.func23 rfl Tryd.ntmps23 Tryd.results23 (by kernel_rfl) (by simp) rfl fun Q hQ => ?_
  (have FX := And.intro g1 g2; repeat' (first | (refine sx ?_ ?_ <;> intro h <;> first | (exfalso; omega) | skip) | (refine g_op ?_; refine g_call ?_; refine g_args ?_; (first | refine s_fn (npower_c _ _ _ ?_ ?_ ?_ ?_ ?_ _) ?_ | refine s_fn (hcm _) ?_) <;> try first | omega | assumption) | refine ny ?_ | refine WA_block ?_ | (refine uK4_23_1 ?_; refine ⟨by kernel_rfl, ?_⟩) | ((first | refine grp_cons (fun _ => npower_c _ _ _ ?_ ?_ ?_ ?_ ?_ _) ?_ | refine grp_cons (fun _ => hcm _) ?_) <;> try first | omega | assumption) | (refine g_d ?_; refine d_args ?_; (first | refine d_fn (npower_c _ _ _ ?_ ?_ ?_ ?_ ?_ _) ?_ | refine d_fn (hcm _) ?_ | refine d_fnQ (fun _ => npower_c _ _ _ ?_ ?_ ?_ ?_ ?_ _) ?_ | refine d_fnQ (fun _ => hcm _) ?_) <;> try first | omega | assumption) | (refine g_d ?_; (first | refine d_fnY (npower_c _ _ _ ?_ ?_ ?_ ?_ ?_ _) ?_ | refine d_fnY (hcm _) ?_) <;> try first | omega | assumption)))
  all_goals (refine r_es hQ ?_; try with_reducible rfl)
theorem prN_pos (a b c : Int) : 1 ≤ prN a b c := Nat.mul_pos (Nat.mul_pos (Nat.pow_pos (by decide)) (Nat.pow_pos (by decide))) (Nat.pow_pos (by decide))
theorem prN_len (a b c : Int) (ha : a ≤ 400) (hb : b ≤ 400) (hc : c ≤ 400) : (dig (prN a b c)).length ≤ 1300 := by
  have p1 : 1 ≤ 2 ^ a.toNat := Nat.pow_pos (by decide)
  have p2 : 1 ≤ 2 ^ a.toNat * 3 ^ b.toNat := Nat.mul_pos p1 (Nat.pow_pos (by decide))
  have h1 : (dig 1).length = 1 := by rw [dig_1]; rfl
  have h2 := dig_len_pow 1 2 (by decide) (by decide) (by decide) a.toNat
  rw [Nat.one_mul] at h2
  have h3 := dig_len_pow (2 ^ a.toNat) 3 p1 (by decide) (by decide) b.toNat
  have h4 := dig_len_pow (2 ^ a.toNat * 3 ^ b.toNat) 5 p2 (by decide) (by decide) c.toNat
  unfold prN
  omega
/-- what Enclose hands back -/
def encR (lo hi : Int) : V := if rgE lo hi = 0 then .tup [.agg [.int .i64 lo, .int .i64 hi], .int .i64 0] else .tup [.agg [.int .i64 0, .int .i64 0], .int .i64 8]
theorem nsmall_c (lo hi : Int) (m : Mem) : Gives Tryd.prog 25 [.agg [.int .i64 lo, .int .i64 hi]] m (encR lo hi) := by
  unfold encR
  split
  · exact nsmall_ok lo hi (by assumption) m
  · exact nsmall_bad lo hi (by assumption) m
theorem hiOf_eq {D num den t lo : Nat} (h : lo = 0 ∨ ¬ cmpN (den * lo ^ D) (num * t ^ D) = 0) : hiOf D num den t lo = lo + 1 := by
  unfold hiOf
  rw [if_pos ?_]
  rcases h with h | h
  · exact .inl h
  · refine .inr fun e => h (cmpN_0.2 ?_)
    rw [Nat.mul_comm den, Nat.mul_comm num]
    exact e
theorem hiOf_ne {D num den t lo : Nat} (h0 : lo ≠ 0) (h : cmpN (den * lo ^ D) (num * t ^ D) = 0) : hiOf D num den t lo = lo := by
  unfold hiOf
  rw [if_neg ?_]
  rintro (h1 | h1)
  · exact h0 h1
  · refine h1 ?_
    rw [Nat.mul_comm _ den, Nat.mul_comm _ num]
    exact cmpN_0.1 h

theorem nenclose_w (a b c d : Int) (hp : isPt a b c d) (t : Nat) (ht : 1 ≤ t) (ht2 : t ≤ 1000000000) (x y z : Int) (hx : -400 ≤ x ∧ x ≤ 400) (hy : -400 ≤ y ∧ y ≤ 400) (hz : -400 ≤ z ∧ z ≤ 400) (D : Nat) (hD1 : 1 ≤ D) (hD : D ≤ 12)
    (hre : ∀ m, Gives Tryd.prog 19 [ptV a b c d] m (ptV x y z D)) (l0 : Nat) (hl0 : isLo D (prN x y z) (prN (-x) (-y) (-z)) t l0) (u v w : Int) (hsm : ∀ m, Gives Tryd.prog 25 [.agg [.int .i64 l0, .int .i64 (hiOf D (prN x y z) (prN (-x) (-y) (-z)) t l0)]] m (.tup [.agg [.int .i64 u, .int .i64 v], .int .i64 w])) (m : Mem) :
    Gives Tryd.prog 8 [ptV a b c d, .int .i64 t] m (.tup [.agg [.int .i64 u, .int .i64 v], .int .i64 w]) := by
  have hck := fun m => ncheckpitch_c a b c d hp m
  have hqu := fun m => nquot_c x y z hx hy hz m
  have e1 := prN_pos x y z
  have e2 := prN_pos (-x) (-y) (-z)
  have l1 := prN_len x y z hx.2 hy.2 hz.2
  have l2 := prN_len (-x) (-y) (-z) (by omega) (by omega) (by omega)
  have hpw := fun m => npower_c t D (prN x y z) ht (by omega) e1 (by omega) (by omega) m
  have l3 := dig_len_pow (prN x y z) t e1 ht (by omega) D
  generalize prN x y z = num at *
  generalize prN (-x) (-y) (-z) = den at *
  have hag : ∀ (n : Int) (X : Mem), 1 ≤ n → n ≤ 2000000000000000 → Gives Tryd.prog 23 [.int .i64 n, .ptr (lend m).length 0 0, .ptr ((lend m).length + 2) 0 0] (lend m ++ (.cells .own 23 4 [[.int .i64 x, .int .i64 y, .int .i64 z, .int .i64 D]] :: .cells .own 28 2 [[.int .i64 0, .int .i64 0]] :: .cells .own 53 2 [[natV (num * t ^ D), natV den]] :: X)) (.int .i64 (cmpN (den * n.toNat ^ D) (num * t ^ D))) := by
    intro n X h1 h2
    obtain ⟨k, rfl⟩ := Int.eq_ofNat_of_zero_le (show 0 ≤ n by omega)
    refine nagainst_c k D den (num * t ^ D) x y z (by omega) (by omega) hD e2 (by omega) (by omega) _ _ _ .own .own ?_ ?_
    · rw [List.getElem?_append_right (Nat.le_refl _), Nat.sub_self]; rfl
    · rw [List.getElem?_append_right (by omega), Nat.add_sub_cancel_left]; rfl
  have hmo : ∀ {p q : Nat}, p ≤ q → den * p ^ D ≤ den * q ^ D := fun h => Nat.mul_le_mul_left _ (Nat.pow_le_pow_left h D)
  have hloN : l0 ≤ 1000000000000001 := hl0.1
  have hq0 := fun h => hiOf_eq (D := D) (num := num) (den := den) (t := t) (lo := l0) h
  have hq1 := fun h => hiOf_ne (D := D) (num := num) (den := den) (t := t) (lo := l0) h
  have hun : ∀ k : Nat, k ≤ 1000000000000001 → den * k ^ D ≤ num * t ^ D → (∀ n, k < n → n ≤ 1000000000000001 → num * t ^ D < den * n ^ D) → k = l0 := fun k h1 h2 h3 => isLo_uniq ⟨h1, by rw [Nat.mul_comm _ den, Nat.mul_comm _ num]; exact h2, fun n a1 a2 => by rw [Nat.mul_comm _ den, Nat.mul_comm _ num]; exact h3 n a1 a2⟩ hl0
  have hst : (0 : Nat) ^ D = 0 := Nat.zero_pow hD1
  clear l1 l3 e1 hl0
  generalize hiOf D num den t l0 = hi0 at *
  refine Gives_in Tryd.func8 rfl Tryd.ntmps8 Tryd.results8 (by kernel_rfl) (by simp) rfl fun Q hQ => ?_
  (have FX := hloN; repeat' (first | (refine sx ?_ ?_ <;> intro h <;> first | (exfalso; omega) | skip) | (refine g_op ?_; refine g_call ?_; refine g_args ?_; (first | refine s_fn (hck _) ?_ | refine s_fn (nwithin_c _ _ _ _) ?_ | refine s_fn (hre _) ?_ | refine s_fn (nexponents_c _ _ _ _ _) ?_ | refine s_fn (hqu _) ?_ | refine s_fn (hpw _) ?_ | refine s_fn (hsm _) ?_) <;> try first | omega | assumption) | (refine g_op ?_; refine g_dyn ?_; refine g_dargs ?_; first | (refine s_fn (hag _ _ ?_ ?_) ?_ <;> try first | omega | assumption)) | refine ny ?_ | refine WA_block ?_))
  all_goals (try (exfalso; omega))
  clear hqu hpw hre
  refine WA_while (σ := Int × Int) [4, 5, 8, 9, 10] (fun s => [.ptr ((lend m).length + 1) 0 0, .int .i64 0, .clo (.func 23) [] [.ptr (lend m).length 0 0, .ptr ((lend m).length + 2) 0 0], .int .i64 s.1, .int .i64 s.2]) (fun _ => lend m ++ [.cells .own 23 4 [[.int .i64 x, .int .i64 y, .int .i64 z, .int .i64 D]], .cells .own 28 2 [[.int .i64 0, .int .i64 0]], .cells .own 53 2 [[natV (num * t ^ D), natV den]]])
    (fun s => (0 ≤ s.1 ∧ s.1 ≤ s.2 ∧ s.2 ≤ 1000000000000001) ∧ den * s.1.toNat ^ D ≤ num * t ^ D ∧ ∀ n, s.2.toNat < n → n ≤ 1000000000000001 → num * t ^ D < den * n ^ D) (fun s => (s.2 - s.1).natAbs) (0, 1000000000000001) ⟨⟨Int.le_refl _, by decide, Int.le_refl _⟩, by show den * 0 ^ D ≤ _; rw [hst, Nat.mul_zero]; exact Nat.zero_le _, fun n h1 h2 => by dsimp only at h1; omega⟩ tv_ rfl ?_
  rintro ⟨lo, hi⟩ ⟨⟨i1, i2, i3⟩, i4, i5⟩ L hL
  dsimp only at i1 i2 i3 i4 i5
  simp only [zipT]
  generalize num * t ^ D = N at *
  have hcl := fun n : Int => cmpN_le (v := den * n.toNat ^ D) (w := N)
  rcases Int.lt_or_le lo hi with hlt | hge
  · (have FX := hloN; repeat' (first | (refine sx ?_ ?_ <;> intro h <;> first | (exfalso; omega) | skip) | (refine g_op ?_; refine g_call ?_; refine g_args ?_; (first | refine s_fn (hck _) ?_ | refine s_fn (nwithin_c _ _ _ _) ?_ | refine s_fn (hre _) ?_ | refine s_fn (nexponents_c _ _ _ _ _) ?_ | refine s_fn (hqu _) ?_ | refine s_fn (hpw _) ?_ | refine s_fn (hsm _) ?_) <;> try first | omega | assumption) | (refine g_op ?_; refine g_dyn ?_; refine g_dargs ?_; first | (refine s_fn (hag _ _ ?_ ?_) ?_ <;> try first | omega | assumption)) | refine ny ?_ | refine WA_block ?_))
    all_goals (try (exfalso; omega))
    · have h5 := (hcl (hi - (hi - lo) / 2)).1 (by assumption)
      exact next_ hL (hi - (hi - lo) / 2, hi) ⟨⟨by dsimp only; omega, by dsimp only; omega, i3⟩, h5, i5⟩ (by dsimp only; omega)
    · have h5 : ¬ den * (hi - (hi - lo) / 2).toNat ^ D ≤ N := fun h => (by assumption : ¬ _ ≤ (0 : Int)) ((hcl (hi - (hi - lo) / 2)).2 h)
      refine next_ hL (lo, hi - (hi - lo) / 2 - 1) ⟨⟨i1, by dsimp only; omega, by dsimp only; omega⟩, i4, fun n a1 a2 => ?_⟩ (by dsimp only; omega)
      dsimp only at a1
      have := hmo (p := (hi - (hi - lo) / 2).toNat) (q := n) (by omega)
      omega
  · have e : lo = l0 := by
      have := hun lo.toNat (by omega) i4 (fun n a1 a2 => i5 n (by omega) a2)
      omega
    subst e
    have e3 : hi = l0 := by omega
    subst e3
    clear hL
    by_cases hz0 : l0 = 0
    · subst hz0
      have hh := hq0 (.inl rfl)
      subst hh
      (have FX := hloN; repeat' (first | (refine sx ?_ ?_ <;> intro h <;> first | (exfalso; omega) | skip) | (refine g_op ?_; refine g_call ?_; refine g_args ?_; (first | refine s_fn (hck _) ?_ | refine s_fn (nwithin_c _ _ _ _) ?_ | refine s_fn (hre _) ?_ | refine s_fn (nexponents_c _ _ _ _ _) ?_ | refine s_fn (hqu _) ?_ | refine s_fn (hpw _) ?_ | refine s_fn (hsm _) ?_) <;> try first | omega | assumption) | (refine g_op ?_; refine g_dyn ?_; refine g_dargs ?_; first | (refine s_fn (hag _ _ ?_ ?_) ?_ <;> try first | omega | assumption)) | refine ny ?_ | refine WA_block ?_))
      all_goals (try (exfalso; omega))
      all_goals (refine r_es hQ ?_; try with_reducible rfl)
    · have hne : ¬ (l0 : Int) = 0 := by omega
      by_cases hc : cmpN (den * l0 ^ D) N = 0
      · have hh := hq1 hz0 hc
        subst hh
        (have FX := hloN; repeat' (first | (refine sx ?_ ?_ <;> intro h <;> first | (exfalso; omega) | skip) | (refine g_op ?_; refine g_call ?_; refine g_args ?_; (first | refine s_fn (hck _) ?_ | refine s_fn (nwithin_c _ _ _ _) ?_ | refine s_fn (hre _) ?_ | refine s_fn (nexponents_c _ _ _ _ _) ?_ | refine s_fn (hqu _) ?_ | refine s_fn (hpw _) ?_ | refine s_fn (hsm _) ?_) <;> try first | omega | assumption) | (refine g_op ?_; refine g_dyn ?_; refine g_dargs ?_; first | (refine s_fn (hag _ _ ?_ ?_) ?_ <;> try first | omega | assumption)) | refine ny ?_ | refine WA_block ?_))
        all_goals (try (exfalso; omega))
        all_goals (refine r_es hQ ?_; try with_reducible rfl)
      · have hh := hq0 (.inr hc)
        subst hh
        (have FX := hloN; repeat' (first | (refine sx ?_ ?_ <;> intro h <;> first | (exfalso; omega) | skip) | (refine g_op ?_; refine g_call ?_; refine g_args ?_; (first | refine s_fn (hck _) ?_ | refine s_fn (nwithin_c _ _ _ _) ?_ | refine s_fn (hre _) ?_ | refine s_fn (nexponents_c _ _ _ _ _) ?_ | refine s_fn (hqu _) ?_ | refine s_fn (hpw _) ?_ | refine s_fn (hsm _) ?_) <;> try first | omega | assumption) | (refine g_op ?_; refine g_dyn ?_; refine g_dargs ?_; first | (refine s_fn (hag _ _ ?_ ?_) ?_ <;> try first | omega | assumption)) | refine ny ?_ | refine WA_block ?_))
        all_goals (try (exfalso; omega))
        all_goals (refine r_es hQ ?_; try with_reducible rfl)
theorem nenclose_r (a b c d : Int) (hp : isPt a b c d) (t : Nat) (ht : 1 ≤ t) (ht2 : t ≤ 1000000000) (x y z : Int) (hx : -400 ≤ x ∧ x ≤ 400) (hy : -400 ≤ y ∧ y ≤ 400) (hz : -400 ≤ z ∧ z ≤ 400) (D : Nat) (hD1 : 1 ≤ D) (hD : D ≤ 12)
    (hre : ∀ m, Gives Tryd.prog 19 [ptV a b c d] m (ptV x y z D)) (l0 : Nat) (hl0 : isLo D (prN x y z) (prN (-x) (-y) (-z)) t l0) (m : Mem) :
    Gives Tryd.prog 8 [ptV a b c d, .int .i64 t] m (encR l0 (hiOf D (prN x y z) (prN (-x) (-y) (-z)) t l0)) := by
  have h := fun u v w hs => nenclose_w a b c d hp t ht ht2 x y z hx hy hz D hD1 hD hre l0 hl0 u v w hs m
  have hs := fun m => nsmall_c (l0 : Int) (hiOf D (prN x y z) (prN (-x) (-y) (-z)) t l0 : Int) m
  unfold encR at hs ⊢
  split
  · rename_i hc
    rw [if_pos hc] at hs
    exact h _ _ _ hs
  · rename_i hc
    rw [if_neg hc] at hs
    exact h _ _ _ hs
theorem nenclose_c (a b c d : Int) (hp : isPt a b c d) : ∃ D num den : Nat, 1 ≤ D ∧ 1 ≤ den ∧ ∀ t : Nat, 1 ≤ t → t ≤ 1000000000 → ∀ lo, isLo D num den t lo → ∀ m, Gives Tryd.prog 8 [ptV a b c d, .int .i64 t] m (encR lo (hiOf D num den t lo)) := by
  have hre := fun m => nreduced_c a b c d hp m
  obtain ⟨⟨h1, h2, h3⟩, h4⟩ := hp
  have hg : (0 : Int) < ptG a b c d := by
    unfold ptG
    have h5 : 0 < Int.gcd (Int.gcd a b : Int) (Int.gcd c d : Int) := Int.gcd_pos_iff.2 (.inr (by
      have : 0 < Int.gcd c d := Int.gcd_pos_iff.2 (.inr (by omega))
      omega))
    omega
  have hdv : ptG a b c d ∣ d := Int.dvd_trans (Int.gcd_dvd_right ..) (Int.gcd_dvd_right ..)
  generalize ptG a b c d = g at *
  obtain ⟨k, rfl⟩ := hdv
  have hk : 0 < k := by
    rcases Int.lt_or_le 0 k with h | h
    · exact h
    · have := Int.mul_le_mul_of_nonneg_left h (Int.le_of_lt hg)
      omega
  have q1 := tdiv_bd a g
  have q2 := tdiv_bd b g
  have q3 := tdiv_bd c g
  have q4 := tdiv_bd (g * k) g
  have ek : (g * k).tdiv g = k := Int.mul_tdiv_cancel_left _ (by omega)
  rw [ek] at hre q4
  obtain ⟨D, rfl⟩ := Int.eq_ofNat_of_zero_le (Int.le_of_lt hk)
  exact ⟨D, _, _, by omega, prN_pos _ _ _, fun t ht ht2 lo hlo m => nenclose_r a b c _ ⟨⟨h1, h2, h3⟩, h4⟩ t ht ht2 _ _ _ (by omega) (by omega) (by omega) D (by omega) (by omega) hre lo hlo m⟩
/-- the comma, a thousand times -/
theorem ncomma_c (m : Mem) : Gives Tryd.prog 8 [ptV (-19) 12 0 1, .int .i64 1000] m (.tup [.agg [.int .i64 1013, .int .i64 1014], .int .i64 0]) := by
  have hp : isPt (-19) 12 0 1 := by decide
  have hre : ∀ m, Gives Tryd.prog 19 [ptV (-19) 12 0 1] m (ptV (-19) 12 0 ((1 : Nat) : Int)) := fun m => nreduced_c (-19) 12 0 1 hp m
  have e1 : prN (-19) 12 0 = 531441 := by decide
  have e2 : prN (- -19) (-12) (-0) = 524288 := by decide
  have hl : isLo 1 (prN (-19) 12 0) (prN (- -19) (-12) (-0)) 1000 1013 := by
    rw [e1, e2]
    refine ⟨by decide, by decide, fun n h1 h2 => ?_⟩
    rw [Nat.pow_one, Nat.pow_one]
    omega
  have h := nenclose_r (-19) 12 0 1 hp 1000 (by decide) (by decide) (-19) 12 0 (by decide) (by decide) (by decide) 1 (by decide) (by decide) hre 1013 hl m
  rw [e1, e2] at h
  exact h
end Go.Proofs.YtdkkhfkplpopdaaDoor
