import Derived.Test.YteogokmbedmkjaaG15
namespace Go.Proofs.Yteogokmbedmkjaa
open Go.RowKit
attribute [local irreducible] WA WOs WDs WAn qThen qBlock tput
set_option maxHeartbeats 1000000
set_option maxRecDepth 20000
set_option linter.unusedSimpArgs false
set_option linter.unusedVariables false
theorem comp_bd {lo hi d r sh : Int} (h1 : 0 ≤ lo) (h2 : lo ≤ hi) (h3 : hi ≤ 10000000000) (hd : -1000000 ≤ d ∧ d ≤ 1000000) (hr : 0 < r) (hs : r ≤ sh) :
    compLo lo hi d r sh ≤ compHi lo hi d r sh ∧ (-1000000000000000000 ≤ compLo lo hi d r sh ∧ compHi lo hi d r sh ≤ 1000000000000000000) ∧ compLo lo hi (-d) r sh = -(compHi lo hi d r sh) ∧ compHi lo hi (-d) r sh = -(compLo lo hi d r sh) := by
  have key : ∀ e : Int, 0 ≤ e → e ≤ 1000000 → 100 * lo * e / sh ≤ cdiv (100 * hi * e) r ∧ 0 ≤ 100 * lo * e / sh ∧ cdiv (100 * hi * e) r ≤ 1000000000000000000 := by
    intro e he0 he1
    obtain ⟨a1, a2⟩ := mul_bd h1 (Int.le_trans h2 h3) he0 he1
    obtain ⟨b1, b2⟩ := mul_bd (Int.le_trans h1 h2) h3 he0 he1
    have hle : 100 * lo * e ≤ 100 * hi * e := Int.mul_le_mul_of_nonneg_right (by omega) he0
    have hq : 0 ≤ 100 * lo * e / sh := Int.ediv_nonneg a1 (by omega)
    have h4 : 100 * lo * e / sh ≤ 100 * lo * e / r := by
      refine (Int.le_ediv_iff_mul_le hr).2 ?_
      exact Int.le_trans (Int.mul_le_mul_of_nonneg_left hs hq) (Int.ediv_mul_le _ (by omega))
    have h5 : 100 * lo * e / r ≤ 100 * hi * e / r := Int.ediv_le_ediv hr hle
    have h6 : 100 * hi * e / r ≤ cdiv (100 * hi * e) r := by
      unfold cdiv
      have := Int.ediv_lt_of_lt_mul hr (a := -(100 * hi * e)) (b := -(100 * hi * e / r) + 1) (by
        have := Int.ediv_mul_le (100 * hi * e) (b := r) (by omega)
        rw [Int.add_mul, Int.neg_mul]; omega)
      omega
    have h7 := cdiv_bd hr b1
    exact ⟨Int.le_trans h4 (Int.le_trans h5 h6), hq, by omega⟩
  unfold compLo compHi
  rcases Int.lt_trichotomy d 0 with h | h | h
  · have k := key (-d) (by omega) (by omega)
    rw [if_pos h, if_pos h, if_neg (by omega), if_neg (by omega), Int.neg_neg, Int.neg_neg]
    refine ⟨by omega, ⟨by omega, by omega⟩, rfl, rfl⟩
  · subst h
    have k := key 0 (by omega) (by omega)
    have z1 : 100 * lo * 0 / sh = 0 := by simp
    have z2 : cdiv (100 * hi * 0) r = 0 := by rw [Int.mul_zero]; exact cdiv_zero
    have z3 : -(0 : Int) = 0 := rfl
    rw [z3, if_neg (by omega), if_neg (by omega), z1, z2]
    omega
  · have k := key d (by omega) (by omega)
    rw [if_neg (by omega), if_neg (by omega), if_pos (by omega), if_pos (by omega), Int.neg_neg]
    refine ⟨by omega, ⟨by omega, by omega⟩, rfl, rfl⟩
theorem maxneg {d : Int} : (if -(-d) > -d then -(-d) else -d) = (if -d > d then -d else d) := by split <;> split <;> omega
def P6 (p : Int × Int × Int × Int × Int × Int) (e : Int) : V := .tup [.agg [.int .i64 p.1, .int .i64 p.2.1, .int .i64 p.2.2.1, .int .i64 p.2.2.2.1, .int .i64 p.2.2.2.2.1, .int .i64 p.2.2.2.2.2], .int .i64 e]
theorem pulls (lo hi a b c x y z : Int) :
    (∃ e : Int, e ≠ 0 ∧ (e = 2 ∨ e = 11) ∧ (∀ m, Gives Try.prog 18 [.agg [.int .i64 lo, .int .i64 hi], .agg [.int .i64 (a), .int .i64 (b), .int .i64 (c)], .agg [.int .i64 (x), .int .i64 (y), .int .i64 (z)]] m (.tup [.agg [.int .i64 0, .int .i64 0, .int .i64 0, .int .i64 0, .int .i64 0, .int .i64 0], .int .i64 e])) ∧ (∀ m, Gives Try.prog 19 [.agg [.int .i64 lo, .int .i64 hi], .agg [.int .i64 (a), .int .i64 (b), .int .i64 (c)], .agg [.int .i64 (x), .int .i64 (y), .int .i64 (z)]] m (.tup [.agg [.int .i64 0, .int .i64 0, .int .i64 0, .int .i64 0, .int .i64 0, .int .i64 0], .int .i64 e]))) ∨
    (∃ l0 h0 l1 h1 l2 h2 : Int, (l0 ≤ h0 ∧ -1000000000000000000 ≤ l0 ∧ h0 ≤ 1000000000000000000) ∧ (l1 ≤ h1 ∧ -1000000000000000000 ≤ l1 ∧ h1 ≤ 1000000000000000000) ∧ (l2 ≤ h2 ∧ -1000000000000000000 ≤ l2 ∧ h2 ≤ 1000000000000000000) ∧
      (∀ m, Gives Try.prog 18 [.agg [.int .i64 lo, .int .i64 hi], .agg [.int .i64 (a), .int .i64 (b), .int .i64 (c)], .agg [.int .i64 (x), .int .i64 (y), .int .i64 (z)]] m (.tup [.agg [.int .i64 l0, .int .i64 h0, .int .i64 l1, .int .i64 h1, .int .i64 l2, .int .i64 h2], .int .i64 0])) ∧
      (∀ m, Gives Try.prog 19 [.agg [.int .i64 lo, .int .i64 hi], .agg [.int .i64 (a), .int .i64 (b), .int .i64 (c)], .agg [.int .i64 (x), .int .i64 (y), .int .i64 (z)]] m (.tup [.agg [.int .i64 l0, .int .i64 h0, .int .i64 l1, .int .i64 h1, .int .i64 l2, .int .i64 h2], .int .i64 0])) ∧
      (∀ m, Gives Try.prog 18 [.agg [.int .i64 lo, .int .i64 hi], .agg [.int .i64 (x), .int .i64 (y), .int .i64 (z)], .agg [.int .i64 (a), .int .i64 (b), .int .i64 (c)]] m (.tup [.agg [.int .i64 (-h0), .int .i64 (-l0), .int .i64 (-h1), .int .i64 (-l1), .int .i64 (-h2), .int .i64 (-l2)], .int .i64 0]))) := by
  by_cases c1 : 0 ≤ lo ∧ lo ≤ hi ∧ hi ≤ 10000000000
  rotate_left
  · exact .inl ⟨2, by omega, .inl rfl, fun m => ppull_bad1 _ _ _ _ _ _ _ _ (.inl c1) m, fun m => rpull_bad _ _ _ _ _ _ _ _ (.inl c1) m⟩
  by_cases c2 : Plc a b c
  rotate_left
  · exact .inl ⟨2, by omega, .inl rfl, fun m => ppull_bad1 _ _ _ _ _ _ _ _ (.inr (.inl c2)) m, fun m => rpull_bad _ _ _ _ _ _ _ _ (.inr (.inl c2)) m⟩
  by_cases c3 : Plc x y z
  rotate_left
  · exact .inl ⟨2, by omega, .inl rfl, fun m => ppull_bad1 _ _ _ _ _ _ _ _ (.inr (.inr c3)) m, fun m => rpull_bad _ _ _ _ _ _ _ _ (.inr (.inr (.inl c3))) m⟩
  by_cases c4 : Plc (x - a) (y - b) (z - c)
  rotate_left
  · exact .inl ⟨2, by omega, .inl rfl, fun m => ppull_bad2 _ _ _ _ _ _ _ _ _ _ _ c1 c2 c3 rfl rfl rfl c4 m, fun m => rpull_bad _ _ _ _ _ _ _ _ (.inr (.inr (.inr c4))) m⟩
  by_cases c5 : x - a = 0 ∧ y - b = 0 ∧ z - c = 0
  · exact .inl ⟨11, by omega, .inr rfl, fun m => ppull_none _ _ _ _ _ _ _ _ _ _ _ c1 c2 c3 rfl rfl rfl c5 m, fun m => rpull_none _ _ _ _ _ _ _ _ _ _ _ c1 c2 c3 rfl rfl rfl c5 m⟩
  right
  obtain ⟨d0, hd0⟩ : ∃ d, x - a = d := ⟨_, rfl⟩
  obtain ⟨d1, hd1⟩ : ∃ d, y - b = d := ⟨_, rfl⟩
  obtain ⟨d2, hd2⟩ : ∃ d, z - c = d := ⟨_, rfl⟩
  rw [hd0, hd1, hd2] at c4 c5
  have c4' := c4
  unfold Plc at c4'
  obtain ⟨k1, k2, k3⟩ := c4'
  have q0 := sq_bd k1
  have q1 := sq_bd k2
  have q2 := sq_bd k3
  have hs : 10000 ≤ 10000 * (d0 * d0 + d1 * d1 + d2 * d2) := by omega
  obtain ⟨r, hr⟩ := exists_root (n := 10000 * (d0 * d0 + d1 * d1 + d2 * d2)) (by omega)
  have hr1 := root_hundred hs hr
  obtain ⟨sh, hsh⟩ : ∃ sh, (if r * r = 10000 * (d0 * d0 + d1 * d1 + d2 * d2) then r else r + 1) = sh := ⟨_, rfl⟩
  have hsh1 : r ≤ sh := by rw [← hsh]; split <;> omega
  have hsh2 : (r * r = 10000 * (d0 * d0 + d1 * d1 + d2 * d2) ∧ sh = r) ∨ (r * r ≠ 10000 * (d0 * d0 + d1 * d1 + d2 * d2) ∧ sh = r + 1) := by
    rw [← hsh]; split
    · exact .inl ⟨by assumption, rfl⟩
    · exact .inr ⟨by assumption, rfl⟩
  have n0 := comp_bd c1.1 c1.2.1 c1.2.2 k1 (by omega : 0 < r) hsh1
  have n1 := comp_bd c1.1 c1.2.1 c1.2.2 k2 (by omega : 0 < r) hsh1
  have n2 := comp_bd c1.1 c1.2.1 c1.2.2 k3 (by omega : 0 < r) hsh1
  have sq : ∀ d : Int, -d * -d = d * d := fun d => Int.neg_mul_neg d d
  refine ⟨_, _, _, _, _, _, ⟨n0.1, n0.2.1⟩, ⟨n1.1, n1.2.1⟩, ⟨n2.1, n2.2.1⟩, fun m => ppull_ok lo hi a b c x y z d0 d1 d2 _ _ _ r sh c1 c2 c3 hd0 hd1 hd2 c4 c5 rfl rfl rfl hr hsh m, fun m => rpull_ok lo hi a b c x y z d0 d1 d2 r sh c1 c2 c3 hd0 hd1 hd2 c4 c5 hr hsh2 m, fun m => ?_⟩
  have h := ppull_ok lo hi x y z a b c (-d0) (-d1) (-d2) _ _ _ r sh c1 c3 c2 (by omega) (by omega) (by omega) (by unfold Plc; omega) (by omega) rfl rfl rfl (by rw [sq, sq, sq]; exact hr) (by rw [sq, sq, sq]; exact hsh) m
  rw [n0.2.2.1, n0.2.2.2, n1.2.2.1, n1.2.2.2, n2.2.2.1, n2.2.2.2] at h
  exact h
theorem pulls_law (lo hi a b c x y z : Int) (m : Mem) : Gives Try.prog 3 [.agg [.int .i64 lo, .int .i64 hi], .agg [.int .i64 a, .int .i64 b, .int .i64 c, .int .i64 x, .int .i64 y, .int .i64 z]] m (.bool true) := by
  rcases pulls lo hi a b c x y z with ⟨e, he, he2, hp, hw⟩ | ⟨l0, h0, l1, h1, l2, h2, b0, b1, b2, hp, hw, hq⟩
  · have hq := hp
    refine Gives_in Try.func3 rfl Try.ntmps3 Try.results3 (by kernel_rfl) (by simp) rfl fun Q hQ => ?_
    (repeat' (first | refine s_tp ?_ | refine s_tn ?_ | refine d_tp ?_ | refine d_tn ?_ | ((first | refine WOs_splitD (fun h => ?_) (fun h => ?_) | refine WOs_splitN (fun h => ?_) (fun h => ?_) | refine WDs_splitD (fun h => ?_) (fun h => ?_) | refine WDs_splitN (fun h => ?_) (fun h => ?_)) <;> first | (exfalso; omega) | skip) | (refine g_op ?_; first | (refine g_call ?_; refine g_args ?_; first | (refine s_fn (awake_c _) ?_ <;> try first | omega | assumption) | (refine s_fn (hp _) ?_ <;> try first | omega | assumption) | (refine s_fn (hw _) ?_ <;> try first | omega | assumption) | (refine s_fn (hq _) ?_ <;> try first | omega | assumption) | fail) | refine s_mv ?_ | refine s_as ?_ | refine s_bin ?_ | refine s_ld ?_ | refine s_ia ?_ | refine s_fa ?_ | refine s_fd ?_ | refine s_ix ?_ | refine s_un ?_ | refine s_op ?_) | refine WA_seq' ?_ | refine qT_WA ?_ | refine WA_region ?_ | (refine d_raw (id := 13) ?_; refine ⟨fun i => if i == 3 || i == 7 || i == 13 || i == 17 || i == 18 || i == 25 || i == 29 || i == 30 then .q else .p, [.one 0, .one 1, .one 2, .one 3, .one 4, .one 5, .one 6, .one 7, .one 8, .one 9, .one 10, .one 11, .one 12, .one 13, .one 14, .one 15, .one 16, .one 17, .one 18, .one 19, .one 20, .one 21, .one 22, .one 23, .one 24, .one 25, .one 26, .one 27, .one 28, .one 29, .one 30, .one 31, .one 32], by kernel_rfl, ?_⟩) | refine WDs_nil ?_ | refine d_gPP cl_nil mkP mkP ?_ | refine d_gSS cl_nil mkS mkS ?_ | (refine g_d ?_; first | (refine d_args ?_; first | (refine d_fn (awake_c _) ?_ <;> try first | omega | assumption) | (refine d_fn (hp _) ?_ <;> try first | omega | assumption) | (refine d_fn (hw _) ?_ <;> try first | omega | assumption) | (refine d_fn (hq _) ?_ <;> try first | omega | assumption) | fail) | refine d_op ?_ | refine d_yes ?_ | refine d_no ?_ | refine d_noU ?_) | refine WOs_nil ?_ | (refine g_c ?_; first | refine c_T ?_ | refine c_F ?_) | (refine g_gd ?_; first | refine s_yes ?_ | refine s_no ?_ | refine s_noU ?_) | refine WA_skip ?_ | refine WA_ret ?_ | refine WA_exit ?_ | refine qT_ret ?_ | refine qT_exit ?_ | refine qB_exit ?_ | refine qB_other rfl ?_ | refine qB_normal ?_ | refine qB_ret ?_ | refine WA_block ?_ | refine qT_WAn ?_ | refine WAn_step ?_ | refine qT_normal ?_))
    all_goals (refine r_es hQ ?_; try with_reducible rfl)
  · refine Gives_in Try.func3 rfl Try.ntmps3 Try.results3 (by kernel_rfl) (by simp) rfl fun Q hQ => ?_
    (repeat' (first | refine s_tp ?_ | refine s_tn ?_ | refine d_tp ?_ | refine d_tn ?_ | ((first | refine WOs_splitD (fun h => ?_) (fun h => ?_) | refine WOs_splitN (fun h => ?_) (fun h => ?_) | refine WDs_splitD (fun h => ?_) (fun h => ?_) | refine WDs_splitN (fun h => ?_) (fun h => ?_)) <;> first | (exfalso; omega) | skip) | (refine g_op ?_; first | (refine g_call ?_; refine g_args ?_; first | (refine s_fn (awake_c _) ?_ <;> try first | omega | assumption) | (refine s_fn (hp _) ?_ <;> try first | omega | assumption) | (refine s_fn (hw _) ?_ <;> try first | omega | assumption) | (refine s_fn (hq _) ?_ <;> try first | omega | assumption) | fail) | refine s_mv ?_ | refine s_as ?_ | refine s_bin ?_ | refine s_ld ?_ | refine s_ia ?_ | refine s_fa ?_ | refine s_fd ?_ | refine s_ix ?_ | refine s_un ?_ | refine s_op ?_) | refine WA_seq' ?_ | refine qT_WA ?_ | refine WA_region ?_ | (refine d_raw (id := 13) ?_; refine ⟨fun i => if i == 3 || i == 7 || i == 13 || i == 17 || i == 18 || i == 25 || i == 29 || i == 30 then .q else .p, [.one 0, .one 1, .one 2, .one 3, .one 4, .one 5, .one 6, .one 7, .one 8, .one 9, .one 10, .one 11, .one 12, .one 13, .one 14, .one 15, .one 16, .one 17, .one 18, .one 19, .one 20, .one 21, .one 22, .one 23, .one 24, .one 25, .one 26, .one 27, .one 28, .one 29, .one 30, .one 31, .one 32], by kernel_rfl, ?_⟩) | refine WDs_nil ?_ | refine d_gPP cl_nil mkP mkP ?_ | refine d_gSS cl_nil mkS mkS ?_ | (refine g_d ?_; first | (refine d_args ?_; first | (refine d_fn (awake_c _) ?_ <;> try first | omega | assumption) | (refine d_fn (hp _) ?_ <;> try first | omega | assumption) | (refine d_fn (hw _) ?_ <;> try first | omega | assumption) | (refine d_fn (hq _) ?_ <;> try first | omega | assumption) | fail) | refine d_op ?_ | refine d_yes ?_ | refine d_no ?_ | refine d_noU ?_) | refine WOs_nil ?_ | (refine g_c ?_; first | refine c_T ?_ | refine c_F ?_) | (refine g_gd ?_; first | refine s_yes ?_ | refine s_no ?_ | refine s_noU ?_) | refine WA_skip ?_ | refine WA_ret ?_ | refine WA_exit ?_ | refine qT_ret ?_ | refine qT_exit ?_ | refine qB_exit ?_ | refine qB_other rfl ?_ | refine qB_normal ?_ | refine qB_ret ?_ | refine WA_block ?_ | refine qT_WAn ?_ | refine WAn_step ?_ | refine qT_normal ?_))
    refine WA_rounds 4 ?_
    (repeat' (first | refine s_tp ?_ | refine s_tn ?_ | refine d_tp ?_ | refine d_tn ?_ | ((first | refine WOs_splitD (fun h => ?_) (fun h => ?_) | refine WOs_splitN (fun h => ?_) (fun h => ?_) | refine WDs_splitD (fun h => ?_) (fun h => ?_) | refine WDs_splitN (fun h => ?_) (fun h => ?_)) <;> first | (exfalso; omega) | skip) | (refine g_op ?_; first | (refine g_call ?_; refine g_args ?_; first | (refine s_fn (awake_c _) ?_ <;> try first | omega | assumption) | (refine s_fn (hp _) ?_ <;> try first | omega | assumption) | (refine s_fn (hw _) ?_ <;> try first | omega | assumption) | (refine s_fn (hq _) ?_ <;> try first | omega | assumption) | fail) | refine s_mv ?_ | refine s_as ?_ | refine s_bin ?_ | refine s_ld ?_ | refine s_ia ?_ | refine s_fa ?_ | refine s_fd ?_ | refine s_ix ?_ | refine s_un ?_ | refine s_op ?_) | refine WA_seq' ?_ | refine qT_WA ?_ | refine WA_region ?_ | (refine d_raw (id := 13) ?_; refine ⟨fun i => if i == 3 || i == 7 || i == 13 || i == 17 || i == 18 || i == 25 || i == 29 || i == 30 then .q else .p, [.one 0, .one 1, .one 2, .one 3, .one 4, .one 5, .one 6, .one 7, .one 8, .one 9, .one 10, .one 11, .one 12, .one 13, .one 14, .one 15, .one 16, .one 17, .one 18, .one 19, .one 20, .one 21, .one 22, .one 23, .one 24, .one 25, .one 26, .one 27, .one 28, .one 29, .one 30, .one 31, .one 32], by kernel_rfl, ?_⟩) | refine WDs_nil ?_ | refine d_gPP cl_nil mkP mkP ?_ | refine d_gSS cl_nil mkS mkS ?_ | (refine g_d ?_; first | (refine d_args ?_; first | (refine d_fn (awake_c _) ?_ <;> try first | omega | assumption) | (refine d_fn (hp _) ?_ <;> try first | omega | assumption) | (refine d_fn (hw _) ?_ <;> try first | omega | assumption) | (refine d_fn (hq _) ?_ <;> try first | omega | assumption) | fail) | refine d_op ?_ | refine d_yes ?_ | refine d_no ?_ | refine d_noU ?_) | refine WOs_nil ?_ | (refine g_c ?_; first | refine c_T ?_ | refine c_F ?_) | (refine g_gd ?_; first | refine s_yes ?_ | refine s_no ?_ | refine s_noU ?_) | refine WA_skip ?_ | refine WA_ret ?_ | refine WA_exit ?_ | refine qT_ret ?_ | refine qT_exit ?_ | refine qB_exit ?_ | refine qB_other rfl ?_ | refine qB_normal ?_ | refine qB_ret ?_ | refine WA_block ?_ | refine qT_WAn ?_ | refine WAn_step ?_ | refine qT_normal ?_))
    all_goals (refine r_es hQ ?_; try with_reducible rfl)
end Go.Proofs.Yteogokmbedmkjaa
