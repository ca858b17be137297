import Derived.Test.YteogokmbedmkjaaG48
import Derived.Test.YteogokmbedmkjaaG14
namespace Go.Proofs.Yteogokmbedmkjaa
open Go.RowKit
attribute [local irreducible] WA WOs WDs WAn qThen qBlock tput
set_option maxHeartbeats 1000000
set_option maxRecDepth 20000
set_option linter.unusedSimpArgs false
set_option linter.unusedVariables false
def flZ (z : Br × (Int × Int)) : Int := (z.2.1 * stp z.1) / (z.1.d * z.1.e)
def chZ (z : Br × (Int × Int)) : Int := cdiv (z.2.1 * stp z.1) (z.1.d * z.1.e)
theorem fl_le {z : Br × (Int × Int)} (h : okP z) : loZ z ≤ flZ z ∧ chZ z ≤ hiZ z ∧ (-400000000000 ≤ flZ z ∧ flZ z ≤ 400000000000) ∧ (-400000000000 ≤ chZ z ∧ chZ z ≤ 400000000000) := by
  obtain ⟨h1, h2, h3, h4⟩ := h
  obtain ⟨a1, a2, a3, a4, a5⟩ := stp_bd h1
  have b1 := tS_bd (t := z.2.1) ⟨h2, by omega⟩ a1.1 ⟨a2, a3⟩
  have k1 := div_bd a1.1 b1
  have k2 := div_bd (n := -(z.2.1 * stp z.1)) a1.1 (by omega)
  have g1 : loZ z ≤ flZ z := by
    unfold loZ flZ
    exact Int.ediv_le_ediv (by omega) (by split <;> omega)
  have g2 : chZ z ≤ hiZ z := by
    unfold chZ hiZ cdiv
    have := Int.ediv_le_ediv (c := z.1.d * z.1.e) (a := -(if z.2.2 * stp z.1 > z.2.1 * stp z.1 then z.2.2 * stp z.1 else z.2.1 * stp z.1)) (b := -(z.2.1 * stp z.1)) (by omega) (by split <;> omega)
    omega
  refine ⟨g1, g2, k1, ?_⟩
  unfold chZ cdiv
  omega
theorem sumK_le {α : Type} {f g : α → Int} {l : List α} (h : ∀ p ∈ l, f p ≤ g p) : ∀ k, k ≤ l.length → sumK f l k ≤ sumK g l k
  | 0, _ => by simp [sumK]
  | k + 1, hk => by
    have := sumK_le h k (by omega)
    have := h _ (List.getElem_mem (by omega : k < l.length))
    rw [sumK_succ (by omega), sumK_succ (by omega)]
    omega
theorem bridges_law1 (l : List Br) (ts : List (Int × Int)) (h : (20 < l.length ∧ l.length ≤ 300) ∨ 305 < l.length ∨ 305 < ts.length) (m : Mem) : Gives Try.prog 8 [.lst (brsV l), .lst (ldsV ts)] m (.bool true) := by
  have hla := brsV_length (l := l)
  have hlb := ldsV_length (ls := ts)
  refine Gives_in Try.func8 rfl Try.ntmps8 Try.results8 (by kernel_rfl) (by simp) rfl fun Q hQ => ?_
  (have FX := And.intro hla hlb; repeat' (first | refine s_tp ?_ | refine s_tn ?_ | refine d_tp ?_ | refine d_tn ?_ | ((first | refine WOs_splitD (fun h => ?_) (fun h => ?_) | refine WOs_splitN (fun h => ?_) (fun h => ?_) | refine WDs_splitD (fun h => ?_) (fun h => ?_) | refine WDs_splitN (fun h => ?_) (fun h => ?_)) <;> first | (exfalso; omega) | skip) | (refine g_op ?_; first | (refine g_call ?_; refine g_args ?_; first | (refine s_fn (awake_c _) ?_ <;> try first | omega | assumption) | fail) | refine s_mv ?_ | refine s_as ?_ | refine s_bin ?_ | refine s_ld ?_ | refine s_ia ?_ | refine s_fa ?_ | refine s_fd ?_ | refine s_ix ?_ | refine s_un ?_ | refine s_op ?_) | refine WA_seq' ?_ | refine qT_WA ?_ | refine WA_region ?_ | (refine d_raw (id := 15) ?_; refine ⟨fun i => if i == 14 then .f else if i == 13 then .a else if i == 3 || i == 8 || i == 9 then .q else .p, [.one 0, .one 1, .one 2, .one 3, .one 4, .one 5, .one 6, .one 7, .one 8, .one 9, .one 10, .one 11, .one 12, .one 13, .one 14, .one 15], by kernel_rfl, ?_⟩) | (refine d_raw (id := 18) ?_; refine ⟨fun i => if i == 2 || i == 4 || i == 5 || i == 9 || i == 11 || i == 12 then .q else .p, [.one 0, .one 1, .one 2, .one 3, .one 4, .one 5, .one 6, .one 7, .one 8, .one 9, .one 10, .one 11, .one 12, .one 13, .one 14, .one 15], by kernel_rfl, ?_⟩) | refine WDs_nil ?_ | refine d_gPP cl_nil mkP mkP ?_ | refine d_gPc mkP ?_ | refine d_gPPc mkP mkP ?_ | refine grp_nil ?_ | (refine grp_cons (fun _ => awake_c _) ?_ <;> try first | omega | assumption) | refine d_gSS cl_nil mkS mkS ?_ | (refine g_d ?_; first | (refine d_args ?_; first | (refine d_fn (awake_c _) ?_ <;> try first | omega | assumption) | fail) | (refine d_fnY (awake_c _) ?_ <;> try first | omega | assumption) | refine d_op ?_ | refine d_yes ?_ | refine d_no ?_ | refine d_noU ?_) | refine WOs_nil ?_ | (refine g_c ?_; first | refine c_T ?_ | refine c_F ?_) | (refine g_gd ?_; first | refine s_yes ?_ | refine s_no ?_ | refine s_noU ?_) | refine WA_skip ?_ | refine WA_ret ?_ | refine WA_exit ?_ | refine qT_ret ?_ | refine qT_exit ?_ | refine qB_exit ?_ | refine qB_other rfl ?_ | refine qB_normal ?_ | refine qB_ret ?_ | refine WA_block ?_ | refine qT_WAn ?_ | refine WAn_step ?_ | refine qT_normal ?_))
  all_goals (refine r_es hQ ?_; try with_reducible rfl)
theorem bridges_law2 (l : List Br) (ts : List (Int × Int)) (h : ¬ ((20 < l.length ∧ l.length ≤ 300) ∨ 305 < l.length ∨ 305 < ts.length)) (m : Mem) : Gives Try.prog 8 [.lst (brsV l), .lst (ldsV ts)] m (.bool true) := by
  have hla := brsV_length (l := l)
  have hlb := ldsV_length (ls := ts)
  have hala := brsV_all l
  have halb := lds_all2 ts
  have hga := hla
  have hgb := hla
  have htk1 : (brsV l).take l.length = brsV l := List.take_of_length_le (by omega)
  have htk2 : (ldsV ts).take ts.length = ldsV ts := List.take_of_length_le (by omega)
  obtain ⟨LO, HI, e, hp, hr, hok⟩ : ∃ LO HI e : Int, (∀ m, Gives Try.prog 38 [.lst (brsV l), .lst (ldsV ts)] m (.tup [.agg [.int .i64 LO, .int .i64 HI], .int .i64 e])) ∧ (∀ m, Gives Try.prog 39 [.lst (brsV l), .lst (ldsV ts)] m (.tup [.agg [.int .i64 LO, .int .i64 HI], .int .i64 e])) ∧ (e = 0 → l.length = ts.length ∧ l.length ≤ 20 ∧ (∀ z ∈ l.zip ts, okP z) ∧ LO = sumK loZ (l.zip ts) l.length ∧ HI = sumK hiZ (l.zip ts) l.length) := by
    by_cases h1 : 300 < l.length ∨ l.length ≠ ts.length
    · refine ⟨0, 0, _, fun m => pbridge_bad l ts h1 m, fun m => rbridge_bad l ts h1 m, fun he => ?_⟩
      exfalso
      unfold brErr at he
      split at he
      · simp at he
      · split at he
        · simp at he
        · omega
    · have p1 := fun m => pbridge_c l ts (by omega) (by omega) m
      have r1 := fun m => rbridge_c l ts (by omega) (by omega) m
      by_cases h2 : ∀ z ∈ l.zip ts, okP z
      · rw [if_pos h2] at p1 r1
        exact ⟨_, _, _, p1, r1, fun _ => ⟨by omega, by omega, h2, rfl, rfl⟩⟩
      · rw [if_neg h2] at p1 r1
        exact ⟨_, _, _, p1, r1, fun h => absurd h (by decide)⟩
  refine Gives_in Try.func8 rfl Try.ntmps8 Try.results8 (by kernel_rfl) (by simp) rfl fun Q hQ => ?_
  (have FX := And.intro hla (And.intro hlb (And.intro hala (And.intro halb (And.intro hga hgb)))); repeat' (first | refine s_tp ?_ | refine s_tn ?_ | refine d_tp ?_ | refine d_tn ?_ | ((first | refine WOs_splitD (fun h => ?_) (fun h => ?_) | refine WOs_splitN (fun h => ?_) (fun h => ?_) | refine WDs_splitD (fun h => ?_) (fun h => ?_) | refine WDs_splitN (fun h => ?_) (fun h => ?_)) <;> first | (exfalso; omega) | skip) | (refine g_op ?_; first | (refine g_call ?_; refine g_args ?_; first | (refine s_fn (awake_c _) ?_ <;> try first | omega | assumption) | fail) | refine s_mv ?_ | refine s_as ?_ | refine s_bin ?_ | refine s_ld ?_ | refine s_ia ?_ | refine s_fa ?_ | refine s_fd ?_ | refine s_ix ?_ | refine s_un ?_ | refine s_op ?_) | refine WA_seq' ?_ | refine qT_WA ?_ | refine WA_region ?_ | (refine d_raw (id := 15) ?_; refine ⟨fun i => if i == 14 then .f else if i == 13 then .a else if i == 3 || i == 8 || i == 9 then .q else .p, [.one 0, .one 1, .one 2, .one 3, .one 4, .one 5, .one 6, .one 7, .one 8, .one 9, .one 10, .one 11, .one 12, .one 13, .one 14, .one 15], by kernel_rfl, ?_⟩) | (refine d_raw (id := 18) ?_; refine ⟨fun i => if i == 2 || i == 4 || i == 5 || i == 9 || i == 11 || i == 12 then .q else .p, [.one 0, .one 1, .one 2, .one 3, .one 4, .one 5, .one 6, .one 7, .one 8, .one 9, .one 10, .one 11, .one 12, .one 13, .one 14, .one 15], by kernel_rfl, ?_⟩) | refine WDs_nil ?_ | refine d_gPP cl_nil mkP mkP ?_ | refine d_gPc mkP ?_ | refine d_gPPc mkP mkP ?_ | refine grp_nil ?_ | (refine grp_cons (fun _ => awake_c _) ?_ <;> try first | omega | assumption) | refine d_gSS cl_nil mkS mkS ?_ | (refine g_d ?_; first | (refine d_args ?_; first | (refine d_fn (awake_c _) ?_ <;> try first | omega | assumption) | fail) | (refine d_fnY (awake_c _) ?_ <;> try first | omega | assumption) | refine d_op ?_ | refine d_yes ?_ | refine d_no ?_ | refine d_noU ?_) | refine WOs_nil ?_ | (refine g_c ?_; first | refine c_T ?_ | refine c_F ?_) | (refine g_gd ?_; first | refine s_yes ?_ | refine s_no ?_ | refine s_noU ?_) | refine WA_skip ?_ | refine WA_ret ?_ | refine WA_exit ?_ | refine qT_ret ?_ | refine qT_exit ?_ | refine qB_exit ?_ | refine qB_other rfl ?_ | refine qB_normal ?_ | refine qB_ret ?_ | refine WA_block ?_ | refine qT_WAn ?_ | refine WAn_step ?_ | refine qT_normal ?_))
  all_goals (refine g_op ?_; refine g_call ?_; refine g_args ?_)
  all_goals (refine s_fzE2 (B := lend m) 1 0 3 1 (hp _) ?_ hla hlb)
  all_goals (have FX := And.intro hla (And.intro hlb (And.intro hala (And.intro halb (And.intro hga hgb)))); repeat' (first | refine s_tp ?_ | refine s_tn ?_ | refine d_tp ?_ | refine d_tn ?_ | ((first | refine WOs_splitD (fun h => ?_) (fun h => ?_) | refine WOs_splitN (fun h => ?_) (fun h => ?_) | refine WDs_splitD (fun h => ?_) (fun h => ?_) | refine WDs_splitN (fun h => ?_) (fun h => ?_)) <;> first | (exfalso; omega) | skip) | (refine g_op ?_; first | (refine g_call ?_; refine g_args ?_; first | (refine s_fn (hr _) ?_ <;> try first | omega | assumption) | fail) | refine s_mv ?_ | refine s_as ?_ | refine s_bin ?_ | refine s_ld ?_ | refine s_ia ?_ | refine s_fa ?_ | refine s_fd ?_ | refine s_ix ?_ | refine s_un ?_ | refine s_op ?_) | refine WA_seq' ?_ | refine qT_WA ?_ | refine WA_region ?_ | (refine d_raw (id := 15) ?_; refine ⟨fun i => if i == 14 then .f else if i == 13 then .a else if i == 3 || i == 8 || i == 9 then .q else .p, [.one 0, .one 1, .one 2, .one 3, .one 4, .one 5, .one 6, .one 7, .one 8, .one 9, .one 10, .one 11, .one 12, .one 13, .one 14, .one 15], by kernel_rfl, ?_⟩) | (refine d_raw (id := 18) ?_; refine ⟨fun i => if i == 2 || i == 4 || i == 5 || i == 9 || i == 11 || i == 12 then .q else .p, [.one 0, .one 1, .one 2, .one 3, .one 4, .one 5, .one 6, .one 7, .one 8, .one 9, .one 10, .one 11, .one 12, .one 13, .one 14, .one 15], by kernel_rfl, ?_⟩) | refine WDs_nil ?_ | refine d_gPP cl_nil mkP mkP ?_ | refine d_gPc mkP ?_ | refine d_gPPc mkP mkP ?_ | refine grp_nil ?_ | (refine grp_cons (fun _ => hr _) ?_ <;> try first | omega | assumption) | refine d_gSS cl_nil mkS mkS ?_ | (refine g_d ?_; first | (refine d_args ?_; first | (refine d_fn (hr _) ?_ <;> try first | omega | assumption) | fail) | (refine d_fnY (hr _) ?_ <;> try first | omega | assumption) | refine d_op ?_ | refine d_yes ?_ | refine d_no ?_ | refine d_noU ?_) | refine WOs_nil ?_ | (refine g_c ?_; first | refine c_T ?_ | refine c_F ?_) | (refine g_gd ?_; first | refine s_yes ?_ | refine s_no ?_ | refine s_noU ?_) | refine WA_skip ?_ | refine WA_ret ?_ | refine WA_exit ?_ | refine qT_ret ?_ | refine qT_exit ?_ | refine qB_exit ?_ | refine qB_other rfl ?_ | refine qB_normal ?_ | refine qB_ret ?_ | refine WA_block ?_ | refine qT_WAn ?_ | refine WAn_step ?_ | refine qT_normal ?_))
  all_goals first | ((refine r_es hQ ?_; try with_reducible rfl); done) | skip
  all_goals
    obtain ⟨hl2, hl20, hall, hLO, hHI⟩ := hok (by omega)
    have hzl : (l.zip ts).length = l.length := by rw [List.length_zip]; omega
    have z1 := sumK_zero (f := flZ) (l := l.zip ts)
    have z2 := sumK_zero (f := chZ) (l := l.zip ts)
    have B1 := sumK_bd (f := flZ) (l := l.zip ts) (M := 400000000000) (by omega) (fun z hz => (fl_le (hall z hz)).2.2.1)
    have B2 := sumK_bd (f := chZ) (l := l.zip ts) (M := 400000000000) (by omega) (fun z hz => (fl_le (hall z hz)).2.2.2)
    have L1 := sumK_le (f := loZ) (g := flZ) (l := l.zip ts) (fun z hz => (fl_le (hall z hz)).1) l.length (by omega)
    have L2 := sumK_le (f := chZ) (g := hiZ) (l := l.zip ts) (fun z hz => (fl_le (hall z hz)).2.1) l.length (by omega)
    rw [← hLO] at L1
    rw [← hHI] at L2
    refine WA_whileT (σ := Nat) (L := lend m ++ [.dead, .cells .ro 50 5 (brsV l), .dead, .cells .ro 23 2 (ldsV ts)]) [0, 1, 5, 9, 10, 11] (fun i => [.v (.lst (brsV l)), .v (.lst (ldsV ts)), .ptr 0 0 0, .v (.int .i64 (sumK flZ (l.zip ts) i)), .v (.int .i64 (sumK chZ (l.zip ts) i)), .v (.int .i64 i)]) (fun i => [.cells .own 23 2 [[.v (.int .i64 LO), .v (.int .i64 HI)]], .cells .own 23 2 [[.v (.int .i64 LO), .v (.int .i64 HI)]]]) (fun i => i ≤ l.length) (fun i => l.length - i) 0 (Nat.zero_le _) ?_ ?_ (by decide) ?_ ?_ ?_
    · simp [tget, TV.inst, argT, z1, z2]
    · simp [TB.inst, TV.inst]
    · intro i _; simp [TV.okT]
    · intro i _; simp [TB.ok, TV.okT]
    rintro i hi1 B ⟨D, hB⟩ K hK
    simp only [List.map_cons, List.map_nil, TB.inst, TV.inst, tv_map, zipT, List.cons_append, List.nil_append, Nat.add_zero]
    have b1 := B1 i (by omega)
    have b2 := B2 i (by omega)
    rcases Nat.lt_or_ge i l.length with hi' | hi'
    · have hga := brsV_get hi'
      have hgb := ldsV_get (ls := ts) (i := i) (by omega)
      have hzg : (l.zip ts)[i]'(by omega) = (l[i], ts[i]'(by omega)) := zip_get hi' (by omega)
      have hz := hall _ (List.getElem_mem (by omega : i < (l.zip ts).length))
      have e1 : sumK flZ (l.zip ts) (i + 1) = sumK flZ (l.zip ts) i + flZ ((l.zip ts)[i]'(by omega)) := sumK_succ (by omega)
      have e2 : sumK chZ (l.zip ts) (i + 1) = sumK chZ (l.zip ts) i + chZ ((l.zip ts)[i]'(by omega)) := sumK_succ (by omega)
      have c1 := (fl_le hz).2.2.1
      have c2 := (fl_le hz).2.2.2
      rw [hzg] at e1 e2 hz c1 c2
      obtain ⟨⟨a, b, c, d, e⟩, hx⟩ : ∃ x, l[i] = x := ⟨_, rfl⟩
      obtain ⟨⟨u, v⟩, ht⟩ : ∃ x, ts[i]'(by omega) = x := ⟨_, rfl⟩
      rw [hx, ht] at e1 e2 hz c1 c2
      rw [hx] at hga
      rw [ht] at hgb
      dsimp only at hga hgb
      obtain ⟨hk, hu1, hu2, hu3⟩ := hz
      dsimp only at hk hu1 hu2 hu3
      obtain ⟨a1, a2, a3, a4, a5⟩ := stp_bd (x := ⟨a, b, c, d, e⟩) hk
      have hdb := fun m => downbearing_ok a b c d e u hk ⟨hu1, by omega⟩ m
      have hS : stp ⟨a, b, c, d, e⟩ = (b - a) * e + (b - c) * d := rfl
      have q1 : flZ (⟨a, b, c, d, e⟩, (u, v)) = (u * ((b - a) * e + (b - c) * d)) / (d * e) := rfl
      have q2 : chZ (⟨a, b, c, d, e⟩, (u, v)) = cdiv (u * ((b - a) * e + (b - c) * d)) (d * e) := rfl
      rw [q1] at e1 c1
      rw [q2] at e2 c2
      rw [hS] at a4 a5
      dsimp only at a1
      have b3 := mulT4 (x := u) (y := (b - a) * e + (b - c) * d) ⟨hu1, by omega⟩ ⟨a4, a5⟩
      have f1 := floor_low (N := u * ((b - a) * e + (b - c) * d)) a1.1
      have f2 := ceil_low (N := u * ((b - a) * e + (b - c) * d)) a1.1
      have f3 := low_den (N := u * ((b - a) * e + (b - c) * d)) a1.1
      have f4 := low_num (N := u * ((b - a) * e + (b - c) * d)) a1.1 b3
      rw [← f1] at e1 c1
      rw [← f2] at e2 c2
      generalize lowF (u * ((b - a) * e + (b - c) * d)) (d * e) = P at hdb e1 e2 c1 c2 f3 f4
      obtain ⟨P1, P2⟩ := P
      dsimp only at hdb e1 e2 c1 c2 f3 f4
      clear FX
      (have FX := And.intro hla (And.intro hlb (And.intro hala (And.intro halb (And.intro hga hgb)))); repeat' (first | refine s_tp ?_ | refine s_tn ?_ | refine d_tp ?_ | refine d_tn ?_ | ((first | refine WOs_splitD (fun h => ?_) (fun h => ?_) | refine WOs_splitN (fun h => ?_) (fun h => ?_) | refine WDs_splitD (fun h => ?_) (fun h => ?_) | refine WDs_splitN (fun h => ?_) (fun h => ?_)) <;> first | (exfalso; omega) | skip) | (refine g_op ?_; first | (refine g_call ?_; refine g_args ?_; first | (refine s_fn (hdb _) ?_ <;> try first | omega | assumption) | (refine s_fn (bfloor_c _ _ ?_ ?_ ?_ _) ?_ <;> try first | omega | assumption) | (refine s_fn (bceil_c _ _ ?_ ?_ ?_ _) ?_ <;> try first | omega | assumption) | fail) | refine s_mv ?_ | refine s_as ?_ | refine s_bin ?_ | refine s_ld ?_ | refine s_ia ?_ | refine s_fa ?_ | refine s_fd ?_ | refine s_ix ?_ | refine s_un ?_ | refine s_op ?_) | refine WA_seq' ?_ | refine qT_WA ?_ | refine WA_region ?_ | (refine d_raw (id := 15) ?_; refine ⟨fun i => if i == 14 then .f else if i == 13 then .a else if i == 3 || i == 8 || i == 9 then .q else .p, [.one 0, .one 1, .one 2, .one 3, .one 4, .one 5, .one 6, .one 7, .one 8, .one 9, .one 10, .one 11, .one 12, .one 13, .one 14, .one 15], by kernel_rfl, ?_⟩) | (refine d_raw (id := 18) ?_; refine ⟨fun i => if i == 2 || i == 4 || i == 5 || i == 9 || i == 11 || i == 12 then .q else .p, [.one 0, .one 1, .one 2, .one 3, .one 4, .one 5, .one 6, .one 7, .one 8, .one 9, .one 10, .one 11, .one 12, .one 13, .one 14, .one 15], by kernel_rfl, ?_⟩) | refine WDs_nil ?_ | refine d_gPP cl_nil mkP mkP ?_ | refine d_gPc mkP ?_ | refine d_gPPc mkP mkP ?_ | refine grp_nil ?_ | (refine grp_cons (fun _ => hdb _) ?_ <;> try first | omega | assumption) | (refine grp_cons (fun _ => bfloor_c _ _ ?_ ?_ ?_ _) ?_ <;> try first | omega | assumption) | (refine grp_cons (fun _ => bceil_c _ _ ?_ ?_ ?_ _) ?_ <;> try first | omega | assumption) | refine d_gSS cl_nil mkS mkS ?_ | (refine g_d ?_; first | (refine d_args ?_; first | (refine d_fn (hdb _) ?_ <;> try first | omega | assumption) | (refine d_fn (bfloor_c _ _ ?_ ?_ ?_ _) ?_ <;> try first | omega | assumption) | (refine d_fn (bceil_c _ _ ?_ ?_ ?_ _) ?_ <;> try first | omega | assumption) | fail) | (refine d_fnY (hdb _) ?_ <;> try first | omega | assumption) | (refine d_fnY (bfloor_c _ _ ?_ ?_ ?_ _) ?_ <;> try first | omega | assumption) | (refine d_fnY (bceil_c _ _ ?_ ?_ ?_ _) ?_ <;> try first | omega | assumption) | refine d_op ?_ | refine d_yes ?_ | refine d_no ?_ | refine d_noU ?_) | refine WOs_nil ?_ | (refine g_c ?_; first | refine c_T ?_ | refine c_F ?_) | (refine g_gd ?_; first | refine s_yes ?_ | refine s_no ?_ | refine s_noU ?_) | refine WA_skip ?_ | refine WA_ret ?_ | refine WA_exit ?_ | refine qT_ret ?_ | refine qT_exit ?_ | refine qB_exit ?_ | refine qB_other rfl ?_ | refine qB_normal ?_ | refine qB_ret ?_ | refine WA_block ?_ | refine qT_WAn ?_ | refine WAn_step ?_ | refine qT_normal ?_))
      all_goals (rw [← e1, ← e2]; refine nextU_ hK (i + 1) [0, 1] hi' (by omega) ?_; rfl)
    · have hie : i = l.length := by omega
      subst hie
      clear FX
      (have FX := And.intro hla (And.intro hlb (And.intro hala (And.intro halb (And.intro hga hgb)))); repeat' (first | refine s_tp ?_ | refine s_tn ?_ | refine d_tp ?_ | refine d_tn ?_ | ((first | refine WOs_splitD (fun h => ?_) (fun h => ?_) | refine WOs_splitN (fun h => ?_) (fun h => ?_) | refine WDs_splitD (fun h => ?_) (fun h => ?_) | refine WDs_splitN (fun h => ?_) (fun h => ?_)) <;> first | (exfalso; omega) | skip) | (refine g_op ?_; first | (refine g_call ?_; refine g_args ?_; first | (refine s_fn (hdb _) ?_ <;> try first | omega | assumption) | (refine s_fn (bfloor_c _ _ ?_ ?_ ?_ _) ?_ <;> try first | omega | assumption) | (refine s_fn (bceil_c _ _ ?_ ?_ ?_ _) ?_ <;> try first | omega | assumption) | fail) | refine s_mv ?_ | refine s_as ?_ | refine s_bin ?_ | refine s_ld ?_ | refine s_ia ?_ | refine s_fa ?_ | refine s_fd ?_ | refine s_ix ?_ | refine s_un ?_ | refine s_op ?_) | refine WA_seq' ?_ | refine qT_WA ?_ | refine WA_region ?_ | (refine d_raw (id := 15) ?_; refine ⟨fun i => if i == 14 then .f else if i == 13 then .a else if i == 3 || i == 8 || i == 9 then .q else .p, [.one 0, .one 1, .one 2, .one 3, .one 4, .one 5, .one 6, .one 7, .one 8, .one 9, .one 10, .one 11, .one 12, .one 13, .one 14, .one 15], by kernel_rfl, ?_⟩) | (refine d_raw (id := 18) ?_; refine ⟨fun i => if i == 2 || i == 4 || i == 5 || i == 9 || i == 11 || i == 12 then .q else .p, [.one 0, .one 1, .one 2, .one 3, .one 4, .one 5, .one 6, .one 7, .one 8, .one 9, .one 10, .one 11, .one 12, .one 13, .one 14, .one 15], by kernel_rfl, ?_⟩) | refine WDs_nil ?_ | refine d_gPP cl_nil mkP mkP ?_ | refine d_gPc mkP ?_ | refine d_gPPc mkP mkP ?_ | refine grp_nil ?_ | (refine grp_cons (fun _ => hdb _) ?_ <;> try first | omega | assumption) | (refine grp_cons (fun _ => bfloor_c _ _ ?_ ?_ ?_ _) ?_ <;> try first | omega | assumption) | (refine grp_cons (fun _ => bceil_c _ _ ?_ ?_ ?_ _) ?_ <;> try first | omega | assumption) | refine d_gSS cl_nil mkS mkS ?_ | (refine g_d ?_; first | (refine d_args ?_; first | (refine d_fn (hdb _) ?_ <;> try first | omega | assumption) | (refine d_fn (bfloor_c _ _ ?_ ?_ ?_ _) ?_ <;> try first | omega | assumption) | (refine d_fn (bceil_c _ _ ?_ ?_ ?_ _) ?_ <;> try first | omega | assumption) | fail) | (refine d_fnY (hdb _) ?_ <;> try first | omega | assumption) | (refine d_fnY (bfloor_c _ _ ?_ ?_ ?_ _) ?_ <;> try first | omega | assumption) | (refine d_fnY (bceil_c _ _ ?_ ?_ ?_ _) ?_ <;> try first | omega | assumption) | refine d_op ?_ | refine d_yes ?_ | refine d_no ?_ | refine d_noU ?_) | refine WOs_nil ?_ | (refine g_c ?_; first | refine c_T ?_ | refine c_F ?_) | (refine g_gd ?_; first | refine s_yes ?_ | refine s_no ?_ | refine s_noU ?_) | refine WA_skip ?_ | refine WA_ret ?_ | refine WA_exit ?_ | refine qT_ret ?_ | refine qT_exit ?_ | refine qB_exit ?_ | refine qB_other rfl ?_ | refine qB_normal ?_ | refine qB_ret ?_ | refine WA_block ?_ | refine qT_WAn ?_ | refine WAn_step ?_ | refine qT_normal ?_))
      all_goals (refine r_es hQ ?_; try with_reducible rfl)
theorem bridges_law (l : List Br) (ts : List (Int × Int)) (m : Mem) : Gives Try.prog 8 [.lst (brsV l), .lst (ldsV ts)] m (.bool true) := by
  by_cases h : (20 < l.length ∧ l.length ≤ 300) ∨ 305 < l.length ∨ 305 < ts.length
  · exact bridges_law1 l ts h m
  · exact bridges_law2 l ts h m
end Go.Proofs.Yteogokmbedmkjaa
