import Derived.Test.YteogokmbedmkjaaG31
namespace Go.Proofs.Yteogokmbedmkjaa
open Go.RowKit
attribute [local irreducible] WA WOs WDs WAn qThen qBlock tput
set_option maxHeartbeats 1000000
set_option maxRecDepth 20000
set_option linter.unusedSimpArgs false
set_option linter.unusedVariables false
theorem subBd {a u : Int} (h1 : -1000000 ≤ a ∧ a ≤ 1000000) (h2 : -1000000 ≤ u ∧ u ≤ 1000000) : -2000000 ≤ a - u ∧ a - u ≤ 2000000 := by omega
theorem mX_bd {v w : Int} {p : Pl} (hv : -1000000 ≤ v ∧ v ≤ 1000000) (hw : -1000000 ≤ w ∧ w ≤ 1000000) (hp : plOk p) : -4000000000000000 ≤ mX v w p ∧ mX v w p ≤ 4000000000000000 := by
  obtain ⟨⟨a1, a2, a3⟩, b1, b2, b3⟩ := hp
  have := mulF (subBd a2 hv) b3
  have := mulF (subBd a3 hw) b2
  unfold mX; omega
theorem mY_bd {u w : Int} {p : Pl} (hv : -1000000 ≤ u ∧ u ≤ 1000000) (hw : -1000000 ≤ w ∧ w ≤ 1000000) (hp : plOk p) : -4000000000000000 ≤ mY u w p ∧ mY u w p ≤ 4000000000000000 := by
  obtain ⟨⟨a1, a2, a3⟩, b1, b2, b3⟩ := hp
  have := mulF (subBd a3 hw) b1
  have := mulF (subBd a1 hv) b3
  unfold mY; omega
theorem mZ_bd {u v : Int} {p : Pl} (hv : -1000000 ≤ u ∧ u ≤ 1000000) (hw : -1000000 ≤ v ∧ v ≤ 1000000) (hp : plOk p) : -4000000000000000 ≤ mZ u v p ∧ mZ u v p ≤ 4000000000000000 := by
  obtain ⟨⟨a1, a2, a3⟩, b1, b2, b3⟩ := hp
  have := mulF (subBd a1 hv) b2
  have := mulF (subBd a2 hw) b1
  unfold mZ; omega
def SX (l : List Pl) : Int := sumK Pl.x l l.length
def SY (l : List Pl) : Int := sumK Pl.y l l.length
def SZ (l : List Pl) : Int := sumK Pl.z l l.length
def MX (v w : Int) (l : List Pl) : Int := sumK (mX v w) l l.length
def MY (u w : Int) (l : List Pl) : Int := sumK (mY u w) l l.length
def MZ (u v : Int) (l : List Pl) : Int := sumK (mZ u v) l l.length
theorem pmom_c (l : List Pl) (u v w : Int) (hl : l.length ≤ 300) (hok : ∀ p ∈ l, plOk p) (hu : Plc u v w) (m : Mem) : Gives Try.prog 100 [.lst (plsV l), .agg [.int .i64 (u), .int .i64 (v), .int .i64 (w)]] m (.agg [.int .i64 (MX v w l), .int .i64 (MY u w l), .int .i64 (MZ u v l)]) := by
  have hlen := plsV_length (l := l)
  have hget := hlen
  have hu' := hu
  obtain ⟨u1, u2, u3⟩ := hu'
  have z1 := sumK_zero (f := mX v w) (l := l)
  have z2 := sumK_zero (f := mY u w) (l := l)
  have z3 := sumK_zero (f := mZ u v) (l := l)
  have B1 := sumK_bd (f := mX v w) (l := l) (M := 4000000000000000) (by omega) (fun p hp => mX_bd u2 u3 (hok p hp))
  have B2 := sumK_bd (f := mY u w) (l := l) (M := 4000000000000000) (by omega) (fun p hp => mY_bd u1 u3 (hok p hp))
  have B3 := sumK_bd (f := mZ u v) (l := l) (M := 4000000000000000) (by omega) (fun p hp => mZ_bd u1 u2 (hok p hp))
  unfold MX MY MZ
  refine Gives_in Try.func100 rfl Try.ntmps100 Try.results100 (by kernel_rfl) (by simp) rfl fun Q hQ => ?_
  (have FX := And.intro hlen hget; repeat' (first | refine s_tp ?_ | refine s_tn ?_ | refine d_tp ?_ | refine d_tn ?_ | ((first | refine WOs_splitD (fun h => ?_) (fun h => ?_) | refine WOs_splitN (fun h => ?_) (fun h => ?_) | refine WDs_splitD (fun h => ?_) (fun h => ?_) | refine WDs_splitN (fun h => ?_) (fun h => ?_)) <;> first | (exfalso; omega) | skip) | (refine g_op ?_; first | (refine g_call ?_; refine g_args ?_; first | (refine s_fn (vdiff_c _ _ _ _ _ _ ?_ ?_ _) ?_ <;> try first | omega | assumption) | (refine s_fn (pcr_c _ _ _ _ _ _ ?_ ?_ _) ?_ <;> try first | omega | assumption) | (refine s_fn (vadd_c _ _ _ _ _ _ ?_ ?_ _) ?_ <;> try first | omega | assumption) | fail) | refine s_mv ?_ | refine s_as ?_ | refine s_bin ?_ | refine s_ld ?_ | refine s_ia ?_ | refine s_fa ?_ | refine s_fd ?_ | refine s_ix ?_ | refine s_un ?_ | refine s_op ?_) | refine WA_seq' ?_ | refine qT_WA ?_ | refine WA_region ?_ | (refine d_raw (id := 5) ?_; refine ⟨fun i => if i == 9 then .w else if i == 0 || i == 2 || i == 3 || i == 4 || i == 6 || i == 7 || i == 8 then .q else .p, [.one 0, .one 1, .one 2, .one 3, .one 4, .one 5, .one 6, .one 7, .one 8, .one 9], by kernel_rfl, ?_⟩) | refine WDs_nil ?_ | refine d_gPP cl_nil mkP mkP ?_ | refine d_gPc mkP ?_ | refine d_gPPc mkP mkP ?_ | refine grp_nil ?_ | (refine grp_cons (fun _ => vdiff_c _ _ _ _ _ _ ?_ ?_ _) ?_ <;> try first | omega | assumption) | (refine grp_cons (fun _ => pcr_c _ _ _ _ _ _ ?_ ?_ _) ?_ <;> try first | omega | assumption) | (refine grp_cons (fun _ => vadd_c _ _ _ _ _ _ ?_ ?_ _) ?_ <;> try first | omega | assumption) | refine d_gSS cl_nil mkS mkS ?_ | (refine g_d ?_; first | (refine d_args ?_; first | (refine d_fn (vdiff_c _ _ _ _ _ _ ?_ ?_ _) ?_ <;> try first | omega | assumption) | (refine d_fn (pcr_c _ _ _ _ _ _ ?_ ?_ _) ?_ <;> try first | omega | assumption) | (refine d_fn (vadd_c _ _ _ _ _ _ ?_ ?_ _) ?_ <;> try first | omega | assumption) | fail) | (refine d_fnY (vdiff_c _ _ _ _ _ _ ?_ ?_ _) ?_ <;> try first | omega | assumption) | (refine d_fnY (pcr_c _ _ _ _ _ _ ?_ ?_ _) ?_ <;> try first | omega | assumption) | (refine d_fnY (vadd_c _ _ _ _ _ _ ?_ ?_ _) ?_ <;> try first | omega | assumption) | refine d_op ?_ | refine d_yes ?_ | refine d_no ?_ | refine d_noU ?_) | refine WOs_nil ?_ | (refine g_c ?_; first | refine c_T ?_ | refine c_F ?_) | (refine g_gd ?_; first | refine s_yes ?_ | refine s_no ?_ | refine s_noU ?_) | refine WA_skip ?_ | refine WA_ret ?_ | refine WA_exit ?_ | refine qT_ret ?_ | refine qT_exit ?_ | refine qB_exit ?_ | refine qB_other rfl ?_ | refine qB_normal ?_ | refine qB_ret ?_ | refine WA_block ?_ | refine qT_WAn ?_ | refine WAn_step ?_ | refine qT_normal ?_))
  refine WA_whileL (σ := Nat) (L := m) [3, 4, 5, 8, 9, 10] (fun i => [.ptr (lend m).length 0 0, .ptr ((lend m).length + 1) 0 0, .ptr ((lend m).length + 2) 0 0, .lst (plsV l), .int .i64 l.length, .int .i64 i]) (fun i => [.cells .own 121 3 [[.int .i64 u, .int .i64 v, .int .i64 w]], .cells .own 121 3 [[.int .i64 0, .int .i64 0, .int .i64 0]], .cells .own 121 3 [[.int .i64 (sumK (mX v w) l i), .int .i64 (sumK (mY u w) l i), .int .i64 (sumK (mZ u v) l i)]]]) 3 (fun i => i ≤ l.length) (fun i => l.length - i) 0 (Nat.zero_le _) tv_ (by rw [z1, z2, z3]) (fun _ => rfl) ?_ (fun _ => rfl) ?_
  · intro s v hv
    simp only [List.mem_cons, List.not_mem_nil, or_false] at hv
    rcases hv with rfl | rfl | rfl | rfl | rfl | rfl
    all_goals first | rfl | exact plsV_plain l | (simp [V.keeps]; done)
  intro i hi1 K2 hL
  have b1 := B1 i hi1
  have b2 := B2 i hi1
  have b3 := B3 i hi1
  rcases Nat.lt_or_ge i l.length with hi' | hi'
  · have hget := plsV_get hi'
    obtain ⟨hp1, hp2⟩ := hok _ (List.getElem_mem hi')
    have hp1' := hp1
    obtain ⟨q1, q2, q3⟩ := hp1'
    have d1 := subBd q1 u1
    have d2 := subBd q2 u2
    have d3 := subBd q3 u3
    have e1 : sumK (mX v w) l (i + 1) = sumK (mX v w) l i + ((l[i].b - v) * l[i].z - (l[i].c - w) * l[i].y) := sumK_succ hi'
    have e2 : sumK (mY u w) l (i + 1) = sumK (mY u w) l i + ((l[i].c - w) * l[i].x - (l[i].a - u) * l[i].z) := sumK_succ hi'
    have e3 : sumK (mZ u v) l (i + 1) = sumK (mZ u v) l i + ((l[i].a - u) * l[i].y - (l[i].b - v) * l[i].x) := sumK_succ hi'
    have s0 : Sml 2000000 (l[i].a - u) (l[i].b - v) (l[i].c - w) := ⟨d1, d2, d3⟩
    have s1 : Sml 4000000000000000000 (sumK (mX v w) l i) (sumK (mY u w) l i) (sumK (mZ u v) l i) := by unfold Sml; omega
    have m1 := mX_bd u2 u3 (hok _ (List.getElem_mem hi'))
    have m2 := mY_bd u1 u3 (hok _ (List.getElem_mem hi'))
    have m3 := mZ_bd u1 u2 (hok _ (List.getElem_mem hi'))
    unfold mX at m1
    unfold mY at m2
    unfold mZ at m3
    have s2 : Sml 4000000000000000000 ((l[i].b - v) * l[i].z - (l[i].c - w) * l[i].y) ((l[i].c - w) * l[i].x - (l[i].a - u) * l[i].z) ((l[i].a - u) * l[i].y - (l[i].b - v) * l[i].x) := by unfold Sml; omega
    simp only [zipT]
    clear FX
    (have FX := And.intro hlen hget; repeat' (first | refine s_tp ?_ | refine s_tn ?_ | refine d_tp ?_ | refine d_tn ?_ | ((first | refine WOs_splitD (fun h => ?_) (fun h => ?_) | refine WOs_splitN (fun h => ?_) (fun h => ?_) | refine WDs_splitD (fun h => ?_) (fun h => ?_) | refine WDs_splitN (fun h => ?_) (fun h => ?_)) <;> first | (exfalso; omega) | skip) | (refine g_op ?_; first | (refine g_call ?_; refine g_args ?_; first | (refine s_fn (vdiff_c _ _ _ _ _ _ ?_ ?_ _) ?_ <;> try first | omega | assumption) | (refine s_fn (pcr_c _ _ _ _ _ _ ?_ ?_ _) ?_ <;> try first | omega | assumption) | (refine s_fn (vadd_c _ _ _ _ _ _ ?_ ?_ _) ?_ <;> try first | omega | assumption) | fail) | refine s_mv ?_ | refine s_as ?_ | refine s_bin ?_ | refine s_ld ?_ | refine s_ia ?_ | refine s_fa ?_ | refine s_fd ?_ | refine s_ix ?_ | refine s_un ?_ | refine s_op ?_) | refine WA_seq' ?_ | refine qT_WA ?_ | refine WA_region ?_ | (refine d_raw (id := 5) ?_; refine ⟨fun i => if i == 9 then .w else if i == 0 || i == 2 || i == 3 || i == 4 || i == 6 || i == 7 || i == 8 then .q else .p, [.one 0, .one 1, .one 2, .one 3, .one 4, .one 5, .one 6, .one 7, .one 8, .one 9], by kernel_rfl, ?_⟩) | refine WDs_nil ?_ | refine d_gPP cl_nil mkP mkP ?_ | refine d_gPc mkP ?_ | refine d_gPPc mkP mkP ?_ | refine grp_nil ?_ | (refine grp_cons (fun _ => vdiff_c _ _ _ _ _ _ ?_ ?_ _) ?_ <;> try first | omega | assumption) | (refine grp_cons (fun _ => pcr_c _ _ _ _ _ _ ?_ ?_ _) ?_ <;> try first | omega | assumption) | (refine grp_cons (fun _ => vadd_c _ _ _ _ _ _ ?_ ?_ _) ?_ <;> try first | omega | assumption) | refine d_gSS cl_nil mkS mkS ?_ | (refine g_d ?_; first | (refine d_args ?_; first | (refine d_fn (vdiff_c _ _ _ _ _ _ ?_ ?_ _) ?_ <;> try first | omega | assumption) | (refine d_fn (pcr_c _ _ _ _ _ _ ?_ ?_ _) ?_ <;> try first | omega | assumption) | (refine d_fn (vadd_c _ _ _ _ _ _ ?_ ?_ _) ?_ <;> try first | omega | assumption) | fail) | (refine d_fnY (vdiff_c _ _ _ _ _ _ ?_ ?_ _) ?_ <;> try first | omega | assumption) | (refine d_fnY (pcr_c _ _ _ _ _ _ ?_ ?_ _) ?_ <;> try first | omega | assumption) | (refine d_fnY (vadd_c _ _ _ _ _ _ ?_ ?_ _) ?_ <;> try first | omega | assumption) | refine d_op ?_ | refine d_yes ?_ | refine d_no ?_ | refine d_noU ?_) | refine WOs_nil ?_ | (refine g_c ?_; first | refine c_T ?_ | refine c_F ?_) | (refine g_gd ?_; first | refine s_yes ?_ | refine s_no ?_ | refine s_noU ?_) | refine WA_skip ?_ | refine WA_ret ?_ | refine WA_exit ?_ | refine qT_ret ?_ | refine qT_exit ?_ | refine qB_exit ?_ | refine qB_other rfl ?_ | refine qB_normal ?_ | refine qB_ret ?_ | refine WA_block ?_ | refine qT_WAn ?_ | refine WAn_step ?_ | refine qT_normal ?_))
    all_goals (rw [← e1, ← e2, ← e3]; refine nextL_ hL (i + 1) hi' (by omega))
  · have e : i = l.length := by omega
    subst e
    simp only [zipT]
    clear FX
    (have FX := And.intro hlen hget; repeat' (first | refine s_tp ?_ | refine s_tn ?_ | refine d_tp ?_ | refine d_tn ?_ | ((first | refine WOs_splitD (fun h => ?_) (fun h => ?_) | refine WOs_splitN (fun h => ?_) (fun h => ?_) | refine WDs_splitD (fun h => ?_) (fun h => ?_) | refine WDs_splitN (fun h => ?_) (fun h => ?_)) <;> first | (exfalso; omega) | skip) | (refine g_op ?_; first | (refine g_call ?_; refine g_args ?_; first | (refine s_fn (vdiff_c _ _ _ _ _ _ ?_ ?_ _) ?_ <;> try first | omega | assumption) | (refine s_fn (pcr_c _ _ _ _ _ _ ?_ ?_ _) ?_ <;> try first | omega | assumption) | (refine s_fn (vadd_c _ _ _ _ _ _ ?_ ?_ _) ?_ <;> try first | omega | assumption) | fail) | refine s_mv ?_ | refine s_as ?_ | refine s_bin ?_ | refine s_ld ?_ | refine s_ia ?_ | refine s_fa ?_ | refine s_fd ?_ | refine s_ix ?_ | refine s_un ?_ | refine s_op ?_) | refine WA_seq' ?_ | refine qT_WA ?_ | refine WA_region ?_ | (refine d_raw (id := 5) ?_; refine ⟨fun i => if i == 9 then .w else if i == 0 || i == 2 || i == 3 || i == 4 || i == 6 || i == 7 || i == 8 then .q else .p, [.one 0, .one 1, .one 2, .one 3, .one 4, .one 5, .one 6, .one 7, .one 8, .one 9], by kernel_rfl, ?_⟩) | refine WDs_nil ?_ | refine d_gPP cl_nil mkP mkP ?_ | refine d_gPc mkP ?_ | refine d_gPPc mkP mkP ?_ | refine grp_nil ?_ | (refine grp_cons (fun _ => vdiff_c _ _ _ _ _ _ ?_ ?_ _) ?_ <;> try first | omega | assumption) | (refine grp_cons (fun _ => pcr_c _ _ _ _ _ _ ?_ ?_ _) ?_ <;> try first | omega | assumption) | (refine grp_cons (fun _ => vadd_c _ _ _ _ _ _ ?_ ?_ _) ?_ <;> try first | omega | assumption) | refine d_gSS cl_nil mkS mkS ?_ | (refine g_d ?_; first | (refine d_args ?_; first | (refine d_fn (vdiff_c _ _ _ _ _ _ ?_ ?_ _) ?_ <;> try first | omega | assumption) | (refine d_fn (pcr_c _ _ _ _ _ _ ?_ ?_ _) ?_ <;> try first | omega | assumption) | (refine d_fn (vadd_c _ _ _ _ _ _ ?_ ?_ _) ?_ <;> try first | omega | assumption) | fail) | (refine d_fnY (vdiff_c _ _ _ _ _ _ ?_ ?_ _) ?_ <;> try first | omega | assumption) | (refine d_fnY (pcr_c _ _ _ _ _ _ ?_ ?_ _) ?_ <;> try first | omega | assumption) | (refine d_fnY (vadd_c _ _ _ _ _ _ ?_ ?_ _) ?_ <;> try first | omega | assumption) | refine d_op ?_ | refine d_yes ?_ | refine d_no ?_ | refine d_noU ?_) | refine WOs_nil ?_ | (refine g_c ?_; first | refine c_T ?_ | refine c_F ?_) | (refine g_gd ?_; first | refine s_yes ?_ | refine s_no ?_ | refine s_noU ?_) | refine WA_skip ?_ | refine WA_ret ?_ | refine WA_exit ?_ | refine qT_ret ?_ | refine qT_exit ?_ | refine qB_exit ?_ | refine qB_other rfl ?_ | refine qB_normal ?_ | refine qB_ret ?_ | refine WA_block ?_ | refine qT_WAn ?_ | refine WAn_step ?_ | refine qT_normal ?_))
    all_goals (refine r_es hQ ?_; try with_reducible rfl)
theorem rsum_c (l : List Pl) (hl : l.length ≤ 300) (hok : ∀ p ∈ l, plOk p) (m : Mem) : Gives Try.prog 55 [.lst (plsV l)] m (.agg [.int .i64 (SX l), .int .i64 (SY l), .int .i64 (SZ l)]) := by
  have hlen := plsV_length (l := l)
  have hget := hlen
  have z1 := sumK_zero (f := Pl.x) (l := l)
  have z2 := sumK_zero (f := Pl.y) (l := l)
  have z3 := sumK_zero (f := Pl.z) (l := l)
  have B1 := sumK_bd (f := Pl.x) (l := l) (M := 1000000000) (by omega) (fun p hp => by have := hok p hp; unfold plOk Bil at this; omega)
  have B2 := sumK_bd (f := Pl.y) (l := l) (M := 1000000000) (by omega) (fun p hp => by have := hok p hp; unfold plOk Bil at this; omega)
  have B3 := sumK_bd (f := Pl.z) (l := l) (M := 1000000000) (by omega) (fun p hp => by have := hok p hp; unfold plOk Bil at this; omega)
  unfold SX SY SZ
  refine Gives_in Try.func55 rfl Try.ntmps55 Try.results55 (by kernel_rfl) (by simp) rfl fun Q hQ => ?_
  (have FX := And.intro hlen hget; repeat' (first | refine s_tp ?_ | refine s_tn ?_ | refine d_tp ?_ | refine d_tn ?_ | ((first | refine WOs_splitD (fun h => ?_) (fun h => ?_) | refine WOs_splitN (fun h => ?_) (fun h => ?_) | refine WDs_splitD (fun h => ?_) (fun h => ?_) | refine WDs_splitN (fun h => ?_) (fun h => ?_)) <;> first | (exfalso; omega) | skip) | (refine g_op ?_; first | (refine g_call ?_; refine g_args ?_; first | (refine s_fn (radd_c _ _ _ _ _ _ ?_ ?_ _) ?_ <;> try first | omega | assumption) | fail) | refine s_mv ?_ | refine s_as ?_ | refine s_bin ?_ | refine s_ld ?_ | refine s_ia ?_ | refine s_fa ?_ | refine s_fd ?_ | refine s_ix ?_ | refine s_un ?_ | refine s_op ?_) | refine WA_seq' ?_ | refine qT_WA ?_ | refine WA_region ?_ | (refine d_raw (id := 5) ?_; refine ⟨fun i => if i == 7 then .w else if i == 0 || i == 5 || i == 6 then .q else .p, [.one 0, .one 1, .one 2, .one 3, .one 4, .one 5, .one 6, .one 7], by kernel_rfl, ?_⟩) | refine WDs_nil ?_ | refine d_gPP cl_nil mkP mkP ?_ | refine d_gPc mkP ?_ | refine d_gPPc mkP mkP ?_ | refine grp_nil ?_ | (refine grp_cons (fun _ => radd_c _ _ _ _ _ _ ?_ ?_ _) ?_ <;> try first | omega | assumption) | refine d_gSS cl_nil mkS mkS ?_ | (refine g_d ?_; first | (refine d_args ?_; first | (refine d_fn (radd_c _ _ _ _ _ _ ?_ ?_ _) ?_ <;> try first | omega | assumption) | fail) | (refine d_fnY (radd_c _ _ _ _ _ _ ?_ ?_ _) ?_ <;> try first | omega | assumption) | refine d_op ?_ | refine d_yes ?_ | refine d_no ?_ | refine d_noU ?_) | refine WOs_nil ?_ | (refine g_c ?_; first | refine c_T ?_ | refine c_F ?_) | (refine g_gd ?_; first | refine s_yes ?_ | refine s_no ?_ | refine s_noU ?_) | refine WA_skip ?_ | refine WA_ret ?_ | refine WA_exit ?_ | refine qT_ret ?_ | refine qT_exit ?_ | refine qB_exit ?_ | refine qB_other rfl ?_ | refine qB_normal ?_ | refine qB_ret ?_ | refine WA_block ?_ | refine qT_WAn ?_ | refine WAn_step ?_ | refine qT_normal ?_))
  refine WA_while (σ := Nat) [0, 2, 3, 4] (fun i => [.lst (plsV l), .ptr (lend m).length 0 0, .ptr ((lend m).length + 1) 0 0, .int .i64 i]) (fun i => lend m ++ [.cells .own 24 3 [[.int .i64 0, .int .i64 0, .int .i64 0]], .cells .own 24 3 [[.int .i64 (sumK Pl.x l i), .int .i64 (sumK Pl.y l i), .int .i64 (sumK Pl.z l i)]]]) (fun i => i ≤ l.length) (fun i => l.length - i) 0 (Nat.zero_le _) tv_ (by rw [z1, z2, z3]) ?_
  intro i hi1 K2 hL
  have b1 := B1 i hi1
  have b2 := B2 i hi1
  have b3 := B3 i hi1
  rcases Nat.lt_or_ge i l.length with hi' | hi'
  · have hget := plsV_get hi'
    have hp := hok _ (List.getElem_mem hi')
    have e1 := sumK_succ (f := Pl.x) hi'
    have e2 := sumK_succ (f := Pl.y) hi'
    have e3 := sumK_succ (f := Pl.z) hi'
    have s1 : Sml 4000000000000000000 (sumK Pl.x l i) (sumK Pl.y l i) (sumK Pl.z l i) := by unfold Sml; omega
    have s2 : Sml 4000000000000000000 l[i].x l[i].y l[i].z := by unfold plOk Bil at hp; unfold Sml; omega
    simp only [zipT]
    clear FX
    (have FX := And.intro hlen hget; repeat' (first | refine s_tp ?_ | refine s_tn ?_ | refine d_tp ?_ | refine d_tn ?_ | ((first | refine WOs_splitD (fun h => ?_) (fun h => ?_) | refine WOs_splitN (fun h => ?_) (fun h => ?_) | refine WDs_splitD (fun h => ?_) (fun h => ?_) | refine WDs_splitN (fun h => ?_) (fun h => ?_)) <;> first | (exfalso; omega) | skip) | (refine g_op ?_; first | (refine g_call ?_; refine g_args ?_; first | (refine s_fn (radd_c _ _ _ _ _ _ ?_ ?_ _) ?_ <;> try first | omega | assumption) | fail) | refine s_mv ?_ | refine s_as ?_ | refine s_bin ?_ | refine s_ld ?_ | refine s_ia ?_ | refine s_fa ?_ | refine s_fd ?_ | refine s_ix ?_ | refine s_un ?_ | refine s_op ?_) | refine WA_seq' ?_ | refine qT_WA ?_ | refine WA_region ?_ | (refine d_raw (id := 5) ?_; refine ⟨fun i => if i == 7 then .w else if i == 0 || i == 5 || i == 6 then .q else .p, [.one 0, .one 1, .one 2, .one 3, .one 4, .one 5, .one 6, .one 7], by kernel_rfl, ?_⟩) | refine WDs_nil ?_ | refine d_gPP cl_nil mkP mkP ?_ | refine d_gPc mkP ?_ | refine d_gPPc mkP mkP ?_ | refine grp_nil ?_ | (refine grp_cons (fun _ => radd_c _ _ _ _ _ _ ?_ ?_ _) ?_ <;> try first | omega | assumption) | refine d_gSS cl_nil mkS mkS ?_ | (refine g_d ?_; first | (refine d_args ?_; first | (refine d_fn (radd_c _ _ _ _ _ _ ?_ ?_ _) ?_ <;> try first | omega | assumption) | fail) | (refine d_fnY (radd_c _ _ _ _ _ _ ?_ ?_ _) ?_ <;> try first | omega | assumption) | refine d_op ?_ | refine d_yes ?_ | refine d_no ?_ | refine d_noU ?_) | refine WOs_nil ?_ | (refine g_c ?_; first | refine c_T ?_ | refine c_F ?_) | (refine g_gd ?_; first | refine s_yes ?_ | refine s_no ?_ | refine s_noU ?_) | refine WA_skip ?_ | refine WA_ret ?_ | refine WA_exit ?_ | refine qT_ret ?_ | refine qT_exit ?_ | refine qB_exit ?_ | refine qB_other rfl ?_ | refine qB_normal ?_ | refine qB_ret ?_ | refine WA_block ?_ | refine qT_WAn ?_ | refine WAn_step ?_ | refine qT_normal ?_))
    all_goals (rw [← e1, ← e2, ← e3]; refine next_ hL (i + 1) hi' (by omega))
  · have e : i = l.length := by omega
    subst e
    simp only [zipT]
    clear FX
    (have FX := And.intro hlen hget; repeat' (first | refine s_tp ?_ | refine s_tn ?_ | refine d_tp ?_ | refine d_tn ?_ | ((first | refine WOs_splitD (fun h => ?_) (fun h => ?_) | refine WOs_splitN (fun h => ?_) (fun h => ?_) | refine WDs_splitD (fun h => ?_) (fun h => ?_) | refine WDs_splitN (fun h => ?_) (fun h => ?_)) <;> first | (exfalso; omega) | skip) | (refine g_op ?_; first | (refine g_call ?_; refine g_args ?_; first | (refine s_fn (radd_c _ _ _ _ _ _ ?_ ?_ _) ?_ <;> try first | omega | assumption) | fail) | refine s_mv ?_ | refine s_as ?_ | refine s_bin ?_ | refine s_ld ?_ | refine s_ia ?_ | refine s_fa ?_ | refine s_fd ?_ | refine s_ix ?_ | refine s_un ?_ | refine s_op ?_) | refine WA_seq' ?_ | refine qT_WA ?_ | refine WA_region ?_ | (refine d_raw (id := 5) ?_; refine ⟨fun i => if i == 7 then .w else if i == 0 || i == 5 || i == 6 then .q else .p, [.one 0, .one 1, .one 2, .one 3, .one 4, .one 5, .one 6, .one 7], by kernel_rfl, ?_⟩) | refine WDs_nil ?_ | refine d_gPP cl_nil mkP mkP ?_ | refine d_gPc mkP ?_ | refine d_gPPc mkP mkP ?_ | refine grp_nil ?_ | (refine grp_cons (fun _ => radd_c _ _ _ _ _ _ ?_ ?_ _) ?_ <;> try first | omega | assumption) | refine d_gSS cl_nil mkS mkS ?_ | (refine g_d ?_; first | (refine d_args ?_; first | (refine d_fn (radd_c _ _ _ _ _ _ ?_ ?_ _) ?_ <;> try first | omega | assumption) | fail) | (refine d_fnY (radd_c _ _ _ _ _ _ ?_ ?_ _) ?_ <;> try first | omega | assumption) | refine d_op ?_ | refine d_yes ?_ | refine d_no ?_ | refine d_noU ?_) | refine WOs_nil ?_ | (refine g_c ?_; first | refine c_T ?_ | refine c_F ?_) | (refine g_gd ?_; first | refine s_yes ?_ | refine s_no ?_ | refine s_noU ?_) | refine WA_skip ?_ | refine WA_ret ?_ | refine WA_exit ?_ | refine qT_ret ?_ | refine qT_exit ?_ | refine qB_exit ?_ | refine qB_other rfl ?_ | refine qB_normal ?_ | refine qB_ret ?_ | refine WA_block ?_ | refine qT_WAn ?_ | refine WAn_step ?_ | refine qT_normal ?_))
    all_goals (refine r_es hQ ?_; try with_reducible rfl)
theorem rmom_c (l : List Pl) (u v w : Int) (hl : l.length ≤ 300) (hok : ∀ p ∈ l, plOk p) (hu : Plc u v w) (m : Mem) : Gives Try.prog 60 [.lst (plsV l), .agg [.int .i64 (u), .int .i64 (v), .int .i64 (w)]] m (.agg [.int .i64 (MX v w l), .int .i64 (MY u w l), .int .i64 (MZ u v l)]) := by
  have hlen := plsV_length (l := l)
  have hget := hlen
  have hu' := hu
  obtain ⟨u1, u2, u3⟩ := hu'
  have z1 := sumK_zero (f := mX v w) (l := l)
  have z2 := sumK_zero (f := mY u w) (l := l)
  have z3 := sumK_zero (f := mZ u v) (l := l)
  have B1 := sumK_bd (f := mX v w) (l := l) (M := 4000000000000000) (by omega) (fun p hp => mX_bd u2 u3 (hok p hp))
  have B2 := sumK_bd (f := mY u w) (l := l) (M := 4000000000000000) (by omega) (fun p hp => mY_bd u1 u3 (hok p hp))
  have B3 := sumK_bd (f := mZ u v) (l := l) (M := 4000000000000000) (by omega) (fun p hp => mZ_bd u1 u2 (hok p hp))
  unfold MX MY MZ
  refine Gives_in Try.func60 rfl Try.ntmps60 Try.results60 (by kernel_rfl) (by simp) rfl fun Q hQ => ?_
  (have FX := And.intro hlen hget; repeat' (first | refine s_tp ?_ | refine s_tn ?_ | refine d_tp ?_ | refine d_tn ?_ | ((first | refine WOs_splitD (fun h => ?_) (fun h => ?_) | refine WOs_splitN (fun h => ?_) (fun h => ?_) | refine WDs_splitD (fun h => ?_) (fun h => ?_) | refine WDs_splitN (fun h => ?_) (fun h => ?_)) <;> first | (exfalso; omega) | skip) | (refine g_op ?_; first | (refine g_call ?_; refine g_args ?_; first | (refine s_fn (rsub_c _ _ _ _ _ _ ?_ ?_ _) ?_ <;> try first | omega | assumption) | (refine s_fn (rcr_c _ _ _ _ _ _ ?_ ?_ _) ?_ <;> try first | omega | assumption) | (refine s_fn (radd_c _ _ _ _ _ _ ?_ ?_ _) ?_ <;> try first | omega | assumption) | fail) | refine s_mv ?_ | refine s_as ?_ | refine s_bin ?_ | refine s_ld ?_ | refine s_ia ?_ | refine s_fa ?_ | refine s_fd ?_ | refine s_ix ?_ | refine s_un ?_ | refine s_op ?_) | refine WA_seq' ?_ | refine qT_WA ?_ | refine WA_region ?_ | (refine d_raw (id := 5) ?_; refine ⟨fun i => if i == 15 then .w else if i == 0 || i == 5 || i == 6 || i == 7 || i == 12 || i == 13 || i == 14 then .q else .p, [.one 0, .one 1, .one 2, .one 3, .one 4, .one 5, .one 6, .one 7, .one 8, .one 9, .one 10, .one 11, .one 12, .one 13, .one 14, .one 15], by kernel_rfl, ?_⟩) | refine WDs_nil ?_ | refine d_gPP cl_nil mkP mkP ?_ | refine d_gPc mkP ?_ | refine d_gPPc mkP mkP ?_ | refine grp_nil ?_ | (refine grp_cons (fun _ => rsub_c _ _ _ _ _ _ ?_ ?_ _) ?_ <;> try first | omega | assumption) | (refine grp_cons (fun _ => rcr_c _ _ _ _ _ _ ?_ ?_ _) ?_ <;> try first | omega | assumption) | (refine grp_cons (fun _ => radd_c _ _ _ _ _ _ ?_ ?_ _) ?_ <;> try first | omega | assumption) | refine d_gSS cl_nil mkS mkS ?_ | (refine g_d ?_; first | (refine d_args ?_; first | (refine d_fn (rsub_c _ _ _ _ _ _ ?_ ?_ _) ?_ <;> try first | omega | assumption) | (refine d_fn (rcr_c _ _ _ _ _ _ ?_ ?_ _) ?_ <;> try first | omega | assumption) | (refine d_fn (radd_c _ _ _ _ _ _ ?_ ?_ _) ?_ <;> try first | omega | assumption) | fail) | (refine d_fnY (rsub_c _ _ _ _ _ _ ?_ ?_ _) ?_ <;> try first | omega | assumption) | (refine d_fnY (rcr_c _ _ _ _ _ _ ?_ ?_ _) ?_ <;> try first | omega | assumption) | (refine d_fnY (radd_c _ _ _ _ _ _ ?_ ?_ _) ?_ <;> try first | omega | assumption) | refine d_op ?_ | refine d_yes ?_ | refine d_no ?_ | refine d_noU ?_) | refine WOs_nil ?_ | (refine g_c ?_; first | refine c_T ?_ | refine c_F ?_) | (refine g_gd ?_; first | refine s_yes ?_ | refine s_no ?_ | refine s_noU ?_) | refine WA_skip ?_ | refine WA_ret ?_ | refine WA_exit ?_ | refine qT_ret ?_ | refine qT_exit ?_ | refine qB_exit ?_ | refine qB_other rfl ?_ | refine qB_normal ?_ | refine qB_ret ?_ | refine WA_block ?_ | refine qT_WAn ?_ | refine WAn_step ?_ | refine qT_normal ?_))
  refine WA_while (σ := Nat) [0, 3, 4, 5, 6] (fun i => [.lst (plsV l), .ptr (lend m).length 0 0, .ptr ((lend m).length + 1) 0 0, .ptr ((lend m).length + 2) 0 0, .int .i64 i]) (fun i => lend m ++ [.cells .own 24 3 [[.int .i64 u, .int .i64 v, .int .i64 w]], .cells .own 24 3 [[.int .i64 0, .int .i64 0, .int .i64 0]], .cells .own 24 3 [[.int .i64 (sumK (mX v w) l i), .int .i64 (sumK (mY u w) l i), .int .i64 (sumK (mZ u v) l i)]]]) (fun i => i ≤ l.length) (fun i => l.length - i) 0 (Nat.zero_le _) tv_ (by rw [z1, z2, z3]) ?_
  intro i hi1 K2 hL
  have b1 := B1 i hi1
  have b2 := B2 i hi1
  have b3 := B3 i hi1
  rcases Nat.lt_or_ge i l.length with hi' | hi'
  · have hget := plsV_get hi'
    obtain ⟨hp1, hp2⟩ := hok _ (List.getElem_mem hi')
    have hp1' := hp1
    obtain ⟨q1, q2, q3⟩ := hp1'
    have d1 := subBd q1 u1
    have d2 := subBd q2 u2
    have d3 := subBd q3 u3
    have e1 : sumK (mX v w) l (i + 1) = sumK (mX v w) l i + ((l[i].b - v) * l[i].z - (l[i].c - w) * l[i].y) := sumK_succ hi'
    have e2 : sumK (mY u w) l (i + 1) = sumK (mY u w) l i + ((l[i].c - w) * l[i].x - (l[i].a - u) * l[i].z) := sumK_succ hi'
    have e3 : sumK (mZ u v) l (i + 1) = sumK (mZ u v) l i + ((l[i].a - u) * l[i].y - (l[i].b - v) * l[i].x) := sumK_succ hi'
    have s0 : Sml 2000000 (l[i].a - u) (l[i].b - v) (l[i].c - w) := ⟨d1, d2, d3⟩
    have t0 : Sml 4000000000000000000 l[i].a l[i].b l[i].c := by unfold Sml; omega
    have t1 : Sml 4000000000000000000 u v w := by unfold Sml; omega
    have s1 : Sml 4000000000000000000 (sumK (mX v w) l i) (sumK (mY u w) l i) (sumK (mZ u v) l i) := by unfold Sml; omega
    have m1 := mX_bd u2 u3 (hok _ (List.getElem_mem hi'))
    have m2 := mY_bd u1 u3 (hok _ (List.getElem_mem hi'))
    have m3 := mZ_bd u1 u2 (hok _ (List.getElem_mem hi'))
    unfold mX at m1
    unfold mY at m2
    unfold mZ at m3
    have s2 : Sml 4000000000000000000 ((l[i].b - v) * l[i].z - (l[i].c - w) * l[i].y) ((l[i].c - w) * l[i].x - (l[i].a - u) * l[i].z) ((l[i].a - u) * l[i].y - (l[i].b - v) * l[i].x) := by unfold Sml; omega
    simp only [zipT]
    clear FX
    (have FX := And.intro hlen hget; repeat' (first | refine s_tp ?_ | refine s_tn ?_ | refine d_tp ?_ | refine d_tn ?_ | ((first | refine WOs_splitD (fun h => ?_) (fun h => ?_) | refine WOs_splitN (fun h => ?_) (fun h => ?_) | refine WDs_splitD (fun h => ?_) (fun h => ?_) | refine WDs_splitN (fun h => ?_) (fun h => ?_)) <;> first | (exfalso; omega) | skip) | (refine g_op ?_; first | (refine g_call ?_; refine g_args ?_; first | (refine s_fn (rsub_c _ _ _ _ _ _ ?_ ?_ _) ?_ <;> try first | omega | assumption) | (refine s_fn (rcr_c _ _ _ _ _ _ ?_ ?_ _) ?_ <;> try first | omega | assumption) | (refine s_fn (radd_c _ _ _ _ _ _ ?_ ?_ _) ?_ <;> try first | omega | assumption) | fail) | refine s_mv ?_ | refine s_as ?_ | refine s_bin ?_ | refine s_ld ?_ | refine s_ia ?_ | refine s_fa ?_ | refine s_fd ?_ | refine s_ix ?_ | refine s_un ?_ | refine s_op ?_) | refine WA_seq' ?_ | refine qT_WA ?_ | refine WA_region ?_ | (refine d_raw (id := 5) ?_; refine ⟨fun i => if i == 15 then .w else if i == 0 || i == 5 || i == 6 || i == 7 || i == 12 || i == 13 || i == 14 then .q else .p, [.one 0, .one 1, .one 2, .one 3, .one 4, .one 5, .one 6, .one 7, .one 8, .one 9, .one 10, .one 11, .one 12, .one 13, .one 14, .one 15], by kernel_rfl, ?_⟩) | refine WDs_nil ?_ | refine d_gPP cl_nil mkP mkP ?_ | refine d_gPc mkP ?_ | refine d_gPPc mkP mkP ?_ | refine grp_nil ?_ | (refine grp_cons (fun _ => rsub_c _ _ _ _ _ _ ?_ ?_ _) ?_ <;> try first | omega | assumption) | (refine grp_cons (fun _ => rcr_c _ _ _ _ _ _ ?_ ?_ _) ?_ <;> try first | omega | assumption) | (refine grp_cons (fun _ => radd_c _ _ _ _ _ _ ?_ ?_ _) ?_ <;> try first | omega | assumption) | refine d_gSS cl_nil mkS mkS ?_ | (refine g_d ?_; first | (refine d_args ?_; first | (refine d_fn (rsub_c _ _ _ _ _ _ ?_ ?_ _) ?_ <;> try first | omega | assumption) | (refine d_fn (rcr_c _ _ _ _ _ _ ?_ ?_ _) ?_ <;> try first | omega | assumption) | (refine d_fn (radd_c _ _ _ _ _ _ ?_ ?_ _) ?_ <;> try first | omega | assumption) | fail) | (refine d_fnY (rsub_c _ _ _ _ _ _ ?_ ?_ _) ?_ <;> try first | omega | assumption) | (refine d_fnY (rcr_c _ _ _ _ _ _ ?_ ?_ _) ?_ <;> try first | omega | assumption) | (refine d_fnY (radd_c _ _ _ _ _ _ ?_ ?_ _) ?_ <;> try first | omega | assumption) | refine d_op ?_ | refine d_yes ?_ | refine d_no ?_ | refine d_noU ?_) | refine WOs_nil ?_ | (refine g_c ?_; first | refine c_T ?_ | refine c_F ?_) | (refine g_gd ?_; first | refine s_yes ?_ | refine s_no ?_ | refine s_noU ?_) | refine WA_skip ?_ | refine WA_ret ?_ | refine WA_exit ?_ | refine qT_ret ?_ | refine qT_exit ?_ | refine qB_exit ?_ | refine qB_other rfl ?_ | refine qB_normal ?_ | refine qB_ret ?_ | refine WA_block ?_ | refine qT_WAn ?_ | refine WAn_step ?_ | refine qT_normal ?_))
    all_goals (rw [← e1, ← e2, ← e3]; refine next_ hL (i + 1) hi' (by omega))
  · have e : i = l.length := by omega
    subst e
    simp only [zipT]
    clear FX
    (have FX := And.intro hlen hget; repeat' (first | refine s_tp ?_ | refine s_tn ?_ | refine d_tp ?_ | refine d_tn ?_ | ((first | refine WOs_splitD (fun h => ?_) (fun h => ?_) | refine WOs_splitN (fun h => ?_) (fun h => ?_) | refine WDs_splitD (fun h => ?_) (fun h => ?_) | refine WDs_splitN (fun h => ?_) (fun h => ?_)) <;> first | (exfalso; omega) | skip) | (refine g_op ?_; first | (refine g_call ?_; refine g_args ?_; first | (refine s_fn (rsub_c _ _ _ _ _ _ ?_ ?_ _) ?_ <;> try first | omega | assumption) | (refine s_fn (rcr_c _ _ _ _ _ _ ?_ ?_ _) ?_ <;> try first | omega | assumption) | (refine s_fn (radd_c _ _ _ _ _ _ ?_ ?_ _) ?_ <;> try first | omega | assumption) | fail) | refine s_mv ?_ | refine s_as ?_ | refine s_bin ?_ | refine s_ld ?_ | refine s_ia ?_ | refine s_fa ?_ | refine s_fd ?_ | refine s_ix ?_ | refine s_un ?_ | refine s_op ?_) | refine WA_seq' ?_ | refine qT_WA ?_ | refine WA_region ?_ | (refine d_raw (id := 5) ?_; refine ⟨fun i => if i == 15 then .w else if i == 0 || i == 5 || i == 6 || i == 7 || i == 12 || i == 13 || i == 14 then .q else .p, [.one 0, .one 1, .one 2, .one 3, .one 4, .one 5, .one 6, .one 7, .one 8, .one 9, .one 10, .one 11, .one 12, .one 13, .one 14, .one 15], by kernel_rfl, ?_⟩) | refine WDs_nil ?_ | refine d_gPP cl_nil mkP mkP ?_ | refine d_gPc mkP ?_ | refine d_gPPc mkP mkP ?_ | refine grp_nil ?_ | (refine grp_cons (fun _ => rsub_c _ _ _ _ _ _ ?_ ?_ _) ?_ <;> try first | omega | assumption) | (refine grp_cons (fun _ => rcr_c _ _ _ _ _ _ ?_ ?_ _) ?_ <;> try first | omega | assumption) | (refine grp_cons (fun _ => radd_c _ _ _ _ _ _ ?_ ?_ _) ?_ <;> try first | omega | assumption) | refine d_gSS cl_nil mkS mkS ?_ | (refine g_d ?_; first | (refine d_args ?_; first | (refine d_fn (rsub_c _ _ _ _ _ _ ?_ ?_ _) ?_ <;> try first | omega | assumption) | (refine d_fn (rcr_c _ _ _ _ _ _ ?_ ?_ _) ?_ <;> try first | omega | assumption) | (refine d_fn (radd_c _ _ _ _ _ _ ?_ ?_ _) ?_ <;> try first | omega | assumption) | fail) | (refine d_fnY (rsub_c _ _ _ _ _ _ ?_ ?_ _) ?_ <;> try first | omega | assumption) | (refine d_fnY (rcr_c _ _ _ _ _ _ ?_ ?_ _) ?_ <;> try first | omega | assumption) | (refine d_fnY (radd_c _ _ _ _ _ _ ?_ ?_ _) ?_ <;> try first | omega | assumption) | refine d_op ?_ | refine d_yes ?_ | refine d_no ?_ | refine d_noU ?_) | refine WOs_nil ?_ | (refine g_c ?_; first | refine c_T ?_ | refine c_F ?_) | (refine g_gd ?_; first | refine s_yes ?_ | refine s_no ?_ | refine s_noU ?_) | refine WA_skip ?_ | refine WA_ret ?_ | refine WA_exit ?_ | refine qT_ret ?_ | refine qT_exit ?_ | refine qB_exit ?_ | refine qB_other rfl ?_ | refine qB_normal ?_ | refine qB_ret ?_ | refine WA_block ?_ | refine qT_WAn ?_ | refine WAn_step ?_ | refine qT_normal ?_))
    all_goals (refine r_es hQ ?_; try with_reducible rfl)
end Go.Proofs.Yteogokmbedmkjaa
