import Derived.Test.YteogokmbedmkjaaG28
import Derived.Test.YteogokmbedmkjaaP2
namespace Go.Proofs.Yteogokmbedmkjaa
open Go.RowKit
attribute [local irreducible] WA WOs WDs WAn qThen qBlock tput
set_option maxHeartbeats 1000000
set_option maxRecDepth 20000
set_option linter.unusedSimpArgs false
set_option linter.unusedVariables false
def eSt (i : Nat) : TV := match i with | 0 => .v .nilsl | i + 1 => .sl 0 (i + 1)
set_option maxHeartbeats 4000000 in
theorem rdistr_c (xs : List Int) (ls : List (Int × Int)) (hx : BarsOk xs) (hll : ls.length ≤ 100) (hl0 : ∀ p ∈ ls, (xs.getD 0 0 ≤ p.1 ∧ p.1 ≤ xs.getD (xs.length - 1) 0) ∧ (-1000000 ≤ p.2 ∧ p.2 ≤ 1000000)) (m : Mem) :
    Gives Try.prog 28 [.lst (intsV xs), .lst (ldsV ls)] m (.lst (frsV (distr xs ls))) := by
  have hx2 := hx.two
  have hx20 := hx.few
  have hlen := intsV_length (xs := xs)
  have hlenl := ldsV_length (ls := ls)
  have hgx := fun {i : Nat} (h : i < xs.length) => intsV_getD h
  have hbd : ∀ p ∈ ls, (-20000 ≤ p.1 ∧ p.1 ≤ 20000) ∧ (-1000000 ≤ p.2 ∧ p.2 ≤ 1000000) := fun p hp => ⟨by have := getD_bd hx 0; have := getD_bd hx (xs.length - 1); have := (hl0 p hp).1; omega, (hl0 p hp).2⟩
  refine CallA_in Try.func28 rfl Try.ntmps28 Try.results28 (by kernel_rfl) (by simp) fun Q hQ => ?_
  (have FX := And.intro hlen hlenl; repeat' (first | refine s_tp ?_ | refine s_tn ?_ | refine d_tp ?_ | refine d_tn ?_ | ((first | refine WOs_splitD (fun h => ?_) (fun h => ?_) | refine WOs_splitN (fun h => ?_) (fun h => ?_) | refine WDs_splitD (fun h => ?_) (fun h => ?_) | refine WDs_splitN (fun h => ?_) (fun h => ?_)) <;> first | (exfalso; omega) | skip) | (refine g_op ?_; first | (refine g_call ?_; refine g_args ?_; first | (refine s_fn (blowest_c _ _ ?_ ?_ ?_ ?_ _) ?_ <;> try first | omega | assumption) | fail) | refine s_mv ?_ | refine s_as ?_ | refine s_bin ?_ | refine s_ld ?_ | refine s_ia ?_ | refine s_fa ?_ | refine s_fd ?_ | refine s_ix ?_ | refine s_un ?_ | refine s_op ?_) | refine WA_seq' ?_ | refine qT_WA ?_ | refine WA_region ?_ | (refine d_raw (id := 8) ?_; refine ⟨fun i => if i == 3 || i == 8 then .q else .p, [.one 0, .one 1, .one 2, .one 3, .one 4, .one 5, .one 6, .one 7, .one 8, .one 9, .one 10], by kernel_rfl, ?_⟩) | (refine d_raw (id := 10) ?_; refine ⟨fun i => if i == 4 || i == 8 then .q else .p, [.one 0, .one 1, .one 2, .one 3, .one 4, .one 5, .one 6, .one 7, .one 8, .one 9, .one 10], by kernel_rfl, ?_⟩) | (refine d_raw (id := 14) ?_; refine ⟨fun i => if i == 4 || i == 9 then .q else .p, [.one 0, .one 1, .one 2, .one 3, .one 4, .one 5, .one 6, .one 7, .one 8, .one 9, .one 10, .one 11], by kernel_rfl, ?_⟩) | refine WDs_nil ?_ | refine d_gPP cl_nil mkP mkP ?_ | refine d_gPc mkP ?_ | refine d_gPPc mkP mkP ?_ | refine grp_nil ?_ | (refine grp_cons (fun _ => blowest_c _ _ ?_ ?_ ?_ ?_ _) ?_ <;> try first | omega | assumption) | refine d_gSS cl_nil mkS mkS ?_ | (refine g_d ?_; first | (refine d_args ?_; first | (refine d_fn (blowest_c _ _ ?_ ?_ ?_ ?_ _) ?_ <;> try first | omega | assumption) | fail) | (refine d_fnY (blowest_c _ _ ?_ ?_ ?_ ?_ _) ?_ <;> try first | omega | assumption) | refine d_op ?_ | refine d_yes ?_ | refine d_no ?_ | refine d_noU ?_) | refine WOs_nil ?_ | (refine g_c ?_; first | refine c_T ?_ | refine c_F ?_) | (refine g_gd ?_; first | refine s_yes ?_ | refine s_no ?_ | refine s_noU ?_) | refine WA_skip ?_ | refine WA_ret ?_ | refine WA_exit ?_ | refine qT_ret ?_ | refine qT_exit ?_ | refine qB_exit ?_ | refine qB_other rfl ?_ | refine qB_normal ?_ | refine qB_ret ?_ | refine WA_block ?_ | refine qT_WAn ?_ | refine WAn_step ?_ | refine qT_normal ?_))
  refine WA_whileM (σ := Nat) (L := lend m ++ []) [0, 1, 5, 6] (fun i => [.v (.lst (intsV xs)), .v (.lst (ldsV ls)), eSt i, .v (.int .i64 i)]) (dE xs ls) (fun i => i ≤ xs.length) (fun i => xs.length - i) 0 (Nat.zero_le _) ?_ ?_ (by decide) ?_ ?_ ?_
  · simp [tget, TV.inst, eSt, argT]
  · simp [dE]
  · intro i _; cases i <;> simp [TV.ok, V.keeps, V.plain, intsV_plain, ldsV_plain, eSt, dE]
  · intro i _; cases i <;> simp [Blk.flat, frsV_flat, dE]
  rintro i hi B ⟨D, hB⟩ K hK
  generalize hO : (TV.inst (fun i => B.length + i) (eSt i)) = O
  simp only [zipT, List.map_cons, List.map_nil, hO]
  simp only [TV.inst]
  rcases Nat.lt_or_ge i xs.length with hlt | hge
  · have hxi := intsV_getD (xs := xs) (i := i) hlt
    have ht0 : 0 < i → ((i : Int) - 1).toNat = i - 1 := by omega
    have hxp : 0 < i → (intsV xs)[i - 1]? = some [.int .i64 (xs.getD (i - 1) 0)] := fun h => intsV_getD (by omega)
    have ht1 : ((i : Int) + 1).toNat = i + 1 := by omega
    have hx1 : i + 1 < xs.length → (intsV xs)[i + 1]? = some [.int .i64 (xs.getD (i + 1) 0)] := fun h => intsV_getD (by omega)
    have g0 := getD_bd hx i
    have g1 := getD_bd hx (i - 1)
    have g2 := getD_bd hx (i + 1)
    have sO := sumF_bd (f := nO xs i) (ls := ls) (M := 1000000) (by omega) (fun p hp => nO_bd (hbd p hp).2)
    have sL := sumF_bd (f := nL xs i) (ls := ls) (M := 40000000000) (by omega) (fun p hp => nL_bd hx (hbd p hp).1 (hbd p hp).2)
    have sR := sumF_bd (f := nR xs i) (ls := ls) (M := 40000000000) (by omega) (fun p hp => nR_bd hx (hbd p hp).1 (hbd p hp).2)
    have hb1 : 0 < i → befW xs i = xs.getD i 0 - xs.getD (i - 1) 0 := fun h => by unfold befW; rw [if_pos h]
    have hb0 : ¬ 0 < i → befW xs i = 1 := fun h => by unfold befW; rw [if_neg h]
    have hh1 : i + 1 < xs.length → behW xs i = xs.getD (i + 1) 0 - xs.getD i 0 := fun h => by unfold behW; rw [if_pos (by omega)]
    have hh0 : ¬ i + 1 < xs.length → behW xs i = 1 := fun h => by unfold behW; rw [if_neg (by omega)]
    have c1 := bef_bd hx hlt
    have c2 := beh_bd hx hlt
    have hso := outK_succ xs ls i
    rw [distr_ref hx hl0 hlt] at hso
    unfold lowF at hso
    have z1 : sumF (nO xs i) ls 0 = 0 := by simp [sumF]
    have z2 : sumF (nL xs i) ls 0 = 0 := by simp [sumF]
    have z3 : sumF (nR xs i) ls 0 = 0 := by simp [sumF]
    clear FX
    (have FX := And.intro hlen (And.intro hlenl (And.intro hxi (And.intro ht0 (And.intro hxp (And.intro ht1 hx1))))); repeat' (first | refine s_tp ?_ | refine s_tn ?_ | refine d_tp ?_ | refine d_tn ?_ | ((first | refine WOs_splitD (fun h => ?_) (fun h => ?_) | refine WOs_splitN (fun h => ?_) (fun h => ?_) | refine WDs_splitD (fun h => ?_) (fun h => ?_) | refine WDs_splitN (fun h => ?_) (fun h => ?_)) <;> first | (exfalso; omega) | skip) | (refine g_op ?_; first | (refine g_call ?_; refine g_args ?_; first | (refine s_fn (blowest_c _ _ ?_ ?_ ?_ ?_ _) ?_ <;> try first | omega | assumption) | fail) | refine s_mv ?_ | refine s_as ?_ | refine s_bin ?_ | refine s_ld ?_ | refine s_ia ?_ | refine s_fa ?_ | refine s_fd ?_ | refine s_ix ?_ | refine s_un ?_ | refine s_op ?_) | refine WA_seq' ?_ | refine qT_WA ?_ | refine WA_region ?_ | (refine d_raw (id := 8) ?_; refine ⟨fun i => if i == 3 || i == 8 then .q else .p, [.one 0, .one 1, .one 2, .one 3, .one 4, .one 5, .one 6, .one 7, .one 8, .one 9, .one 10], by kernel_rfl, ?_⟩) | (refine d_raw (id := 10) ?_; refine ⟨fun i => if i == 4 || i == 8 then .q else .p, [.one 0, .one 1, .one 2, .one 3, .one 4, .one 5, .one 6, .one 7, .one 8, .one 9, .one 10], by kernel_rfl, ?_⟩) | (refine d_raw (id := 14) ?_; refine ⟨fun i => if i == 4 || i == 9 then .q else .p, [.one 0, .one 1, .one 2, .one 3, .one 4, .one 5, .one 6, .one 7, .one 8, .one 9, .one 10, .one 11], by kernel_rfl, ?_⟩) | refine WDs_nil ?_ | refine d_gPP cl_nil mkP mkP ?_ | refine d_gPc mkP ?_ | refine d_gPPc mkP mkP ?_ | refine grp_nil ?_ | (refine grp_cons (fun _ => blowest_c _ _ ?_ ?_ ?_ ?_ _) ?_ <;> try first | omega | assumption) | refine d_gSS cl_nil mkS mkS ?_ | (refine g_d ?_; first | (refine d_args ?_; first | (refine d_fn (blowest_c _ _ ?_ ?_ ?_ ?_ _) ?_ <;> try first | omega | assumption) | fail) | (refine d_fnY (blowest_c _ _ ?_ ?_ ?_ ?_ _) ?_ <;> try first | omega | assumption) | refine d_op ?_ | refine d_yes ?_ | refine d_no ?_ | refine d_noU ?_) | refine WOs_nil ?_ | (refine g_c ?_; first | refine c_T ?_ | refine c_F ?_) | (refine g_gd ?_; first | refine s_yes ?_ | refine s_no ?_ | refine s_noU ?_) | refine WA_skip ?_ | refine WA_ret ?_ | refine WA_exit ?_ | refine qT_ret ?_ | refine qT_exit ?_ | refine qB_exit ?_ | refine qB_other rfl ?_ | refine qB_normal ?_ | refine qB_ret ?_ | refine WA_block ?_ | refine qT_WAn ?_ | refine WAn_step ?_ | refine qT_normal ?_))
    all_goals
      refine WA_while (σ := Nat) [0, 1, 5, 6, 7, 8, 9, 10, 11, 12] (fun k => [.lst (intsV xs), .lst (ldsV ls), O, .int .i64 i, .int .i64 (sumF (nL xs i) ls k), .int .i64 (sumF (nR xs i) ls k), .int .i64 (sumF (nO xs i) ls k), .int .i64 (befW xs i), .int .i64 (behW xs i), .int .i64 k]) (fun _ => B ++ dE xs ls i) (fun k => k ≤ ls.length) (fun k => ls.length - k) 0 (Nat.zero_le _) ?_ rfl ?_
      · simp (disch := omega) only [z1, z2, z3, hb1, hb0, hh1, hh0]; exact tv_
      intro k hk K2 hL
      simp only [zipT]
      have o1 := sO k hk
      have o2 := sL k hk
      have o3 := sR k hk
      rcases Nat.lt_or_ge k ls.length with hkl | hkl
      · have hget := ldsV_get hkl
        have hp := hbd _ (List.getElem_mem hkl)
        have e1 := sumF_succ (f := nO xs i) hkl
        have e2 := sumF_succ (f := nL xs i) hkl
        have e3 := sumF_succ (f := nR xs i) hkl
        obtain ⟨⟨a, w⟩, haw⟩ : ∃ p, ls[k] = p := ⟨_, rfl⟩
        rw [haw] at hget hp e1 e2 e3
        dsimp only at hget hp
        have m1 := mulW hp.2 (d := a - xs.getD (i - 1) 0) (by omega)
        have m2 := mulW hp.2 (d := xs.getD (i + 1) 0 - a) (by omega)
        clear FX
        (have FX := And.intro hlen (And.intro hlenl (And.intro hxi (And.intro ht0 (And.intro hxp (And.intro ht1 (And.intro hx1 hget)))))); repeat' (first | refine s_tp ?_ | refine s_tn ?_ | refine d_tp ?_ | refine d_tn ?_ | ((first | refine WOs_splitD (fun h => ?_) (fun h => ?_) | refine WOs_splitN (fun h => ?_) (fun h => ?_) | refine WDs_splitD (fun h => ?_) (fun h => ?_) | refine WDs_splitN (fun h => ?_) (fun h => ?_)) <;> first | (exfalso; omega) | skip) | (refine g_op ?_; first | (refine g_call ?_; refine g_args ?_; first | (refine s_fn (blowest_c _ _ ?_ ?_ ?_ ?_ _) ?_ <;> try first | omega | assumption) | fail) | refine s_mv ?_ | refine s_as ?_ | refine s_bin ?_ | refine s_ld ?_ | refine s_ia ?_ | refine s_fa ?_ | refine s_fd ?_ | refine s_ix ?_ | refine s_un ?_ | refine s_op ?_) | refine WA_seq' ?_ | refine qT_WA ?_ | refine WA_region ?_ | (refine d_raw (id := 8) ?_; refine ⟨fun i => if i == 3 || i == 8 then .q else .p, [.one 0, .one 1, .one 2, .one 3, .one 4, .one 5, .one 6, .one 7, .one 8, .one 9, .one 10], by kernel_rfl, ?_⟩) | (refine d_raw (id := 10) ?_; refine ⟨fun i => if i == 4 || i == 8 then .q else .p, [.one 0, .one 1, .one 2, .one 3, .one 4, .one 5, .one 6, .one 7, .one 8, .one 9, .one 10], by kernel_rfl, ?_⟩) | (refine d_raw (id := 14) ?_; refine ⟨fun i => if i == 4 || i == 9 then .q else .p, [.one 0, .one 1, .one 2, .one 3, .one 4, .one 5, .one 6, .one 7, .one 8, .one 9, .one 10, .one 11], by kernel_rfl, ?_⟩) | refine WDs_nil ?_ | refine d_gPP cl_nil mkP mkP ?_ | refine d_gPc mkP ?_ | refine d_gPPc mkP mkP ?_ | refine grp_nil ?_ | (refine grp_cons (fun _ => blowest_c _ _ ?_ ?_ ?_ ?_ _) ?_ <;> try first | omega | assumption) | refine d_gSS cl_nil mkS mkS ?_ | (refine g_d ?_; first | (refine d_args ?_; first | (refine d_fn (blowest_c _ _ ?_ ?_ ?_ ?_ _) ?_ <;> try first | omega | assumption) | fail) | (refine d_fnY (blowest_c _ _ ?_ ?_ ?_ ?_ _) ?_ <;> try first | omega | assumption) | refine d_op ?_ | refine d_yes ?_ | refine d_no ?_ | refine d_noU ?_) | refine WOs_nil ?_ | (refine g_c ?_; first | refine c_T ?_ | refine c_F ?_) | (refine g_gd ?_; first | refine s_yes ?_ | refine s_no ?_ | refine s_noU ?_) | refine WA_skip ?_ | refine WA_ret ?_ | refine WA_exit ?_ | refine qT_ret ?_ | refine qT_exit ?_ | refine qB_exit ?_ | refine qB_other rfl ?_ | refine qB_normal ?_ | refine qB_ret ?_ | refine WA_block ?_ | refine qT_WAn ?_ | refine WAn_step ?_ | refine qT_normal ?_))
        all_goals (simp (disch := omega) only [nO, nL, nR, if_pos, if_neg, Int.add_zero] at e1 e2 e3)
        all_goals (refine next_ hL (k + 1) (by omega) (by omega) ?_; simp only [e1, e2, e3]; exact tv_)
      · have hke : k = ls.length := by omega
        subst hke
        have q1 := mulZ (x := sumF (nO xs i) ls ls.length) (y := befW xs i) (by omega) c1
        have q2 := mulBig (a := sumF (nO xs i) ls ls.length * befW xs i) (b := behW xs i) (by omega) c2
        have q3 := mulBig (a := sumF (nL xs i) ls ls.length) (b := behW xs i) (by omega) c2
        have q4 := mulBig (a := sumF (nR xs i) ls ls.length) (b := befW xs i) (by omega) c1
        have q5 := mulDen c1 c2
        clear FX
        subst hO
        rcases i with _ | i
        · simp only [eSt, dE, TV.inst]
          (have FX := And.intro hlen hlenl; repeat' (first | refine s_tp ?_ | refine s_tn ?_ | refine d_tp ?_ | refine d_tn ?_ | ((first | refine WOs_splitD (fun h => ?_) (fun h => ?_) | refine WOs_splitN (fun h => ?_) (fun h => ?_) | refine WDs_splitD (fun h => ?_) (fun h => ?_) | refine WDs_splitN (fun h => ?_) (fun h => ?_)) <;> first | (exfalso; omega) | skip) | (refine g_op ?_; first | (refine g_call ?_; refine g_args ?_; first | (refine s_fn (blowest_c _ _ ?_ ?_ ?_ ?_ _) ?_ <;> try first | omega | assumption) | fail) | refine s_mv ?_ | refine s_as ?_ | refine s_bin ?_ | refine s_ld ?_ | refine s_ia ?_ | refine s_fa ?_ | refine s_fd ?_ | refine s_ix ?_ | refine s_un ?_ | refine s_op ?_) | refine WA_seq' ?_ | refine qT_WA ?_ | refine WA_region ?_ | (refine d_raw (id := 8) ?_; refine ⟨fun i => if i == 3 || i == 8 then .q else .p, [.one 0, .one 1, .one 2, .one 3, .one 4, .one 5, .one 6, .one 7, .one 8, .one 9, .one 10], by kernel_rfl, ?_⟩) | (refine d_raw (id := 10) ?_; refine ⟨fun i => if i == 4 || i == 8 then .q else .p, [.one 0, .one 1, .one 2, .one 3, .one 4, .one 5, .one 6, .one 7, .one 8, .one 9, .one 10], by kernel_rfl, ?_⟩) | (refine d_raw (id := 14) ?_; refine ⟨fun i => if i == 4 || i == 9 then .q else .p, [.one 0, .one 1, .one 2, .one 3, .one 4, .one 5, .one 6, .one 7, .one 8, .one 9, .one 10, .one 11], by kernel_rfl, ?_⟩) | refine WDs_nil ?_ | refine d_gPP cl_nil mkP mkP ?_ | refine d_gPc mkP ?_ | refine d_gPPc mkP mkP ?_ | refine grp_nil ?_ | (refine grp_cons (fun _ => blowest_c _ _ ?_ ?_ ?_ ?_ _) ?_ <;> try first | omega | assumption) | refine d_gSS cl_nil mkS mkS ?_ | (refine g_d ?_; first | (refine d_args ?_; first | (refine d_fn (blowest_c _ _ ?_ ?_ ?_ ?_ _) ?_ <;> try first | omega | assumption) | fail) | (refine d_fnY (blowest_c _ _ ?_ ?_ ?_ ?_ _) ?_ <;> try first | omega | assumption) | refine d_op ?_ | refine d_yes ?_ | refine d_no ?_ | refine d_noU ?_) | refine WOs_nil ?_ | (refine g_c ?_; first | refine c_T ?_ | refine c_F ?_) | (refine g_gd ?_; first | refine s_yes ?_ | refine s_no ?_ | refine s_noU ?_) | refine WA_skip ?_ | refine WA_ret ?_ | refine WA_exit ?_ | refine qT_ret ?_ | refine qT_exit ?_ | refine qB_exit ?_ | refine qB_other rfl ?_ | refine qB_normal ?_ | refine qB_ret ?_ | refine WA_block ?_ | refine qT_WAn ?_ | refine WAn_step ?_ | refine qT_normal ?_))
          all_goals (refine nextM_ hK 1 [1] (by omega) (by omega) ?_)
          all_goals (simp only [dE]; rw [hso]; rfl)
        · have hol := outK_len xs ls (i + 1)
          have hoa : (frsV (outK xs ls (i + 1))).take (i + 1) = frsV (outK xs ls (i + 1)) := by rw [List.take_of_length_le (by omega)]
          simp only [eSt, dE, TV.inst]
          (have FX := And.intro hlen (And.intro hlenl (And.intro hol hoa)); repeat' (first | refine s_tp ?_ | refine s_tn ?_ | refine d_tp ?_ | refine d_tn ?_ | ((first | refine WOs_splitD (fun h => ?_) (fun h => ?_) | refine WOs_splitN (fun h => ?_) (fun h => ?_) | refine WDs_splitD (fun h => ?_) (fun h => ?_) | refine WDs_splitN (fun h => ?_) (fun h => ?_)) <;> first | (exfalso; omega) | skip) | (refine g_op ?_; first | (refine g_call ?_; refine g_args ?_; first | (refine s_fn (blowest_c _ _ ?_ ?_ ?_ ?_ _) ?_ <;> try first | omega | assumption) | fail) | refine s_mv ?_ | refine s_as ?_ | refine s_bin ?_ | refine s_ld ?_ | refine s_ia ?_ | refine s_fa ?_ | refine s_fd ?_ | refine s_ix ?_ | refine s_un ?_ | refine s_op ?_) | refine WA_seq' ?_ | refine qT_WA ?_ | refine WA_region ?_ | (refine d_raw (id := 8) ?_; refine ⟨fun i => if i == 3 || i == 8 then .q else .p, [.one 0, .one 1, .one 2, .one 3, .one 4, .one 5, .one 6, .one 7, .one 8, .one 9, .one 10], by kernel_rfl, ?_⟩) | (refine d_raw (id := 10) ?_; refine ⟨fun i => if i == 4 || i == 8 then .q else .p, [.one 0, .one 1, .one 2, .one 3, .one 4, .one 5, .one 6, .one 7, .one 8, .one 9, .one 10], by kernel_rfl, ?_⟩) | (refine d_raw (id := 14) ?_; refine ⟨fun i => if i == 4 || i == 9 then .q else .p, [.one 0, .one 1, .one 2, .one 3, .one 4, .one 5, .one 6, .one 7, .one 8, .one 9, .one 10, .one 11], by kernel_rfl, ?_⟩) | refine WDs_nil ?_ | refine d_gPP cl_nil mkP mkP ?_ | refine d_gPc mkP ?_ | refine d_gPPc mkP mkP ?_ | refine grp_nil ?_ | (refine grp_cons (fun _ => blowest_c _ _ ?_ ?_ ?_ ?_ _) ?_ <;> try first | omega | assumption) | refine d_gSS cl_nil mkS mkS ?_ | (refine g_d ?_; first | (refine d_args ?_; first | (refine d_fn (blowest_c _ _ ?_ ?_ ?_ ?_ _) ?_ <;> try first | omega | assumption) | fail) | (refine d_fnY (blowest_c _ _ ?_ ?_ ?_ ?_ _) ?_ <;> try first | omega | assumption) | refine d_op ?_ | refine d_yes ?_ | refine d_no ?_ | refine d_noU ?_) | refine WOs_nil ?_ | (refine g_c ?_; first | refine c_T ?_ | refine c_F ?_) | (refine g_gd ?_; first | refine s_yes ?_ | refine s_no ?_ | refine s_noU ?_) | refine WA_skip ?_ | refine WA_ret ?_ | refine WA_exit ?_ | refine qT_ret ?_ | refine qT_exit ?_ | refine qB_exit ?_ | refine qB_other rfl ?_ | refine qB_normal ?_ | refine qB_ret ?_ | refine WA_block ?_ | refine qT_WAn ?_ | refine WAn_step ?_ | refine qT_normal ?_))
          all_goals (refine nextM_ hK (i + 1 + 1) [2] (by omega) (by omega) ?_)
          all_goals (simp only [dE]; rw [hso]; rfl)
  · have hie : i = xs.length := by omega
    subst hie
    obtain ⟨n, hn⟩ : ∃ n, xs.length = n + 1 := ⟨xs.length - 1, by omega⟩
    have hd : distr xs ls = outK xs ls xs.length := rfl
    have hol := outK_len xs ls xs.length
    subst hO
    simp only [hn, eSt, dE]
    simp only [TV.inst]
    clear FX
    (have FX := And.intro hlen hlenl; repeat' (first | refine s_tp ?_ | refine s_tn ?_ | refine d_tp ?_ | refine d_tn ?_ | ((first | refine WOs_splitD (fun h => ?_) (fun h => ?_) | refine WOs_splitN (fun h => ?_) (fun h => ?_) | refine WDs_splitD (fun h => ?_) (fun h => ?_) | refine WDs_splitN (fun h => ?_) (fun h => ?_)) <;> first | (exfalso; omega) | skip) | (refine g_op ?_; first | (refine g_call ?_; refine g_args ?_; first | (refine s_fn (blowest_c _ _ ?_ ?_ ?_ ?_ _) ?_ <;> try first | omega | assumption) | fail) | refine s_mv ?_ | refine s_as ?_ | refine s_bin ?_ | refine s_ld ?_ | refine s_ia ?_ | refine s_fa ?_ | refine s_fd ?_ | refine s_ix ?_ | refine s_un ?_ | refine s_op ?_) | refine WA_seq' ?_ | refine qT_WA ?_ | refine WA_region ?_ | (refine d_raw (id := 8) ?_; refine ⟨fun i => if i == 3 || i == 8 then .q else .p, [.one 0, .one 1, .one 2, .one 3, .one 4, .one 5, .one 6, .one 7, .one 8, .one 9, .one 10], by kernel_rfl, ?_⟩) | (refine d_raw (id := 10) ?_; refine ⟨fun i => if i == 4 || i == 8 then .q else .p, [.one 0, .one 1, .one 2, .one 3, .one 4, .one 5, .one 6, .one 7, .one 8, .one 9, .one 10], by kernel_rfl, ?_⟩) | (refine d_raw (id := 14) ?_; refine ⟨fun i => if i == 4 || i == 9 then .q else .p, [.one 0, .one 1, .one 2, .one 3, .one 4, .one 5, .one 6, .one 7, .one 8, .one 9, .one 10, .one 11], by kernel_rfl, ?_⟩) | refine WDs_nil ?_ | refine d_gPP cl_nil mkP mkP ?_ | refine d_gPc mkP ?_ | refine d_gPPc mkP mkP ?_ | refine grp_nil ?_ | (refine grp_cons (fun _ => blowest_c _ _ ?_ ?_ ?_ ?_ _) ?_ <;> try first | omega | assumption) | refine d_gSS cl_nil mkS mkS ?_ | (refine g_d ?_; first | (refine d_args ?_; first | (refine d_fn (blowest_c _ _ ?_ ?_ ?_ ?_ _) ?_ <;> try first | omega | assumption) | fail) | (refine d_fnY (blowest_c _ _ ?_ ?_ ?_ ?_ _) ?_ <;> try first | omega | assumption) | refine d_op ?_ | refine d_yes ?_ | refine d_no ?_ | refine d_noU ?_) | refine WOs_nil ?_ | (refine g_c ?_; first | refine c_T ?_ | refine c_F ?_) | (refine g_gd ?_; first | refine s_yes ?_ | refine s_no ?_ | refine s_noU ?_) | refine WA_skip ?_ | refine WA_ret ?_ | refine WA_exit ?_ | refine qT_ret ?_ | refine qT_exit ?_ | refine qB_exit ?_ | refine qB_other rfl ?_ | refine qB_normal ?_ | refine qB_ret ?_ | refine WA_block ?_ | refine qT_WAn ?_ | refine WAn_step ?_ | refine qT_normal ?_))
    all_goals (refine r_esA hQ ?_)
    all_goals (refine fin_sl (D := D) (j := 0) (by rw [hB, List.append_nil]) rfl (by rw [← hn, hol]; exact Nat.le_refl _) (by rw [← hn, List.take_of_length_le (by omega)]; exact frsV_plain _) ⟨?_, rfl⟩)
    all_goals (rw [← hn, List.take_of_length_le (by omega), hd])
end Go.Proofs.Yteogokmbedmkjaa
