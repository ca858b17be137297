import Derived.Test.YteogokmbedmkjaaG14
import Derived.Test.YteogokmbedmkjaaG8
import Derived.Test.YteogokmbedmkjaaYC
namespace Go.Proofs.Yteogokmbedmkjaa
open Go.RowKit
attribute [local irreducible] WA WOs WDs WAn qThen qBlock tput
set_option maxHeartbeats 1000000
set_option maxRecDepth 20000
set_option linter.unusedSimpArgs false
set_option linter.unusedVariables false
/-- a force at a place -/
structure Pl where
  a : Int
  b : Int
  c : Int
  x : Int
  y : Int
  z : Int
  deriving DecidableEq
theorem Pl.ext' {p q : Pl} (h1 : p.a = q.a) (h2 : p.b = q.b) (h3 : p.c = q.c) (h4 : p.x = q.x) (h5 : p.y = q.y) (h6 : p.z = q.z) : p = q := by
  cases p; cases q; simp_all
def plV (p : Pl) : List V := [.int .i64 p.a, .int .i64 p.b, .int .i64 p.c, .int .i64 p.x, .int .i64 p.y, .int .i64 p.z]
def plsV (l : List Pl) : List (List V) := l.map plV
theorem plsV_get {l : List Pl} {i : Nat} (h : i < l.length) : (plsV l)[i]? = some [.int .i64 l[i].a, .int .i64 l[i].b, .int .i64 l[i].c, .int .i64 l[i].x, .int .i64 l[i].y, .int .i64 l[i].z] := by simp [plsV, plV, h]
theorem plsV_length {l : List Pl} : (plsV l).length = l.length := by simp [plsV]
theorem plsV_all (l : List Pl) : ((plsV l).all fun e => e.length == 6) = true := by simp [plsV, plV]
theorem plsV_flat (l : List Pl) : (plsV l).all flatL = true := by simp [plsV, plV, flatL, V.flat]
theorem plsV_plain : ∀ l : List Pl, plainLL (plsV l) = true
  | [] => rfl
  | p :: l => by
    have := plsV_plain l
    simpa [plsV, plV, plainLL, plainL, V.plain] using this
def Bil (a b c : Int) : Prop := (-1000000000 ≤ a ∧ a ≤ 1000000000) ∧ (-1000000000 ≤ b ∧ b ≤ 1000000000) ∧ (-1000000000 ≤ c ∧ c ≤ 1000000000)
def plOk (p : Pl) : Prop := Plc p.a p.b p.c ∧ Bil p.x p.y p.z
instance (p : Pl) : Decidable (plOk p) := by unfold plOk Plc Bil; exact inferInstance
def frcErr (l : List Pl) : Int := if 300 < l.length then 8 else if ∀ p ∈ l, plOk p then 0 else 2
theorem frcErr_ok {l : List Pl} (h : frcErr l = 0) : l.length ≤ 300 ∧ ∀ p ∈ l, plOk p := by
  unfold frcErr at h
  split at h
  · simp at h
  · split at h
    · exact ⟨by omega, by assumption⟩
    · simp at h
theorem frcErr_of {l : List Pl} (h1 : l.length ≤ 300) (h2 : ∀ p ∈ l, plOk p) : frcErr l = 0 := by
  unfold frcErr; rw [if_neg (by omega), if_pos h2]
theorem pcheckf_c (l : List Pl) (m : Mem) : Gives Try.prog 58 [.lst (plsV l)] m (.int .i64 (frcErr l)) := by
  have hlen := plsV_length (l := l)
  have hget := hlen
  unfold frcErr
  by_cases hb : 300 < l.length
  · rw [if_pos hb]
    refine Gives_in Try.func58 rfl Try.ntmps58 Try.results58 (by kernel_rfl) (by simp) rfl fun Q hQ => ?_
    (have FX := And.intro hlen hget; repeat' (first | refine s_tp ?_ | refine s_tn ?_ | ((first | refine WOs_splitD (fun h => ?_) (fun h => ?_) | refine WOs_splitN (fun h => ?_) (fun h => ?_) | refine WDs_splitD (fun h => ?_) (fun h => ?_) | refine WDs_splitN (fun h => ?_) (fun h => ?_)) <;> first | (exfalso; omega) | skip) | (refine g_op ?_; first | (refine g_call ?_; refine g_args ?_; first | (refine s_fn (all_c _ _ _ _ ?_ ?_ _) ?_ <;> try first | omega | assumption) | fail) | refine s_mv ?_ | refine s_as ?_ | refine s_bin ?_ | refine s_ld ?_ | refine s_ia ?_ | refine s_fa ?_ | refine s_fd ?_ | refine s_ix ?_ | refine s_un ?_ | refine s_op ?_) | refine WA_seq' ?_ | refine qT_WA ?_ | refine WA_region ?_ | refine WOs_nil ?_ | (refine g_c ?_; first | refine c_T ?_ | refine c_F ?_) | (refine g_gd ?_; first | refine s_yes ?_ | refine s_no ?_ | refine s_noU ?_) | refine WA_skip ?_ | refine WA_ret ?_ | refine WA_exit ?_ | refine qT_ret ?_ | refine qT_exit ?_ | refine qB_exit ?_ | refine qB_other rfl ?_ | refine qB_normal ?_ | refine qB_ret ?_ | refine WA_block ?_ | refine qT_WAn ?_ | refine WAn_step ?_ | refine qT_normal ?_))
    all_goals (refine r_es hQ ?_; try with_reducible rfl)
  rw [if_neg hb]
  generalize hE : (if ∀ p ∈ l, plOk p then (0 : Int) else 2) = E
  refine Gives_in Try.func58 rfl Try.ntmps58 Try.results58 (by kernel_rfl) (by simp) rfl fun Q hQ => ?_
  (have FX := And.intro hlen hget; repeat' (first | refine s_tp ?_ | refine s_tn ?_ | ((first | refine WOs_splitD (fun h => ?_) (fun h => ?_) | refine WOs_splitN (fun h => ?_) (fun h => ?_) | refine WDs_splitD (fun h => ?_) (fun h => ?_) | refine WDs_splitN (fun h => ?_) (fun h => ?_)) <;> first | (exfalso; omega) | skip) | (refine g_op ?_; first | (refine g_call ?_; refine g_args ?_; first | (refine s_fn (all_c _ _ _ _ ?_ ?_ _) ?_ <;> try first | omega | assumption) | fail) | refine s_mv ?_ | refine s_as ?_ | refine s_bin ?_ | refine s_ld ?_ | refine s_ia ?_ | refine s_fa ?_ | refine s_fd ?_ | refine s_ix ?_ | refine s_un ?_ | refine s_op ?_) | refine WA_seq' ?_ | refine qT_WA ?_ | refine WA_region ?_ | refine WOs_nil ?_ | (refine g_c ?_; first | refine c_T ?_ | refine c_F ?_) | (refine g_gd ?_; first | refine s_yes ?_ | refine s_no ?_ | refine s_noU ?_) | refine WA_skip ?_ | refine WA_ret ?_ | refine WA_exit ?_ | refine qT_ret ?_ | refine qT_exit ?_ | refine qB_exit ?_ | refine qB_other rfl ?_ | refine qB_normal ?_ | refine qB_ret ?_ | refine WA_block ?_ | refine qT_WAn ?_ | refine WAn_step ?_ | refine qT_normal ?_))
  refine WA_whileL (σ := Nat) (L := m) [8, 9, 10] (fun i => [.lst (plsV l), .int .i64 l.length, .int .i64 i]) (fun _ => []) 0 (fun i => i ≤ l.length ∧ ∀ j (h : j < l.length), j < i → plOk l[j]) (fun i => l.length - i) 0 ⟨Nat.zero_le _, fun j h1 h2 => absurd h2 (Nat.not_lt_zero _)⟩ tv_ rfl (fun _ => rfl) ?_ (fun _ => rfl) ?_
  · intro s v hv
    simp only [List.mem_cons, List.not_mem_nil, or_false] at hv
    rcases hv with rfl | rfl | rfl
    all_goals first | rfl | exact plsV_plain l
  rintro i ⟨hi1, hi2⟩ K2 hL
  rcases Nat.lt_or_ge i l.length with hi' | hi'
  · have hget := plsV_get hi'
    simp only [zipT]
    clear FX
    (have FX := And.intro hlen hget; repeat' (first | refine s_tp ?_ | refine s_tn ?_ | ((first | refine WOs_splitD (fun h => ?_) (fun h => ?_) | refine WOs_splitN (fun h => ?_) (fun h => ?_) | refine WDs_splitD (fun h => ?_) (fun h => ?_) | refine WDs_splitN (fun h => ?_) (fun h => ?_)) <;> first | (exfalso; omega) | skip) | (refine g_op ?_; first | (refine g_call ?_; refine g_args ?_; first | (refine s_fn (all_c _ _ _ _ ?_ ?_ _) ?_ <;> try first | omega | assumption) | fail) | refine s_mv ?_ | refine s_as ?_ | refine s_bin ?_ | refine s_ld ?_ | refine s_ia ?_ | refine s_fa ?_ | refine s_fd ?_ | refine s_ix ?_ | refine s_un ?_ | refine s_op ?_) | refine WA_seq' ?_ | refine qT_WA ?_ | refine WA_region ?_ | refine WOs_nil ?_ | (refine g_c ?_; first | refine c_T ?_ | refine c_F ?_) | (refine g_gd ?_; first | refine s_yes ?_ | refine s_no ?_ | refine s_noU ?_) | refine WA_skip ?_ | refine WA_ret ?_ | refine WA_exit ?_ | refine qT_ret ?_ | refine qT_exit ?_ | refine qB_exit ?_ | refine qB_other rfl ?_ | refine qB_normal ?_ | refine qB_ret ?_ | refine WA_block ?_ | refine qT_WAn ?_ | refine WAn_step ?_ | refine qT_normal ?_))
    all_goals first
      | ((refine r_es hQ ?_; try with_reducible rfl); rw [← hE, if_neg]; intro h0; have h1 := h0 _ (List.getElem_mem hi'); unfold plOk Plc Bil at h1; omega)
      | (refine nextL_ hL (i + 1) ⟨hi', fun j h1 h2 => ?_⟩ (by omega); rcases Nat.lt_or_ge j i with q | q; exact hi2 j h1 q; (have : j = i := by omega); subst this; unfold plOk Plc Bil; omega)
  · simp only [zipT]
    clear FX
    (have FX := And.intro hlen hget; repeat' (first | refine s_tp ?_ | refine s_tn ?_ | ((first | refine WOs_splitD (fun h => ?_) (fun h => ?_) | refine WOs_splitN (fun h => ?_) (fun h => ?_) | refine WDs_splitD (fun h => ?_) (fun h => ?_) | refine WDs_splitN (fun h => ?_) (fun h => ?_)) <;> first | (exfalso; omega) | skip) | (refine g_op ?_; first | (refine g_call ?_; refine g_args ?_; first | (refine s_fn (all_c _ _ _ _ ?_ ?_ _) ?_ <;> try first | omega | assumption) | fail) | refine s_mv ?_ | refine s_as ?_ | refine s_bin ?_ | refine s_ld ?_ | refine s_ia ?_ | refine s_fa ?_ | refine s_fd ?_ | refine s_ix ?_ | refine s_un ?_ | refine s_op ?_) | refine WA_seq' ?_ | refine qT_WA ?_ | refine WA_region ?_ | refine WOs_nil ?_ | (refine g_c ?_; first | refine c_T ?_ | refine c_F ?_) | (refine g_gd ?_; first | refine s_yes ?_ | refine s_no ?_ | refine s_noU ?_) | refine WA_skip ?_ | refine WA_ret ?_ | refine WA_exit ?_ | refine qT_ret ?_ | refine qT_exit ?_ | refine qB_exit ?_ | refine qB_other rfl ?_ | refine qB_normal ?_ | refine qB_ret ?_ | refine WA_block ?_ | refine qT_WAn ?_ | refine WAn_step ?_ | refine qT_normal ?_))
    (refine r_es hQ ?_; try with_reducible rfl)
    rw [← hE, if_pos]
    intro p hp
    obtain ⟨j, hj, rfl⟩ := List.getElem_of_mem hp
    exact hi2 j hj (by omega)
theorem rcheckf_c (l : List Pl) (hl : l.length ≤ 1000000) (m : Mem) : Gives Try.prog 50 [.lst (plsV l)] m (.int .i64 (frcErr l)) := by
  have hlen := plsV_length (l := l)
  have hget := hlen
  unfold frcErr
  by_cases hb : 300 < l.length
  · rw [if_pos hb]
    refine Gives_in Try.func50 rfl Try.ntmps50 Try.results50 (by kernel_rfl) (by simp) rfl fun Q hQ => ?_
    (have FX := And.intro hlen hget; repeat' (first | refine s_tp ?_ | refine s_tn ?_ | ((first | refine WOs_splitD (fun h => ?_) (fun h => ?_) | refine WOs_splitN (fun h => ?_) (fun h => ?_) | refine WDs_splitD (fun h => ?_) (fun h => ?_) | refine WDs_splitN (fun h => ?_) (fun h => ?_)) <;> first | (exfalso; omega) | skip) | (refine g_op ?_; first | (refine g_call ?_; refine g_args ?_; first | (refine s_fn (isplace_c _ _ _ _) ?_ <;> try first | omega | assumption) | (refine s_fn (size_c _ _ _ _ ?_ ?_ _) ?_ <;> try first | omega | assumption) | fail) | refine s_mv ?_ | refine s_as ?_ | refine s_bin ?_ | refine s_ld ?_ | refine s_ia ?_ | refine s_fa ?_ | refine s_fd ?_ | refine s_ix ?_ | refine s_un ?_ | refine s_op ?_) | refine WA_seq' ?_ | refine qT_WA ?_ | refine WA_region ?_ | refine WOs_nil ?_ | (refine g_c ?_; first | refine c_T ?_ | refine c_F ?_) | (refine g_gd ?_; first | refine s_yes ?_ | refine s_no ?_ | refine s_noU ?_) | refine WA_skip ?_ | refine WA_ret ?_ | refine WA_exit ?_ | refine qT_ret ?_ | refine qT_exit ?_ | refine qB_exit ?_ | refine qB_other rfl ?_ | refine qB_normal ?_ | refine qB_ret ?_ | refine WA_block ?_ | refine qT_WAn ?_ | refine WAn_step ?_ | refine qT_normal ?_))
    all_goals (refine r_es hQ ?_; try with_reducible rfl)
  rw [if_neg hb]
  generalize hE : (if ∀ p ∈ l, plOk p then (0 : Int) else 2) = E
  refine Gives_in Try.func50 rfl Try.ntmps50 Try.results50 (by kernel_rfl) (by simp) rfl fun Q hQ => ?_
  (have FX := And.intro hlen hget; repeat' (first | refine s_tp ?_ | refine s_tn ?_ | ((first | refine WOs_splitD (fun h => ?_) (fun h => ?_) | refine WOs_splitN (fun h => ?_) (fun h => ?_) | refine WDs_splitD (fun h => ?_) (fun h => ?_) | refine WDs_splitN (fun h => ?_) (fun h => ?_)) <;> first | (exfalso; omega) | skip) | (refine g_op ?_; first | (refine g_call ?_; refine g_args ?_; first | (refine s_fn (isplace_c _ _ _ _) ?_ <;> try first | omega | assumption) | (refine s_fn (size_c _ _ _ _ ?_ ?_ _) ?_ <;> try first | omega | assumption) | fail) | refine s_mv ?_ | refine s_as ?_ | refine s_bin ?_ | refine s_ld ?_ | refine s_ia ?_ | refine s_fa ?_ | refine s_fd ?_ | refine s_ix ?_ | refine s_un ?_ | refine s_op ?_) | refine WA_seq' ?_ | refine qT_WA ?_ | refine WA_region ?_ | refine WOs_nil ?_ | (refine g_c ?_; first | refine c_T ?_ | refine c_F ?_) | (refine g_gd ?_; first | refine s_yes ?_ | refine s_no ?_ | refine s_noU ?_) | refine WA_skip ?_ | refine WA_ret ?_ | refine WA_exit ?_ | refine qT_ret ?_ | refine qT_exit ?_ | refine qB_exit ?_ | refine qB_other rfl ?_ | refine qB_normal ?_ | refine qB_ret ?_ | refine WA_block ?_ | refine qT_WAn ?_ | refine WAn_step ?_ | refine qT_normal ?_))
  refine WA_while (σ := Nat) [0, 3] (fun i => [.lst (plsV l), .int .i64 i]) (fun _ => lend m ++ []) (fun i => i ≤ l.length ∧ ∀ j (h : j < l.length), j < i → plOk l[j]) (fun i => l.length - i) 0 ⟨Nat.zero_le _, fun j h1 h2 => absurd h2 (Nat.not_lt_zero _)⟩ tv_ rfl ?_
  rintro i ⟨hi1, hi2⟩ K2 hL
  rcases Nat.lt_or_ge i l.length with hi' | hi'
  · have hget := plsV_get hi'
    simp only [zipT]
    clear FX
    (have FX := And.intro hlen hget; repeat' (first | refine s_tp ?_ | refine s_tn ?_ | ((first | refine WOs_splitD (fun h => ?_) (fun h => ?_) | refine WOs_splitN (fun h => ?_) (fun h => ?_) | refine WDs_splitD (fun h => ?_) (fun h => ?_) | refine WDs_splitN (fun h => ?_) (fun h => ?_)) <;> first | (exfalso; omega) | skip) | (refine g_op ?_; first | (refine g_call ?_; refine g_args ?_; first | (refine s_fn (isplace_c _ _ _ _) ?_ <;> try first | omega | assumption) | (refine s_fn (size_c _ _ _ _ ?_ ?_ _) ?_ <;> try first | omega | assumption) | fail) | refine s_mv ?_ | refine s_as ?_ | refine s_bin ?_ | refine s_ld ?_ | refine s_ia ?_ | refine s_fa ?_ | refine s_fd ?_ | refine s_ix ?_ | refine s_un ?_ | refine s_op ?_) | refine WA_seq' ?_ | refine qT_WA ?_ | refine WA_region ?_ | refine WOs_nil ?_ | (refine g_c ?_; first | refine c_T ?_ | refine c_F ?_) | (refine g_gd ?_; first | refine s_yes ?_ | refine s_no ?_ | refine s_noU ?_) | refine WA_skip ?_ | refine WA_ret ?_ | refine WA_exit ?_ | refine qT_ret ?_ | refine qT_exit ?_ | refine qB_exit ?_ | refine qB_other rfl ?_ | refine qB_normal ?_ | refine qB_ret ?_ | refine WA_block ?_ | refine qT_WAn ?_ | refine WAn_step ?_ | refine qT_normal ?_))
    all_goals first
      | ((refine r_es hQ ?_; try with_reducible rfl); rw [← hE, if_neg]; intro h0; have h1 := h0 _ (List.getElem_mem hi'); unfold plOk Plc Bil at h1; omega)
      | (refine next_ hL (i + 1) ⟨hi', fun j h1 h2 => ?_⟩ (by omega); rcases Nat.lt_or_ge j i with q | q; exact hi2 j h1 q; (have : j = i := by omega); subst this; unfold plOk Plc Bil; omega)
  · simp only [zipT]
    clear FX
    (have FX := And.intro hlen hget; repeat' (first | refine s_tp ?_ | refine s_tn ?_ | ((first | refine WOs_splitD (fun h => ?_) (fun h => ?_) | refine WOs_splitN (fun h => ?_) (fun h => ?_) | refine WDs_splitD (fun h => ?_) (fun h => ?_) | refine WDs_splitN (fun h => ?_) (fun h => ?_)) <;> first | (exfalso; omega) | skip) | (refine g_op ?_; first | (refine g_call ?_; refine g_args ?_; first | (refine s_fn (isplace_c _ _ _ _) ?_ <;> try first | omega | assumption) | (refine s_fn (size_c _ _ _ _ ?_ ?_ _) ?_ <;> try first | omega | assumption) | fail) | refine s_mv ?_ | refine s_as ?_ | refine s_bin ?_ | refine s_ld ?_ | refine s_ia ?_ | refine s_fa ?_ | refine s_fd ?_ | refine s_ix ?_ | refine s_un ?_ | refine s_op ?_) | refine WA_seq' ?_ | refine qT_WA ?_ | refine WA_region ?_ | refine WOs_nil ?_ | (refine g_c ?_; first | refine c_T ?_ | refine c_F ?_) | (refine g_gd ?_; first | refine s_yes ?_ | refine s_no ?_ | refine s_noU ?_) | refine WA_skip ?_ | refine WA_ret ?_ | refine WA_exit ?_ | refine qT_ret ?_ | refine qT_exit ?_ | refine qB_exit ?_ | refine qB_other rfl ?_ | refine qB_normal ?_ | refine qB_ret ?_ | refine WA_block ?_ | refine qT_WAn ?_ | refine WAn_step ?_ | refine qT_normal ?_))
    (refine r_es hQ ?_; try with_reducible rfl)
    rw [← hE, if_pos]
    intro p hp
    obtain ⟨j, hj, rfl⟩ := List.getElem_of_mem hp
    exact hi2 j hj (by omega)

def Sml (n a b c : Int) : Prop := (-n ≤ a ∧ a ≤ n) ∧ (-n ≤ b ∧ b ≤ n) ∧ (-n ≤ c ∧ c ≤ n)
theorem vadd_c (a b c x y z : Int) (h1 : Sml 4000000000000000000 a b c) (h2 : Sml 4000000000000000000 x y z) (m : Mem) : Gives Try.prog 75 [.agg [.int .i64 (a), .int .i64 (b), .int .i64 (c)], .agg [.int .i64 (x), .int .i64 (y), .int .i64 (z)], .int .i64 1] m (.agg [.int .i64 (a + x), .int .i64 (b + y), .int .i64 (c + z)]) := by
  have h := vplus_c a b c x y z 1 m
  unfold Sml at h1 h2
  rw [i64w (n := 1 * x) (by omega) (by omega), i64w (n := 1 * y) (by omega) (by omega), i64w (n := 1 * z) (by omega) (by omega), i64w (by omega) (by omega), i64w (by omega) (by omega), i64w (by omega) (by omega)] at h
  simpa only [Int.one_mul] using h
theorem radd_c (a b c x y z : Int) (h1 : Sml 4000000000000000000 a b c) (h2 : Sml 4000000000000000000 x y z) (m : Mem) : Gives Try.prog 98 [.agg [.int .i64 (a), .int .i64 (b), .int .i64 (c)], .agg [.int .i64 (x), .int .i64 (y), .int .i64 (z)]] m (.agg [.int .i64 (a + x), .int .i64 (b + y), .int .i64 (c + z)]) := by
  have h := plus_c a b c x y z m
  unfold Sml at h1 h2
  rwa [i64w (by omega) (by omega), i64w (by omega) (by omega), i64w (by omega) (by omega)] at h
theorem rsub_c (a b c x y z : Int) (h1 : Sml 4000000000000000000 a b c) (h2 : Sml 4000000000000000000 x y z) (m : Mem) : Gives Try.prog 62 [.agg [.int .i64 (a), .int .i64 (b), .int .i64 (c)], .agg [.int .i64 (x), .int .i64 (y), .int .i64 (z)]] m (.agg [.int .i64 (a - x), .int .i64 (b - y), .int .i64 (c - z)]) := by
  have h := minus_c a b c x y z m
  unfold Sml at h1 h2
  rwa [i64w (by omega) (by omega), i64w (by omega) (by omega), i64w (by omega) (by omega)] at h
theorem mulF {x y : Int} (h1 : -2000000 ≤ x ∧ x ≤ 2000000) (h2 : -1000000000 ≤ y ∧ y ≤ 1000000000) : -2000000000000000 ≤ x * y ∧ x * y ≤ 2000000000000000 := by
  have e : (x * y).natAbs = x.natAbs * y.natAbs := Int.natAbs_mul x y
  have : x.natAbs * y.natAbs ≤ 2000000 * 1000000000 := Nat.mul_le_mul (by omega) (by omega)
  omega
theorem crossW {a b c x y z : Int} (h1 : Sml 2000000 a b c) (h2 : Bil x y z) : (.agg [.int .i64 ((IntKind.i64.wrap ((IntKind.i64.wrap (b * z)) - (IntKind.i64.wrap (c * y))))), .int .i64 ((IntKind.i64.wrap ((IntKind.i64.wrap (c * x)) - (IntKind.i64.wrap (a * z))))), .int .i64 ((IntKind.i64.wrap ((IntKind.i64.wrap (a * y)) - (IntKind.i64.wrap (b * x)))))] : V) = .agg [.int .i64 (b * z - c * y), .int .i64 (c * x - a * z), .int .i64 (a * y - b * x)] := by
  unfold Sml at h1
  unfold Bil at h2
  obtain ⟨a1, a2, a3⟩ := h1
  obtain ⟨x1, x2, x3⟩ := h2
  have p1 := mulF a2 x3
  have p2 := mulF a3 x2
  have p3 := mulF a3 x1
  have p4 := mulF a1 x3
  have p5 := mulF a1 x2
  have p6 := mulF a2 x1
  rw [i64w (n := b * z) (by omega) (by omega), i64w (n := c * y) (by omega) (by omega), i64w (n := c * x) (by omega) (by omega), i64w (n := a * z) (by omega) (by omega), i64w (n := a * y) (by omega) (by omega), i64w (n := b * x) (by omega) (by omega), i64w (by omega) (by omega), i64w (by omega) (by omega), i64w (by omega) (by omega)]
theorem pcr_c (a b c x y z : Int) (h1 : Sml 2000000 a b c) (h2 : Bil x y z) (m : Mem) : Gives Try.prog 115 [.agg [.int .i64 (a), .int .i64 (b), .int .i64 (c)], .agg [.int .i64 (x), .int .i64 (y), .int .i64 (z)]] m (.agg [.int .i64 (b * z - c * y), .int .i64 (c * x - a * z), .int .i64 (a * y - b * x)]) := crossW h1 h2 ▸ cross_c a b c x y z m
theorem rcr_c (a b c x y z : Int) (h1 : Sml 2000000 a b c) (h2 : Bil x y z) (m : Mem) : Gives Try.prog 63 [.agg [.int .i64 (a), .int .i64 (b), .int .i64 (c)], .agg [.int .i64 (x), .int .i64 (y), .int .i64 (z)]] m (.agg [.int .i64 (b * z - c * y), .int .i64 (c * x - a * z), .int .i64 (a * y - b * x)]) := crossW h1 h2 ▸ rcross_c a b c x y z m
def sumK {α : Type} (f : α → Int) (l : List α) (k : Nat) : Int := ((l.take k).map f).sum
theorem sumK_zero {α : Type} {f : α → Int} {l : List α} : sumK f l 0 = 0 := by simp [sumK]
theorem sumK_succ {α : Type} {f : α → Int} {l : List α} {k : Nat} (h : k < l.length) : sumK f l (k + 1) = sumK f l k + f l[k] := by
  unfold sumK
  rw [List.take_succ_eq_append_getElem h, List.map_append, List.sum_append]
  simp
theorem sumK_bd {α : Type} {f : α → Int} {l : List α} {M : Int} (hM : 0 ≤ M) (hf : ∀ p ∈ l, -M ≤ f p ∧ f p ≤ M) : ∀ k, k ≤ l.length → -(k * M) ≤ sumK f l k ∧ sumK f l k ≤ k * M
  | 0, _ => by simp [sumK]
  | k + 1, h => by
    have := sumK_bd hM hf k (by omega)
    have q := hf _ (List.getElem_mem (by omega : k < l.length))
    rw [sumK_succ (by omega)]
    have e : ((k + 1 : Nat) : Int) * M = k * M + M := by rw [Int.natCast_add, Int.add_mul]; simp
    rw [e]
    omega
def mX (v w : Int) (p : Pl) : Int := (p.b - v) * p.z - (p.c - w) * p.y
def mY (u w : Int) (p : Pl) : Int := (p.c - w) * p.x - (p.a - u) * p.z
def mZ (u v : Int) (p : Pl) : Int := (p.a - u) * p.y - (p.b - v) * p.x
theorem psum_c (l : List Pl) (hl : l.length ≤ 300) (hok : ∀ p ∈ l, plOk p) (m : Mem) : Gives Try.prog 99 [.lst (plsV l)] m (.agg [.int .i64 (sumK Pl.x l l.length), .int .i64 (sumK Pl.y l l.length), .int .i64 (sumK Pl.z l l.length)]) := by
  have hlen := plsV_length (l := l)
  have hget := hlen
  have z1 := sumK_zero (f := Pl.x) (l := l)
  have z2 := sumK_zero (f := Pl.y) (l := l)
  have z3 := sumK_zero (f := Pl.z) (l := l)
  have B1 := sumK_bd (f := Pl.x) (l := l) (M := 1000000000) (by omega) (fun p hp => by have := hok p hp; unfold plOk Bil at this; omega)
  have B2 := sumK_bd (f := Pl.y) (l := l) (M := 1000000000) (by omega) (fun p hp => by have := hok p hp; unfold plOk Bil at this; omega)
  have B3 := sumK_bd (f := Pl.z) (l := l) (M := 1000000000) (by omega) (fun p hp => by have := hok p hp; unfold plOk Bil at this; omega)
  refine Gives_in Try.func99 rfl Try.ntmps99 Try.results99 (by kernel_rfl) (by simp) rfl fun Q hQ => ?_
  (have FX := And.intro hlen hget; repeat' (first | refine s_tp ?_ | refine s_tn ?_ | ((first | refine WOs_splitD (fun h => ?_) (fun h => ?_) | refine WOs_splitN (fun h => ?_) (fun h => ?_) | refine WDs_splitD (fun h => ?_) (fun h => ?_) | refine WDs_splitN (fun h => ?_) (fun h => ?_)) <;> first | (exfalso; omega) | skip) | (refine g_op ?_; first | (refine g_call ?_; refine g_args ?_; first | (refine s_fn (vadd_c _ _ _ _ _ _ ?_ ?_ _) ?_ <;> try first | omega | assumption) | fail) | refine s_mv ?_ | refine s_as ?_ | refine s_bin ?_ | refine s_ld ?_ | refine s_ia ?_ | refine s_fa ?_ | refine s_fd ?_ | refine s_ix ?_ | refine s_un ?_ | refine s_op ?_) | refine WA_seq' ?_ | refine qT_WA ?_ | refine WA_region ?_ | refine WOs_nil ?_ | (refine g_c ?_; first | refine c_T ?_ | refine c_F ?_) | (refine g_gd ?_; first | refine s_yes ?_ | refine s_no ?_ | refine s_noU ?_) | refine WA_skip ?_ | refine WA_ret ?_ | refine WA_exit ?_ | refine qT_ret ?_ | refine qT_exit ?_ | refine qB_exit ?_ | refine qB_other rfl ?_ | refine qB_normal ?_ | refine qB_ret ?_ | refine WA_block ?_ | refine qT_WAn ?_ | refine WAn_step ?_ | refine qT_normal ?_))
  refine WA_whileL (σ := Nat) (L := m) [2, 3, 6, 7, 8] (fun i => [.ptr (lend m).length 0 0, .ptr ((lend m).length + 1) 0 0, .lst (plsV l), .int .i64 l.length, .int .i64 i]) (fun i => [.cells .own 121 3 [[.int .i64 0, .int .i64 0, .int .i64 0]], .cells .own 121 3 [[.int .i64 (sumK Pl.x l i), .int .i64 (sumK Pl.y l i), .int .i64 (sumK Pl.z l i)]]]) 2 (fun i => i ≤ l.length) (fun i => l.length - i) 0 (Nat.zero_le _) tv_ (by rw [z1, z2, z3]) (fun _ => rfl) ?_ (fun _ => rfl) ?_
  · intro s v hv
    simp only [List.mem_cons, List.not_mem_nil, or_false] at hv
    rcases hv with rfl | rfl | rfl | rfl | rfl
    all_goals first | rfl | exact plsV_plain l | (simp [V.keeps]; done)
  intro i hi1 K2 hL
  have b1 := B1 i hi1
  have b2 := B2 i hi1
  have b3 := B3 i hi1
  rcases Nat.lt_or_ge i l.length with hi' | hi'
  · have hget := plsV_get hi'
    have hp := hok _ (List.getElem_mem hi')
    have e1 := sumK_succ (f := Pl.x) hi'
    have e2 := sumK_succ (f := Pl.y) hi'
    have e3 := sumK_succ (f := Pl.z) hi'
    have s1 : Sml 4000000000000000000 (sumK Pl.x l i) (sumK Pl.y l i) (sumK Pl.z l i) := by unfold Sml; omega
    have s2 : Sml 4000000000000000000 l[i].x l[i].y l[i].z := by unfold plOk Bil at hp; unfold Sml; omega
    simp only [zipT]
    clear FX
    (have FX := And.intro hlen hget; repeat' (first | refine s_tp ?_ | refine s_tn ?_ | ((first | refine WOs_splitD (fun h => ?_) (fun h => ?_) | refine WOs_splitN (fun h => ?_) (fun h => ?_) | refine WDs_splitD (fun h => ?_) (fun h => ?_) | refine WDs_splitN (fun h => ?_) (fun h => ?_)) <;> first | (exfalso; omega) | skip) | (refine g_op ?_; first | (refine g_call ?_; refine g_args ?_; first | (refine s_fn (vadd_c _ _ _ _ _ _ ?_ ?_ _) ?_ <;> try first | omega | assumption) | fail) | refine s_mv ?_ | refine s_as ?_ | refine s_bin ?_ | refine s_ld ?_ | refine s_ia ?_ | refine s_fa ?_ | refine s_fd ?_ | refine s_ix ?_ | refine s_un ?_ | refine s_op ?_) | refine WA_seq' ?_ | refine qT_WA ?_ | refine WA_region ?_ | refine WOs_nil ?_ | (refine g_c ?_; first | refine c_T ?_ | refine c_F ?_) | (refine g_gd ?_; first | refine s_yes ?_ | refine s_no ?_ | refine s_noU ?_) | refine WA_skip ?_ | refine WA_ret ?_ | refine WA_exit ?_ | refine qT_ret ?_ | refine qT_exit ?_ | refine qB_exit ?_ | refine qB_other rfl ?_ | refine qB_normal ?_ | refine qB_ret ?_ | refine WA_block ?_ | refine qT_WAn ?_ | refine WAn_step ?_ | refine qT_normal ?_))
    all_goals (rw [← e1, ← e2, ← e3]; refine nextL_ hL (i + 1) hi' (by omega))
  · have e : i = l.length := by omega
    subst e
    simp only [zipT]
    clear FX
    (have FX := And.intro hlen hget; repeat' (first | refine s_tp ?_ | refine s_tn ?_ | ((first | refine WOs_splitD (fun h => ?_) (fun h => ?_) | refine WOs_splitN (fun h => ?_) (fun h => ?_) | refine WDs_splitD (fun h => ?_) (fun h => ?_) | refine WDs_splitN (fun h => ?_) (fun h => ?_)) <;> first | (exfalso; omega) | skip) | (refine g_op ?_; first | (refine g_call ?_; refine g_args ?_; first | (refine s_fn (vadd_c _ _ _ _ _ _ ?_ ?_ _) ?_ <;> try first | omega | assumption) | fail) | refine s_mv ?_ | refine s_as ?_ | refine s_bin ?_ | refine s_ld ?_ | refine s_ia ?_ | refine s_fa ?_ | refine s_fd ?_ | refine s_ix ?_ | refine s_un ?_ | refine s_op ?_) | refine WA_seq' ?_ | refine qT_WA ?_ | refine WA_region ?_ | refine WOs_nil ?_ | (refine g_c ?_; first | refine c_T ?_ | refine c_F ?_) | (refine g_gd ?_; first | refine s_yes ?_ | refine s_no ?_ | refine s_noU ?_) | refine WA_skip ?_ | refine WA_ret ?_ | refine WA_exit ?_ | refine qT_ret ?_ | refine qT_exit ?_ | refine qB_exit ?_ | refine qB_other rfl ?_ | refine qB_normal ?_ | refine qB_ret ?_ | refine WA_block ?_ | refine qT_WAn ?_ | refine WAn_step ?_ | refine qT_normal ?_))
    all_goals (refine r_es hQ ?_; try with_reducible rfl)
end Go.Proofs.Yteogokmbedmkjaa
