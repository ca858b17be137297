import Derived.Test.YteogokmbedmkjaaG28
import Derived.Test.YteogokmbedmkjaaYC
import Derived.Test.YteogokmbedmkjaaG36
namespace Go.Proofs.Yteogokmbedmkjaa
open Go.RowKit
attribute [local irreducible] WA WOs WDs WAn qThen qBlock tput
set_option maxHeartbeats 1000000
set_option maxRecDepth 20000
set_option linter.unusedSimpArgs false
set_option linter.unusedVariables false
def bSt (i : Nat) : TV := match i with | 0 => .v .nilsl | i + 1 => .sl 3 (i + 1)
def bE (a b w : Int) (ls : List (Int × Int)) (i : Nat) : List TB :=
  .cells .own 81 3 [[.v (.int .i64 a), .v (.int .i64 b), .v (.int .i64 w)]] :: .cells .own 140 4 [[.v (.int .i64 0), .v (.int .i64 0), .v (.int .i64 0), .v .nilsl]] :: .cells .own 140 4 [[.v (.int .i64 a), .v (.int .i64 b), .v (.int .i64 w), bSt i]] ::
    (match i with | 0 => [] | i + 1 => [.cells .own 154 2 ((ldsV (ls.take (i + 1))).map (List.map .v))])
theorem lds_succ {ls : List (Int × Int)} {i : Nat} (h : i < ls.length) : ldsV (ls.take (i + 1)) = ldsV (ls.take i) ++ [[.int .i64 ls[i].1, .int .i64 ls[i].2]] := by
  rw [List.take_succ_eq_append_getElem h]; unfold ldsV; rw [List.map_append]; rfl
theorem lds_len {ls : List (Int × Int)} {i : Nat} (h : i ≤ ls.length) : (ldsV (ls.take i)).length = i := by simp [ldsV]; omega
theorem rel_agg_last {w : World} {ρ : List Re} {B : Nat → Prop} {cs : List V} {u u' : V} {x : Value} (ha : ∀ y, RelV w ρ B u y → RelV w ρ B u' y) (h : RelV w ρ B (.agg (cs ++ [u])) x) : RelV w ρ B (.agg (cs ++ [u'])) x := by
  cases h with
  | agg _ xs hl hh =>
    refine .agg _ _ (by simpa using hl) fun i c x h1 h2 => ?_
    rcases Nat.lt_or_ge i cs.length with q | q
    · refine hh i c x ?_ h2
      rw [List.getElem?_append_left q] at h1 ⊢
      exact h1
    · rw [List.getElem?_append_right q] at h1
      rcases hi : i - cs.length with _ | k
      · rw [hi] at h1
        simp at h1
        subst h1
        refine ha _ (hh i u x ?_ h2)
        rw [List.getElem?_append_right q, hi]; rfl
      · rw [hi] at h1; simp at h1
theorem fin_beam {m0 D X B : Mem} {j k : Nat} {st : Sta} {ty sz : Nat} {es : List (List V)} {a b w : Int} {R : V → Option Mem → Prop} (hB : B = lend m0 ++ D) (hX : X[j]? = some (.cells st ty sz es)) (hk : k ≤ es.length) (hp : plainLL (es.take k) = true) (h : R (.agg [.int .i64 a, .int .i64 b, .int .i64 w, .lst (es.take k)]) none) :
    Fin m0 R (.agg [.int .i64 a, .int .i64 b, .int .i64 w, .sl (B.length + j) k]) (B ++ X) := by
  subst hB
  refine .inr ⟨D ++ X, _, by simp, ?_, h⟩
  show (frzs (frz _ _ 3) _).map V.agg = _
  simp only [frzs, frz_int, frz_sl (n := 2) hX hk hp, Option.map_some]
theorem beamof_c (a b w : Int) (ls : List (Int × Int)) (hl : ls.length ≤ 1000000) (m : Mem) : Gives Try.prog 94 [.agg [.int .i64 a, .int .i64 b, .int .i64 w], .lst (ldsV ls)] m (.agg [.int .i64 a, .int .i64 b, .int .i64 w, .lst (ldsV ls)]) := by
  have hlen := ldsV_length (ls := ls)
  have hget := hlen
  by_cases hne : ls = []
  · subst hne
    refine Gives_weak (v := .agg ([.int .i64 a, .int .i64 b, .int .i64 w] ++ [.nilsl])) ?_ (fun _ _ _ _ hr => rel_agg_last (u' := .lst (ldsV [])) (fun _ hy => rel_nil hy) hr)
    refine Gives_in Try.func94 rfl Try.ntmps94 Try.results94 (by kernel_rfl) (by simp) rfl fun Q hQ => ?_
    (have FX := And.intro hlen hget; repeat' (first | refine s_tp ?_ | refine s_tn ?_ | ((first | refine WOs_splitD (fun h => ?_) (fun h => ?_) | refine WOs_splitN (fun h => ?_) (fun h => ?_) | refine WDs_splitD (fun h => ?_) (fun h => ?_) | refine WDs_splitN (fun h => ?_) (fun h => ?_)) <;> first | (exfalso; omega) | skip) | (refine g_op ?_; first | (refine g_call ?_; refine g_args ?_; first | fail) | refine s_mv ?_ | refine s_as ?_ | refine s_bin ?_ | refine s_ld ?_ | refine s_ia ?_ | refine s_fa ?_ | refine s_fd ?_ | refine s_ix ?_ | refine s_un ?_ | refine s_op ?_) | refine WA_seq' ?_ | refine qT_WA ?_ | refine WA_region ?_ | refine WOs_nil ?_ | (refine g_c ?_; first | refine c_T ?_ | refine c_F ?_) | (refine g_gd ?_; first | refine s_yes ?_ | refine s_no ?_ | refine s_noU ?_) | refine WA_skip ?_ | refine WA_ret ?_ | refine WA_exit ?_ | refine qT_ret ?_ | refine qT_exit ?_ | refine qB_exit ?_ | refine qB_other rfl ?_ | refine qB_normal ?_ | refine qB_ret ?_ | refine WA_block ?_ | refine qT_WAn ?_ | refine WAn_step ?_ | refine qT_normal ?_))
    refine WA_rounds 2 ?_
    (have FX := And.intro hlen hget; repeat' (first | refine s_tp ?_ | refine s_tn ?_ | ((first | refine WOs_splitD (fun h => ?_) (fun h => ?_) | refine WOs_splitN (fun h => ?_) (fun h => ?_) | refine WDs_splitD (fun h => ?_) (fun h => ?_) | refine WDs_splitN (fun h => ?_) (fun h => ?_)) <;> first | (exfalso; omega) | skip) | (refine g_op ?_; first | (refine g_call ?_; refine g_args ?_; first | fail) | refine s_mv ?_ | refine s_as ?_ | refine s_bin ?_ | refine s_ld ?_ | refine s_ia ?_ | refine s_fa ?_ | refine s_fd ?_ | refine s_ix ?_ | refine s_un ?_ | refine s_op ?_) | refine WA_seq' ?_ | refine qT_WA ?_ | refine WA_region ?_ | refine WOs_nil ?_ | (refine g_c ?_; first | refine c_T ?_ | refine c_F ?_) | (refine g_gd ?_; first | refine s_yes ?_ | refine s_no ?_ | refine s_noU ?_) | refine WA_skip ?_ | refine WA_ret ?_ | refine WA_exit ?_ | refine qT_ret ?_ | refine qT_exit ?_ | refine qB_exit ?_ | refine qB_other rfl ?_ | refine qB_normal ?_ | refine qB_ret ?_ | refine WA_block ?_ | refine qT_WAn ?_ | refine WAn_step ?_ | refine qT_normal ?_))
    all_goals ((refine r_es hQ ?_; try with_reducible rfl); rfl)
  have hl0 : 0 < ls.length := List.length_pos_iff.2 hne
  refine CallA_in Try.func94 rfl Try.ntmps94 Try.results94 (by kernel_rfl) (by simp) fun Q hQ => ?_
  (have FX := And.intro hlen hget; repeat' (first | refine s_tp ?_ | refine s_tn ?_ | ((first | refine WOs_splitD (fun h => ?_) (fun h => ?_) | refine WOs_splitN (fun h => ?_) (fun h => ?_) | refine WDs_splitD (fun h => ?_) (fun h => ?_) | refine WDs_splitN (fun h => ?_) (fun h => ?_)) <;> first | (exfalso; omega) | skip) | (refine g_op ?_; first | (refine g_call ?_; refine g_args ?_; first | fail) | refine s_mv ?_ | refine s_as ?_ | refine s_bin ?_ | refine s_ld ?_ | refine s_ia ?_ | refine s_fa ?_ | refine s_fd ?_ | refine s_ix ?_ | refine s_un ?_ | refine s_op ?_) | refine WA_seq' ?_ | refine qT_WA ?_ | refine WA_region ?_ | refine WOs_nil ?_ | (refine g_c ?_; first | refine c_T ?_ | refine c_F ?_) | (refine g_gd ?_; first | refine s_yes ?_ | refine s_no ?_ | refine s_noU ?_) | refine WA_skip ?_ | refine WA_ret ?_ | refine WA_exit ?_ | refine qT_ret ?_ | refine qT_exit ?_ | refine qB_exit ?_ | refine qB_other rfl ?_ | refine qB_normal ?_ | refine qB_ret ?_ | refine WA_block ?_ | refine qT_WAn ?_ | refine WAn_step ?_ | refine qT_normal ?_))
  refine WA_whileT (σ := Nat) (L := lend m) [4, 5, 10, 11, 12] (fun i => [.ptr 1 0 0, .ptr 2 0 0, .v (.lst (ldsV ls)), .v (.int .i64 ls.length), .v (.int .i64 i)]) (bE a b w ls) (fun i => i ≤ ls.length) (fun i => ls.length - i) 0 (Nat.zero_le _) ?_ ?_ (by decide) ?_ ?_ ?_
  · simp [tget, TV.inst, argT]
  · simp [bE, bSt, TB.inst, TV.inst]
  · intro i _; cases i <;> simp [TV.okT, bE]
  · intro i _; cases i <;> simp [TB.ok, TV.okT, bE, bSt]
  rintro i hi1 B ⟨D, hB⟩ K hK
  rcases Nat.lt_or_ge i ls.length with hi' | hi'
  · have hget := ldsV_get hi'
    have hso := lds_succ hi'
    have hol := lds_len (ls := ls) (i := i) (by omega)
    rcases i with _ | i
    · simp only [bE, bSt]
      simp only [List.map_cons, List.map_nil, TB.inst, TV.inst, tv_map, zipT, List.cons_append, List.nil_append, Nat.add_zero]
      clear FX
      (have FX := And.intro hlen hget; repeat' (first | refine s_tp ?_ | refine s_tn ?_ | ((first | refine WOs_splitD (fun h => ?_) (fun h => ?_) | refine WOs_splitN (fun h => ?_) (fun h => ?_) | refine WDs_splitD (fun h => ?_) (fun h => ?_) | refine WDs_splitN (fun h => ?_) (fun h => ?_)) <;> first | (exfalso; omega) | skip) | (refine g_op ?_; first | (refine g_call ?_; refine g_args ?_; first | fail) | refine s_mv ?_ | refine s_as ?_ | refine s_bin ?_ | refine s_ld ?_ | refine s_ia ?_ | refine s_fa ?_ | refine s_fd ?_ | refine s_ix ?_ | refine s_un ?_ | refine s_op ?_) | refine WA_seq' ?_ | refine qT_WA ?_ | refine WA_region ?_ | refine WOs_nil ?_ | (refine g_c ?_; first | refine c_T ?_ | refine c_F ?_) | (refine g_gd ?_; first | refine s_yes ?_ | refine s_no ?_ | refine s_noU ?_) | refine WA_skip ?_ | refine WA_ret ?_ | refine WA_exit ?_ | refine qT_ret ?_ | refine qT_exit ?_ | refine qB_exit ?_ | refine qB_other rfl ?_ | refine qB_normal ?_ | refine qB_ret ?_ | refine WA_block ?_ | refine qT_WAn ?_ | refine WAn_step ?_ | refine qT_normal ?_))
      all_goals (refine nextU_ hK (0 + 1) [0, 1, 2, 5] (by omega) (by omega) ?_)
      all_goals (simp only [bE, bSt, List.map_cons, List.map_nil, TB.inst, TV.inst, tv_map, List.cons_append, List.nil_append]; rw [hso]; first | rfl | (simp [ldsV]; done))
    · have hoa : (ldsV (ls.take (i + 1))).take (i + 1) = ldsV (ls.take (i + 1)) := by rw [List.take_of_length_le (by omega)]
      simp only [bE, bSt]
      simp only [List.map_cons, List.map_nil, TB.inst, TV.inst, tv_map, zipT, List.cons_append, List.nil_append, Nat.add_zero]
      clear FX
      (have FX := And.intro hlen (And.intro hget (And.intro hol hoa)); repeat' (first | refine s_tp ?_ | refine s_tn ?_ | ((first | refine WOs_splitD (fun h => ?_) (fun h => ?_) | refine WOs_splitN (fun h => ?_) (fun h => ?_) | refine WDs_splitD (fun h => ?_) (fun h => ?_) | refine WDs_splitN (fun h => ?_) (fun h => ?_)) <;> first | (exfalso; omega) | skip) | (refine g_op ?_; first | (refine g_call ?_; refine g_args ?_; first | fail) | refine s_mv ?_ | refine s_as ?_ | refine s_bin ?_ | refine s_ld ?_ | refine s_ia ?_ | refine s_fa ?_ | refine s_fd ?_ | refine s_ix ?_ | refine s_un ?_ | refine s_op ?_) | refine WA_seq' ?_ | refine qT_WA ?_ | refine WA_region ?_ | refine WOs_nil ?_ | (refine g_c ?_; first | refine c_T ?_ | refine c_F ?_) | (refine g_gd ?_; first | refine s_yes ?_ | refine s_no ?_ | refine s_noU ?_) | refine WA_skip ?_ | refine WA_ret ?_ | refine WA_exit ?_ | refine qT_ret ?_ | refine qT_exit ?_ | refine qB_exit ?_ | refine qB_other rfl ?_ | refine qB_normal ?_ | refine qB_ret ?_ | refine WA_block ?_ | refine qT_WAn ?_ | refine WAn_step ?_ | refine qT_normal ?_))
      all_goals (refine nextU_ hK (i + 1 + 1) [0, 1, 2, 6] (by omega) (by omega) ?_)
      all_goals (simp only [bE, bSt, List.map_cons, List.map_nil, TB.inst, TV.inst, tv_map, List.cons_append, List.nil_append]; rw [hso]; first | rfl | (simp [ldsV]; done))
  · have hie : i = ls.length := by omega
    subst hie
    have hol := lds_len (ls := ls) (i := ls.length) (by omega)
    obtain ⟨n, hn⟩ : ∃ n, ls.length = n + 1 := ⟨ls.length - 1, by omega⟩
    have htk : ls.take (n + 1) = ls := List.take_of_length_le (by omega)
    simp only [hn, bE, bSt]
    simp only [List.map_cons, List.map_nil, TB.inst, TV.inst, tv_map, zipT, List.cons_append, List.nil_append, Nat.add_zero]
    clear FX
    (have FX := And.intro hlen hol; repeat' (first | refine s_tp ?_ | refine s_tn ?_ | ((first | refine WOs_splitD (fun h => ?_) (fun h => ?_) | refine WOs_splitN (fun h => ?_) (fun h => ?_) | refine WDs_splitD (fun h => ?_) (fun h => ?_) | refine WDs_splitN (fun h => ?_) (fun h => ?_)) <;> first | (exfalso; omega) | skip) | (refine g_op ?_; first | (refine g_call ?_; refine g_args ?_; first | fail) | refine s_mv ?_ | refine s_as ?_ | refine s_bin ?_ | refine s_ld ?_ | refine s_ia ?_ | refine s_fa ?_ | refine s_fd ?_ | refine s_ix ?_ | refine s_un ?_ | refine s_op ?_) | refine WA_seq' ?_ | refine qT_WA ?_ | refine WA_region ?_ | refine WOs_nil ?_ | (refine g_c ?_; first | refine c_T ?_ | refine c_F ?_) | (refine g_gd ?_; first | refine s_yes ?_ | refine s_no ?_ | refine s_noU ?_) | refine WA_skip ?_ | refine WA_ret ?_ | refine WA_exit ?_ | refine qT_ret ?_ | refine qT_exit ?_ | refine qB_exit ?_ | refine qB_other rfl ?_ | refine qB_normal ?_ | refine qB_ret ?_ | refine WA_block ?_ | refine qT_WAn ?_ | refine WAn_step ?_ | refine qT_normal ?_))
    rw [hn] at hol
    all_goals (refine r_esA hQ ?_)
    all_goals (refine fin_beam (D := D) (j := 3) hB rfl (by rw [hol]; exact Nat.le_refl _) (by rw [List.take_of_length_le (by omega)]; exact ldsV_plain _) ⟨?_, rfl⟩)
    all_goals (rw [List.take_of_length_le (by omega), htk])
theorem width_c (a b w : Int) (x : List (List V)) (ha : -20000 ≤ a ∧ a ≤ 20000) (hb : -20000 ≤ b ∧ b ≤ 20000) (m : Mem) : Gives Try.prog 96 [.agg [.int .i64 a, .int .i64 b, .int .i64 w, .lst x]] m (.int .i64 (b - a)) := by
  refine Gives_in Try.func96 rfl Try.ntmps96 Try.results96 (by kernel_rfl) (by simp) rfl fun Q hQ => ?_
  (repeat' (first | refine s_tp ?_ | refine s_tn ?_ | ((first | refine WOs_splitD (fun h => ?_) (fun h => ?_) | refine WOs_splitN (fun h => ?_) (fun h => ?_) | refine WDs_splitD (fun h => ?_) (fun h => ?_) | refine WDs_splitN (fun h => ?_) (fun h => ?_)) <;> first | (exfalso; omega) | skip) | (refine g_op ?_; first | (refine g_call ?_; refine g_args ?_; first | fail) | refine s_mv ?_ | refine s_as ?_ | refine s_bin ?_ | refine s_ld ?_ | refine s_ia ?_ | refine s_fa ?_ | refine s_fd ?_ | refine s_ix ?_ | refine s_un ?_ | refine s_op ?_) | refine WA_seq' ?_ | refine qT_WA ?_ | refine WA_region ?_ | refine WOs_nil ?_ | (refine g_c ?_; first | refine c_T ?_ | refine c_F ?_) | (refine g_gd ?_; first | refine s_yes ?_ | refine s_no ?_ | refine s_noU ?_) | refine WA_skip ?_ | refine WA_ret ?_ | refine WA_exit ?_ | refine qT_ret ?_ | refine qT_exit ?_ | refine qB_exit ?_ | refine qB_other rfl ?_ | refine qB_normal ?_ | refine qB_ret ?_ | refine WA_block ?_ | refine qT_WAn ?_ | refine WAn_step ?_ | refine qT_normal ?_))
  all_goals (refine r_es hQ ?_; try with_reducible rfl)
end Go.Proofs.Yteogokmbedmkjaa
