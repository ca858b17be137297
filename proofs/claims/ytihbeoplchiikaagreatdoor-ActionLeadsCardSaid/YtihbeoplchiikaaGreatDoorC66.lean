/- contracts: comparisons of lists, copies of leads -/
import Derived.Test.YtihbeoplchiikaaGreatDoorC61
import Derived.Test.YtihbeoplchiikaaGreatDoorYE
set_option linter.unusedSimpArgs false
set_option linter.unusedVariables false
namespace Go.Proofs.YtihbeoplchiikaaGreatDoor
open Go.RowKit
attribute [local irreducible] WA WOs WDs WAn qThen qBlock tput
set_option maxHeartbeats 1000000
set_option maxRecDepth 20000
set_option linter.unusedSimpArgs false
set_option linter.unusedVariables false
theorem cmpI_nat (a b : Nat) : cmpI (a : Int) (b : Int) = if a < b then -1 else if b < a then 1 else 0 := by
  unfold cmpI
  split <;> split <;> (try split) <;> (try split) <;> omega
theorem lexC_at : ∀ {l b : List Nat} {i : Nat}, i < l.length → i < b.length → l.take i = b.take i → l.getD i 0 ≠ b.getD i 0 → lexC l b = if l.getD i 0 < b.getD i 0 then -1 else 1
  | x :: r, y :: s, 0, _, _, _, h => by
    simp only [List.getD_cons_zero] at h ⊢
    rw [lexC]
    split
    · rfl
    · rw [if_pos (by omega)]
  | x :: r, y :: s, i + 1, h1, h2, h3, h => by
    simp only [List.take_succ_cons, List.cons.injEq] at h3
    simp only [List.getD_cons_succ] at h ⊢
    rw [lexC, if_neg (by omega), if_neg (by omega)]
    exact lexC_at (by simpa using h1) (by simpa using h2) h3.2 h
theorem lexC_pre : ∀ {l b : List Nat}, l = b.take l.length → lexC l b = if l.length < b.length then -1 else 0
  | [], [], _ => rfl
  | [], _ :: _, _ => by simp [lexC]
  | x :: r, [], h => by simp at h
  | x :: r, y :: s, h => by
    simp only [List.length_cons, List.take_succ_cons, List.cons.injEq] at h
    rw [lexC, if_neg (by omega), if_neg (by omega), lexC_pre h.2]
    simp only [List.length_cons, Nat.add_lt_add_iff_right]
theorem lexC_long : ∀ {l b : List Nat}, b.length < l.length → b = l.take b.length → lexC l b = 1
  | _ :: _, [], _, _ => rfl
  | x :: r, y :: s, h, h2 => by
    simp only [List.length_cons, List.take_succ_cons, List.cons.injEq] at h2
    rw [lexC, if_neg (by omega), if_neg (by omega)]
    exact lexC_long (by simpa using h) h2.2
theorem take_step {l b : List Nat} {i : Nat} (h1 : i < l.length) (h2 : i < b.length) (h : l.take i = b.take i) (he : l.getD i 0 = b.getD i 0) : l.take (i + 1) = b.take (i + 1) := by
  rw [List.take_succ_eq_append_getElem h1, List.take_succ_eq_append_getElem h2, h]
  rw [List.getD_eq_getElem?_getD, List.getD_eq_getElem?_getD, List.getElem?_eq_getElem h1, List.getElem?_eq_getElem h2] at he
  simp only [Option.getD_some] at he
  rw [he]

theorem scompare_c (l b : List Nat) (hl : l.length ≤ 1000) (hb : b.length ≤ 1000) (m : Mem) : Gives Tryz.prog 26 [.lst (nlV l), .lst (nlV b)] m (.int .i64 (lexC l b)) := by
  have hl1 := nlV_length (l := l)
  have hl2 := nlV_length (l := b)
  have hg1 := hl1
  have hg2 := hl1
  refine Gives_in Tryz.func26 rfl Tryz.ntmps26 Tryz.results26 (by kernel_rfl) (by simp) rfl fun Q hQ => ?_
  (have FX := fx4 hl1 hl2 hg1 hg2; repeat' (first | (refine sx ?_ ?_ <;> intro h <;> first | (exfalso; omega) | skip) | (refine na ?_; (first | refine nb (ccompare_c _ _) ?_) <;> try first | omega | assumption) | refine ny ?_ | refine WA_block ?_))
  refine WA_while (σ := Nat) [0, 1, 9, 10, 11] (fun i => [.lst (nlV l), .lst (nlV b), .lst (nlV l), .int .i64 l.length, .int .i64 i]) (fun _ => lend m ++ []) (fun i => i ≤ l.length ∧ i ≤ b.length ∧ l.take i = b.take i) (fun i => l.length - i) 0 ⟨Nat.zero_le _, Nat.zero_le _, rfl⟩ tv_ rfl ?_
  rintro i ⟨hi, hib, ht⟩ L hL
  simp only [zipT]
  clear FX hg1 hg2
  rcases Nat.lt_or_ge i l.length with hlt | hge
  · rcases Nat.lt_or_ge i b.length with hlb | hgb
    · have hg1 := nlV_get hlt
      have hg2 := nlV_get hlb
      have hat := lexC_at hlt hlb ht
      have hst := take_step hlt hlb ht
      have hcm := cmpI_nat (l.getD i 0) (b.getD i 0)
      generalize l.getD i 0 = x at *
      generalize b.getD i 0 = y at *
      generalize hce : cmpI (x : Int) (y : Int) = ce at *
      (have FX := fx4 hl1 hl2 hg1 hg2; repeat' (first | (refine sx ?_ ?_ <;> intro h <;> first | (exfalso; omega) | skip) | (refine na ?_; (first | refine nb (ccompare_c (x : Int) (y : Int)) ?_) <;> try first | omega | assumption) | refine ny ?_ | refine WA_block ?_))
      all_goals (try (exfalso; omega))
      · (refine r_es hQ ?_; try with_reducible rfl)
        have hxy : x ≠ y := by rintro rfl; rw [if_neg (by omega), if_neg (by omega)] at hcm; omega
        rw [hat hxy, hce, hcm]
        split
        · rfl
        · rw [if_pos (by omega)]
      · have hxy : x = y := by
          rw [hce] at *
          rcases Nat.lt_trichotomy x y with q | q | q
          · rw [if_pos q] at hcm; omega
          · exact q
          · rw [if_neg (by omega), if_pos q] at hcm; omega
        exact next_ hL (i + 1) ⟨by omega, by omega, hst hxy⟩ (by omega)
    · obtain rfl : i = b.length := by omega
      have hg1 := nlV_get hlt
      have hg2 := hl1
      (have FX := fx4 hl1 hl2 hg1 hg2; repeat' (first | (refine sx ?_ ?_ <;> intro h <;> first | (exfalso; omega) | skip) | (refine na ?_; (first | refine nb (ccompare_c (x : Int) (y : Int)) ?_) <;> try first | omega | assumption) | refine ny ?_ | refine WA_block ?_))
      all_goals (try (exfalso; omega))
      (refine r_es hQ ?_; try with_reducible rfl)
      rw [lexC_long (by omega) (by rw [ht, List.take_length])]
  · obtain rfl : i = l.length := by omega
    have hg1 := hl1
    have hg2 := hl1
    have hpre := lexC_pre (l := l) (b := b) (by rw [← ht, List.take_length])
    rw [hpre] at hQ
    (have FX := fx4 hl1 hl2 hg1 hg2; repeat' (first | (refine sx ?_ ?_ <;> intro h <;> first | (exfalso; omega) | skip) | (refine na ?_; (first | refine nb (ccompare_c (x : Int) (y : Int)) ?_) <;> try first | omega | assumption) | refine ny ?_ | refine WA_block ?_))
    all_goals (try (exfalso; omega))
    · (refine r_es hQ ?_; try with_reducible rfl)
      rw [if_pos (by omega)]
    · (refine r_es hQ ?_; try with_reducible rfl)
      rw [if_neg (by omega)]

theorem cmpK_eq (l b : List Nat) : (if cmpI (l.length : Int) (b.length : Int) ≠ 0 then cmpI (l.length : Int) (b.length : Int) else lexC l b) = cmpK l b := by
  rw [cmpI_nat]
  unfold cmpK
  split <;> split <;> (try split) <;> (try rfl) <;> omega

theorem sclone_o (l : List (Int × Int)) (hl : l.length ≤ 1000) (m : Mem) : CallA Tryz.prog 27 [.lst (ldsV l)] m fun v mo => (l = [] ∧ v = .nilsl ∧ mo = some (m ++ [])) ∨ (v = .sl (m.length + 1) l.length ∧ mo = some (m ++ [.dead, .cells .own 72 2 (ldsV l)])) := by
  cases l with
  | nil =>
    have hla : (ldsV []).length = 0 := rfl
    have hal : ∀ n, n = 2 → (ldsV []).all (fun e => e.length == n) = true := fun n h => by simp [ldsV]
    refine CallA_inO Tryz.func27 rfl Tryz.ntmps27 Tryz.results27 (by kernel_rfl) (by simp) fun Q hQ => ?_
    rw [show ldsV [] = [] from rfl] at *
    (have FX := And.intro hla hal; repeat' (first | (refine sx ?_ ?_ <;> intro h <;> first | (exfalso; omega) | skip) | refine ny ?_ | refine WA_block ?_))
    refine s_nl0 ?_ ?_ rfl lk_ lk_ ⟨72, by kernel_rfl⟩
    · (have FX := And.intro hla hal; repeat' (first | (refine sx ?_ ?_ <;> intro h <;> first | (exfalso; omega) | skip) | refine ny ?_ | refine WA_block ?_))
      all_goals (refine hQ _ _ _ (by first | exact .inl rfl | exact .inr rfl) .nilsl ?_ ⟨_, rfl, .inl ⟨rfl, rfl, rfl⟩⟩)
      · simp (disch := omega) only [resV, resVs, resOne, tupV, ↓ev_move, ↓ev_assign, ↓ev_pick, ↓ev_alloc, ↓ev_box, ↓ev_load, ↓ev_store, ↓ev_binOp, ↓ev_unOp, ↓ev_extract, ↓ev_fieldAddr, ↓ev_field, ↓ev_indexAddr, ↓ev_index, ↓ev_makeFunc, ↓ev_build, ↓ev_makeSlice, ↓ev_buildSlice, ↓ev_convert, ↓ev_len, ↓ev_max, ↓ev_min, ↓ev_append, ↓ev_slice, maxLen_eq, b_aeq, b_ane, planEq, leafEq, ← Bool.decide_and, b_add, b_sub, b_mul, b_quo, b_rem, b_and, b_or, b_xor, b_eql, b_neq, b_lss, b_leq, b_gtr, b_geq, b_sadd, b_seql, b_sneq, u_not, u_neg, okO_some, okR_eq, ↓evO_tmp, ↓evO_const, ↓evO_func, ↓evO_glb, ofC_int, ofC_bool, ofC_nilsl, ofC_nilptr, ofC_nilfn, ofC_nilmap, ofC_nilif, ofC_str, tput_some, tput_none, i64w, u64w, Int.one_mul, Int.tdiv_eq_ediv_of_nonneg, ne_eq, not_false_eq_true, not_true_eq_false, Int.reduceEq, ↓tg_c, tg_n, ↓reduceIte, Nat.reduceEqDiff, true_and, and_true, evMax, evMin, reduceCtorEq, Nat.succ_ne_zero, Nat.zero_ne_one, Nat.one_ne_zero, Bool.not_true, Bool.not_false, argT, Nat.reduceAdd, pickT, List.map_cons, List.map_nil, Nat.reduceMul, Nat.reduceSub, Nat.reduceLT, Nat.reduceLeDiff, Nat.lt_irrefl, Int.reduceToNat, Int.reduceLT, Int.reduceLE, Int.reduceNeg, Int.reduceAdd, Int.reduceMul, Int.toNat_zero, Int.toNat_one, decide_true, decide_false, and_self, List.length_cons, List.length_nil, List.getElem?_cons_zero, List.getElem?_cons_succ, List.drop_zero, List.drop_succ_cons, List.take_zero, List.take_succ_cons, List.take_nil, List.drop_nil, List.cons_append, List.nil_append, List.set_cons_zero, List.set_cons_succ, List.all_cons, List.all_nil, Bool.and_true, Bool.and_self, Option.map_some, List.flatten_cons, List.flatten_nil, ↓mg, ↓ms, ↓mg0, ↓ms0, ma, ma2, ml, V.one, cellsV, partV, evLoad, evStore, ldB, wrB, evStrIdx, ↓ev_nilCheck, evFA, evF, evIA, evI, evBuild, fillV, setAt, evSlice, evStrSlice, bound, chunks, evLen, evAppend, elsV, beq_self_eq_true, Nat.reduceBEq, evMake, evBuildSl, repL, List.replicate_succ, List.replicate_zero, List.range_succ, List.range_zero, Option.map_none, Int.toNat_natCast, Nat.zero_add, Nat.add_zero, Nat.zero_mul, Nat.one_mul, Int.le_refl, Nat.le_refl, agT167, agT22, agT23, agT24, agT26, agT28, agT3, agT4, agT42, agT45, agT47, agT5, agT50, agT59, agT61, agT72, agT88, agT9, agT92, agT99, arT103, arT126, arT149, arT150, arT22, arT23, arT24, arT26, arT31, arT42, arT45, arT47, arT50, arT54, arT59, arT61, arT9, arT92, arT95, arT99, eqT24, eqT4, eqT42, eqT50, eqT9, fdT26f0, fdT26f1, fdT26f2, fdT26f3, fdT28f0, fdT28f1, fdT42f0, fdT42f1, fdT47f0, fdT59f0, fdT59f1, fdT59f2, fdT59f3, fdT59f4, fdT61f0, fdT61f1, fdT61f2, fdT61f3, fdT72f0, fdT72f1, fdT88f0, fdT92f0, fdT92f1, fdT99f0, fdT99f1, intT126, intT135, intT137, intT167, intT3, intT5, intT65, intT9, kdT24, kdT4, kdT42, kdT50, kdT9, slT103, slT126, slT149, slT150, slT22, slT23, slT24, slT3, slT31, slT45, slT50, slT54, slT9, slT95, smT3, smT42, smT5, smT59, smT61, smT72, smT9, smT92, smT99, stT149, stT150, stT26, stT42, stT47, stT50, stT59, stT61, stT92, stT99, strT103, strT126, strT22, strT23, strT24, strT3, strT31, strT45, strT54, strT9, strT95, szT149, szT150, szT167, szT22, szT23, szT24, szT26, szT28, szT3, szT4, szT42, szT45, szT47, szT5, szT50, szT59, szT61, szT72, szT88, szT9, szT92, szT99, zeT149, zeT167, zeT26, zeT3, zeT42, zeT47, zeT5, zeT50, zeT59, zeT61, zeT72, zeT88, zeT9, zeT92, zeT99, FX]
    · (have FX := And.intro hla hal; repeat' (first | (refine sx ?_ ?_ <;> intro h <;> first | (exfalso; omega) | skip) | refine ny ?_ | refine WA_block ?_))
      all_goals (refine hQ _ _ _ (by first | exact .inl rfl | exact .inr rfl) (.sl ((lend m).length + 1) 0) ?_ ⟨_, rfl, .inr ⟨?_, rfl⟩⟩)
      · simp (disch := omega) only [resV, resVs, resOne, tupV, ↓ev_move, ↓ev_assign, ↓ev_pick, ↓ev_alloc, ↓ev_box, ↓ev_load, ↓ev_store, ↓ev_binOp, ↓ev_unOp, ↓ev_extract, ↓ev_fieldAddr, ↓ev_field, ↓ev_indexAddr, ↓ev_index, ↓ev_makeFunc, ↓ev_build, ↓ev_makeSlice, ↓ev_buildSlice, ↓ev_convert, ↓ev_len, ↓ev_max, ↓ev_min, ↓ev_append, ↓ev_slice, maxLen_eq, b_aeq, b_ane, planEq, leafEq, ← Bool.decide_and, b_add, b_sub, b_mul, b_quo, b_rem, b_and, b_or, b_xor, b_eql, b_neq, b_lss, b_leq, b_gtr, b_geq, b_sadd, b_seql, b_sneq, u_not, u_neg, okO_some, okR_eq, ↓evO_tmp, ↓evO_const, ↓evO_func, ↓evO_glb, ofC_int, ofC_bool, ofC_nilsl, ofC_nilptr, ofC_nilfn, ofC_nilmap, ofC_nilif, ofC_str, tput_some, tput_none, i64w, u64w, Int.one_mul, Int.tdiv_eq_ediv_of_nonneg, ne_eq, not_false_eq_true, not_true_eq_false, Int.reduceEq, ↓tg_c, tg_n, ↓reduceIte, Nat.reduceEqDiff, true_and, and_true, evMax, evMin, reduceCtorEq, Nat.succ_ne_zero, Nat.zero_ne_one, Nat.one_ne_zero, Bool.not_true, Bool.not_false, argT, Nat.reduceAdd, pickT, List.map_cons, List.map_nil, Nat.reduceMul, Nat.reduceSub, Nat.reduceLT, Nat.reduceLeDiff, Nat.lt_irrefl, Int.reduceToNat, Int.reduceLT, Int.reduceLE, Int.reduceNeg, Int.reduceAdd, Int.reduceMul, Int.toNat_zero, Int.toNat_one, decide_true, decide_false, and_self, List.length_cons, List.length_nil, List.getElem?_cons_zero, List.getElem?_cons_succ, List.drop_zero, List.drop_succ_cons, List.take_zero, List.take_succ_cons, List.take_nil, List.drop_nil, List.cons_append, List.nil_append, List.set_cons_zero, List.set_cons_succ, List.all_cons, List.all_nil, Bool.and_true, Bool.and_self, Option.map_some, List.flatten_cons, List.flatten_nil, ↓mg, ↓ms, ↓mg0, ↓ms0, ma, ma2, ml, V.one, cellsV, partV, evLoad, evStore, ldB, wrB, evStrIdx, ↓ev_nilCheck, evFA, evF, evIA, evI, evBuild, fillV, setAt, evSlice, evStrSlice, bound, chunks, evLen, evAppend, elsV, beq_self_eq_true, Nat.reduceBEq, evMake, evBuildSl, repL, List.replicate_succ, List.replicate_zero, List.range_succ, List.range_zero, Option.map_none, Int.toNat_natCast, Nat.zero_add, Nat.add_zero, Nat.zero_mul, Nat.one_mul, Int.le_refl, Nat.le_refl, agT167, agT22, agT23, agT24, agT26, agT28, agT3, agT4, agT42, agT45, agT47, agT5, agT50, agT59, agT61, agT72, agT88, agT9, agT92, agT99, arT103, arT126, arT149, arT150, arT22, arT23, arT24, arT26, arT31, arT42, arT45, arT47, arT50, arT54, arT59, arT61, arT9, arT92, arT95, arT99, eqT24, eqT4, eqT42, eqT50, eqT9, fdT26f0, fdT26f1, fdT26f2, fdT26f3, fdT28f0, fdT28f1, fdT42f0, fdT42f1, fdT47f0, fdT59f0, fdT59f1, fdT59f2, fdT59f3, fdT59f4, fdT61f0, fdT61f1, fdT61f2, fdT61f3, fdT72f0, fdT72f1, fdT88f0, fdT92f0, fdT92f1, fdT99f0, fdT99f1, intT126, intT135, intT137, intT167, intT3, intT5, intT65, intT9, kdT24, kdT4, kdT42, kdT50, kdT9, slT103, slT126, slT149, slT150, slT22, slT23, slT24, slT3, slT31, slT45, slT50, slT54, slT9, slT95, smT3, smT42, smT5, smT59, smT61, smT72, smT9, smT92, smT99, stT149, stT150, stT26, stT42, stT47, stT50, stT59, stT61, stT92, stT99, strT103, strT126, strT22, strT23, strT24, strT3, strT31, strT45, strT54, strT9, strT95, szT149, szT150, szT167, szT22, szT23, szT24, szT26, szT28, szT3, szT4, szT42, szT45, szT47, szT5, szT50, szT59, szT61, szT72, szT88, szT9, szT92, szT99, zeT149, zeT167, zeT26, zeT3, zeT42, zeT47, zeT5, zeT50, zeT59, zeT61, zeT72, zeT88, zeT9, zeT92, zeT99, FX]
      · rw [lend_len]; rfl
  | cons a r =>
    have hla : (ldsV (a :: r)).length = r.length + 1 := by simp [ldsV]
    have hal : ∀ n, n = 2 → (ldsV (a :: r)).all (fun e => e.length == n) = true := fun n h => by subst h; simp [ldsV, ldV]
    simp only [List.length_cons] at hl
    rw [show ldsV (a :: r) = ldV a :: ldsV r from rfl] at *
    refine CallA_inO Tryz.func27 rfl Tryz.ntmps27 Tryz.results27 (by kernel_rfl) (by simp) fun Q hQ => ?_
    (have FX := And.intro hla hal; repeat' (first | (refine sx ?_ ?_ <;> intro h <;> first | (exfalso; omega) | skip) | refine ny ?_ | refine WA_block ?_))
    refine s_nl1 ?_ rfl lk_ lk_ (by kernel_rfl)
    (have FX := And.intro hla hal; repeat' (first | (refine sx ?_ ?_ <;> intro h <;> first | (exfalso; omega) | skip) | refine ny ?_ | refine WA_block ?_))
    all_goals (try (exfalso; omega))
    all_goals (refine hQ _ _ _ (by first | exact .inl rfl | exact .inr rfl) (.sl ((lend m).length + 1) (r.length + 1)) ?_ ⟨_, rfl, .inr ⟨?_, rfl⟩⟩)
    · simp (disch := omega) only [resV, resVs, resOne, tupV, ↓ev_move, ↓ev_assign, ↓ev_pick, ↓ev_alloc, ↓ev_box, ↓ev_load, ↓ev_store, ↓ev_binOp, ↓ev_unOp, ↓ev_extract, ↓ev_fieldAddr, ↓ev_field, ↓ev_indexAddr, ↓ev_index, ↓ev_makeFunc, ↓ev_build, ↓ev_makeSlice, ↓ev_buildSlice, ↓ev_convert, ↓ev_len, ↓ev_max, ↓ev_min, ↓ev_append, ↓ev_slice, maxLen_eq, b_aeq, b_ane, planEq, leafEq, ← Bool.decide_and, b_add, b_sub, b_mul, b_quo, b_rem, b_and, b_or, b_xor, b_eql, b_neq, b_lss, b_leq, b_gtr, b_geq, b_sadd, b_seql, b_sneq, u_not, u_neg, okO_some, okR_eq, ↓evO_tmp, ↓evO_const, ↓evO_func, ↓evO_glb, ofC_int, ofC_bool, ofC_nilsl, ofC_nilptr, ofC_nilfn, ofC_nilmap, ofC_nilif, ofC_str, tput_some, tput_none, i64w, u64w, Int.one_mul, Int.tdiv_eq_ediv_of_nonneg, ne_eq, not_false_eq_true, not_true_eq_false, Int.reduceEq, ↓tg_c, tg_n, ↓reduceIte, Nat.reduceEqDiff, true_and, and_true, evMax, evMin, reduceCtorEq, Nat.succ_ne_zero, Nat.zero_ne_one, Nat.one_ne_zero, Bool.not_true, Bool.not_false, argT, Nat.reduceAdd, pickT, List.map_cons, List.map_nil, Nat.reduceMul, Nat.reduceSub, Nat.reduceLT, Nat.reduceLeDiff, Nat.lt_irrefl, Int.reduceToNat, Int.reduceLT, Int.reduceLE, Int.reduceNeg, Int.reduceAdd, Int.reduceMul, Int.toNat_zero, Int.toNat_one, decide_true, decide_false, and_self, List.length_cons, List.length_nil, List.getElem?_cons_zero, List.getElem?_cons_succ, List.drop_zero, List.drop_succ_cons, List.take_zero, List.take_succ_cons, List.take_nil, List.drop_nil, List.cons_append, List.nil_append, List.set_cons_zero, List.set_cons_succ, List.all_cons, List.all_nil, Bool.and_true, Bool.and_self, Option.map_some, List.flatten_cons, List.flatten_nil, ↓mg, ↓ms, ↓mg0, ↓ms0, ma, ma2, ml, V.one, cellsV, partV, evLoad, evStore, ldB, wrB, evStrIdx, ↓ev_nilCheck, evFA, evF, evIA, evI, evBuild, fillV, setAt, evSlice, evStrSlice, bound, chunks, evLen, evAppend, elsV, beq_self_eq_true, Nat.reduceBEq, evMake, evBuildSl, repL, List.replicate_succ, List.replicate_zero, List.range_succ, List.range_zero, Option.map_none, Int.toNat_natCast, Nat.zero_add, Nat.add_zero, Nat.zero_mul, Nat.one_mul, Int.le_refl, Nat.le_refl, agT167, agT22, agT23, agT24, agT26, agT28, agT3, agT4, agT42, agT45, agT47, agT5, agT50, agT59, agT61, agT72, agT88, agT9, agT92, agT99, arT103, arT126, arT149, arT150, arT22, arT23, arT24, arT26, arT31, arT42, arT45, arT47, arT50, arT54, arT59, arT61, arT9, arT92, arT95, arT99, eqT24, eqT4, eqT42, eqT50, eqT9, fdT26f0, fdT26f1, fdT26f2, fdT26f3, fdT28f0, fdT28f1, fdT42f0, fdT42f1, fdT47f0, fdT59f0, fdT59f1, fdT59f2, fdT59f3, fdT59f4, fdT61f0, fdT61f1, fdT61f2, fdT61f3, fdT72f0, fdT72f1, fdT88f0, fdT92f0, fdT92f1, fdT99f0, fdT99f1, intT126, intT135, intT137, intT167, intT3, intT5, intT65, intT9, kdT24, kdT4, kdT42, kdT50, kdT9, slT103, slT126, slT149, slT150, slT22, slT23, slT24, slT3, slT31, slT45, slT50, slT54, slT9, slT95, smT3, smT42, smT5, smT59, smT61, smT72, smT9, smT92, smT99, stT149, stT150, stT26, stT42, stT47, stT50, stT59, stT61, stT92, stT99, strT103, strT126, strT22, strT23, strT24, strT3, strT31, strT45, strT54, strT9, strT95, szT149, szT150, szT167, szT22, szT23, szT24, szT26, szT28, szT3, szT4, szT42, szT45, szT47, szT5, szT50, szT59, szT61, szT72, szT88, szT9, szT92, szT99, zeT149, zeT167, zeT26, zeT3, zeT42, zeT47, zeT5, zeT50, zeT59, zeT61, zeT72, zeT88, zeT9, zeT92, zeT99, FX]
    · rw [lend_len]; rfl
end Go.Proofs.YtihbeoplchiikaaGreatDoor
