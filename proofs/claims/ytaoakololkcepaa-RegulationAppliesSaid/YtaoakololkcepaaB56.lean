/- contracts: clones -/
import Derived.Test.YtaoakololkcepaaB26
set_option linter.unusedSimpArgs false
set_option linter.unusedVariables false
namespace Go.Proofs.Ytaoakololkcepaa
open Go.RowKit
attribute [local irreducible] WA WOs WDs WAn qThen qBlock tput
set_option maxHeartbeats 1000000
set_option maxRecDepth 20000
set_option linter.unusedSimpArgs false
set_option linter.unusedVariables false
set_option maxHeartbeats 2000000
theorem mssV_cons (nm : Txt) (v lo hi : Int) (r : List MsR) : mssV (⟨nm, v, lo, hi⟩ :: r) = [.str nm, .int .i64 v, .int .i64 lo, .int .i64 hi] :: mssV r := rfl

theorem mclone_v (l : List MsR) (hl : l.length ≤ 100000) (m : Mem) : Gives Try.prog 78 [.lst (mssV l)] m (.lst (mssV l)) := by
  cases l with
  | nil =>
    have hla : (mssV ([] : List MsR)).length = 0 := rfl
    have hal : ∀ n, n = 4 → (mssV ([] : List MsR)).all (fun e => e.length == n) = true := fun n h => mssV_all h
    suffices key : CallA Try.prog 78 [.lst []] m (fun v mo => (v = .nilsl ∨ v = .lst []) ∧ mo = none) from by
      refine Gives_of key ?_
      rintro v mo ⟨h1, rfl⟩
      refine ⟨rfl, ?_⟩
      rcases h1 with rfl | rfl
      · exact wk_nil
      · exact WkV.refl _
    refine CallA_in Try.func78 rfl Try.ntmps78 Try.results78 (by kernel_rfl) (by simp) fun Q hQ => ?_
    (have FX := And.intro hla hal; repeat' (first | (refine sx ?_ ?_ <;> intro h <;> first | (exfalso; omega) | skip) | refine ny ?_ | refine WA_block ?_))
    refine s_nl0 ?_ ?_ rfl lk_ lk_ ⟨81, by kernel_rfl⟩
    · (have FX := And.intro hla hal; repeat' (first | (refine sx ?_ ?_ <;> intro h <;> first | (exfalso; omega) | skip) | refine ny ?_ | refine WA_block ?_))
      all_goals (refine r_esA hQ (.inl ⟨rfl, .inl rfl, rfl⟩))
    · (have FX := And.intro hla hal; repeat' (first | (refine sx ?_ ?_ <;> intro h <;> first | (exfalso; omega) | skip) | refine ny ?_ | refine WA_block ?_))
      all_goals (refine r_esA hQ (fin_sl (D := []) (B := lend m) (j := 1) (k := 0) (es := []) (by simp) rfl (Nat.le_refl _) rfl ⟨.inr rfl, rfl⟩))
  | cons a r =>
    have hla : (mssV (a :: r)).length = r.length + 1 := by rw [mssV_length]; rfl
    have hal : ∀ n, n = 4 → (mssV (a :: r)).all (fun e => e.length == n) = true := fun n h => mssV_all h
    have hp := mssV_plain (a :: r)
    simp only [List.length_cons] at hl
    obtain ⟨nm, v, lo, hi⟩ := a
    rw [mssV_cons] at *
    refine CallA_in Try.func78 rfl Try.ntmps78 Try.results78 (by kernel_rfl) (by simp) fun Q hQ => ?_
    (have FX := And.intro hla hal; repeat' (first | (refine sx ?_ ?_ <;> intro h <;> first | (exfalso; omega) | skip) | refine ny ?_ | refine WA_block ?_))
    refine s_nl1 ?_ rfl lk_ lk_ (by kernel_rfl)
    (have FX := And.intro hla hal; repeat' (first | (refine sx ?_ ?_ <;> intro h <;> first | (exfalso; omega) | skip) | refine ny ?_ | refine WA_block ?_))
    all_goals (try (exfalso; omega))
    all_goals (refine r_esA hQ (fin_sl (D := []) (B := lend m) (j := 1) (by simp) rfl (by rw [hla]; exact Nat.le_refl _) (by rw [List.take_of_length_le (by rw [hla]; exact Nat.le_refl _)]; exact hp) ⟨?_, rfl⟩))
    all_goals (rw [List.take_of_length_le (by rw [hla]; exact Nat.le_refl _)])
theorem mclone_o (a : MsR) (r : List MsR) (hl : r.length ≤ 100000) (m : Mem) : CallA Try.prog 78 [.lst (mssV (a :: r))] m fun v mo => v = .sl (m.length + 1) (r.length + 1) ∧ mo = some (m ++ [.dead, .cells .own 81 4 (mssV (a :: r))]) := by
  have hla : (mssV (a :: r)).length = r.length + 1 := by rw [mssV_length]; rfl
  have hal : ∀ n, n = 4 → (mssV (a :: r)).all (fun e => e.length == n) = true := fun n h => mssV_all h
  obtain ⟨nm, v, lo, hi⟩ := a
  rw [mssV_cons] at *
  refine CallA_inO Try.func78 rfl Try.ntmps78 Try.results78 (by kernel_rfl) (by simp) fun Q hQ => ?_
  (have FX := And.intro hla hal; repeat' (first | (refine sx ?_ ?_ <;> intro h <;> first | (exfalso; omega) | skip) | refine ny ?_ | refine WA_block ?_))
  refine s_nl1 ?_ rfl lk_ lk_ (by kernel_rfl)
  (have FX := And.intro hla hal; repeat' (first | (refine sx ?_ ?_ <;> intro h <;> first | (exfalso; omega) | skip) | refine ny ?_ | refine WA_block ?_))
  all_goals (try (exfalso; omega))
  all_goals (refine hQ _ _ _ (by first | exact .inl rfl | exact .inr rfl) (.sl ((lend m).length + 1) (r.length + 1)) ?_ ⟨_, rfl, ?_, rfl⟩)
  · simp (disch := omega) only [resV, resVs, resOne, tupV, ↓ev_move, ↓ev_assign, ↓ev_pick, ↓ev_alloc, ↓ev_box, ↓ev_load, ↓ev_store, ↓ev_binOp, ↓ev_unOp, ↓ev_extract, ↓ev_fieldAddr, ↓ev_field, ↓ev_indexAddr, ↓ev_index, ↓ev_makeFunc, ↓ev_build, ↓ev_makeSlice, ↓ev_buildSlice, ↓ev_convert, ↓ev_len, ↓ev_max, ↓ev_min, ↓ev_append, ↓ev_slice, maxLen_eq, b_aeq, b_ane, planEq, leafEq, ← Bool.decide_and, b_add, b_sub, b_mul, b_quo, b_rem, b_and, b_or, b_xor, b_eql, b_neq, b_lss, b_leq, b_gtr, b_geq, b_sadd, b_seql, b_sneq, u_not, u_neg, okO_some, okR_eq, ↓evO_tmp, ↓evO_const, ↓evO_func, ofC_int, ofC_bool, ofC_nilsl, ofC_nilptr, ofC_nilfn, ofC_nilmap, ofC_nilif, ofC_str, tput_some, tput_none, i64w, u64w, Int.one_mul, Int.tdiv_eq_ediv_of_nonneg, ne_eq, not_false_eq_true, not_true_eq_false, Int.reduceEq, ↓tg_c, tg_n, ↓reduceIte, Nat.reduceEqDiff, true_and, and_true, evMax, evMin, reduceCtorEq, Nat.succ_ne_zero, Nat.zero_ne_one, Nat.one_ne_zero, Bool.not_true, Bool.not_false, argT, Nat.reduceAdd, pickT, List.map_cons, List.map_nil, Nat.reduceMul, Nat.reduceSub, Nat.reduceLT, Nat.reduceLeDiff, Nat.lt_irrefl, Int.reduceToNat, Int.reduceLT, Int.reduceLE, Int.reduceNeg, Int.reduceAdd, Int.reduceMul, Int.toNat_zero, Int.toNat_one, decide_true, decide_false, and_self, List.length_cons, List.length_nil, List.getElem?_cons_zero, List.getElem?_cons_succ, List.drop_zero, List.drop_succ_cons, List.take_zero, List.take_succ_cons, List.take_nil, List.drop_nil, List.cons_append, List.nil_append, List.set_cons_zero, List.set_cons_succ, List.all_cons, List.all_nil, Bool.and_true, Bool.and_self, Option.map_some, List.flatten_cons, List.flatten_nil, ↓mg, ↓ms, ↓mg0, ↓ms0, ma, ma2, ml, V.one, cellsV, partV, evLoad, evStore, ldB, wrB, evStrIdx, ↓ev_nilCheck, evFA, evF, evIA, evI, evBuild, fillV, setAt, evSlice, evStrSlice, bound, chunks, evLen, evAppend, elsV, beq_self_eq_true, Nat.reduceBEq, evMake, evBuildSl, repL, List.replicate_succ, List.replicate_zero, List.range_succ, List.range_zero, Option.map_none, Int.toNat_natCast, Nat.zero_add, Nat.add_zero, Nat.zero_mul, Nat.one_mul, Int.le_refl, Nat.le_refl, agT101, agT102, agT118, agT127, agT138, agT172, agT193, agT22, agT23, agT25, agT26, agT29, agT3, agT34, agT4, agT52, agT75, agT79, agT81, agT9, agT95, agT96, agT98, arT101, arT118, arT135, arT138, arT22, arT23, arT25, arT26, arT34, arT52, arT63, arT75, arT79, arT81, arT9, arT91, arT95, arT96, arT98, eqT101, eqT22, eqT26, eqT52, eqT79, eqT81, eqT9, eqT95, eqT96, fdT101f0, fdT101f1, fdT118f0, fdT118f1, fdT135f0, fdT135f1, fdT135f2, fdT135f3, fdT138f0, fdT138f1, fdT25f0, fdT25f1, fdT79f0, fdT79f1, fdT81f0, fdT81f1, fdT81f2, fdT81f3, fdT98f0, fdT98f1, fdT98f2, fdT98f3, fdT98f4, fdT98f5, intT164, intT188, intT190, intT193, intT3, intT5, kdT101, kdT22, kdT26, kdT52, kdT79, kdT81, kdT9, kdT95, kdT96, slT166, slT22, slT23, slT26, slT3, slT34, slT52, slT63, slT75, slT9, slT91, slT95, slT96, smT101, smT26, smT3, smT52, smT75, smT79, smT81, smT9, smT98, stT101, stT118, stT135, stT138, stT25, stT52, stT79, stT81, stT98, strT166, strT22, strT23, strT26, strT3, strT34, strT52, strT63, strT75, strT9, strT91, strT95, strT96, szT101, szT102, szT118, szT127, szT135, szT138, szT172, szT193, szT22, szT23, szT25, szT26, szT29, szT3, szT34, szT4, szT52, szT75, szT79, szT81, szT9, szT95, szT96, szT98, zeT101, zeT102, zeT118, zeT127, zeT135, zeT138, zeT172, zeT193, zeT25, zeT26, zeT29, zeT3, zeT4, zeT52, zeT75, zeT79, zeT81, zeT9, zeT98, FX]
  · rw [lend_len]
theorem efsV_cons (nm : Txt) (v : Int) (r : List EfR) : efsV (⟨nm, v⟩ :: r) = [.str nm, .int .i64 v] :: efsV r := rfl

theorem eclone_v (l : List EfR) (hl : l.length ≤ 100000) (m : Mem) : Gives Try.prog 81 [.lst (efsV l)] m (.lst (efsV l)) := by
  cases l with
  | nil =>
    have hla : (efsV ([] : List EfR)).length = 0 := rfl
    have hal : ∀ n, n = 2 → (efsV ([] : List EfR)).all (fun e => e.length == n) = true := fun n h => efsV_all h
    suffices key : CallA Try.prog 81 [.lst []] m (fun v mo => (v = .nilsl ∨ v = .lst []) ∧ mo = none) from by
      refine Gives_of key ?_
      rintro v mo ⟨h1, rfl⟩
      refine ⟨rfl, ?_⟩
      rcases h1 with rfl | rfl
      · exact wk_nil
      · exact WkV.refl _
    refine CallA_in Try.func81 rfl Try.ntmps81 Try.results81 (by kernel_rfl) (by simp) fun Q hQ => ?_
    (have FX := And.intro hla hal; repeat' (first | (refine sx ?_ ?_ <;> intro h <;> first | (exfalso; omega) | skip) | refine ny ?_ | refine WA_block ?_))
    refine s_nl0 ?_ ?_ rfl lk_ lk_ ⟨101, by kernel_rfl⟩
    · (have FX := And.intro hla hal; repeat' (first | (refine sx ?_ ?_ <;> intro h <;> first | (exfalso; omega) | skip) | refine ny ?_ | refine WA_block ?_))
      all_goals (refine r_esA hQ (.inl ⟨rfl, .inl rfl, rfl⟩))
    · (have FX := And.intro hla hal; repeat' (first | (refine sx ?_ ?_ <;> intro h <;> first | (exfalso; omega) | skip) | refine ny ?_ | refine WA_block ?_))
      all_goals (refine r_esA hQ (fin_sl (D := []) (B := lend m) (j := 1) (k := 0) (es := []) (by simp) rfl (Nat.le_refl _) rfl ⟨.inr rfl, rfl⟩))
  | cons a r =>
    have hla : (efsV (a :: r)).length = r.length + 1 := by rw [efsV_length]; rfl
    have hal : ∀ n, n = 2 → (efsV (a :: r)).all (fun e => e.length == n) = true := fun n h => efsV_all h
    have hp := efsV_plain (a :: r)
    simp only [List.length_cons] at hl
    obtain ⟨nm, v⟩ := a
    rw [efsV_cons] at *
    refine CallA_in Try.func81 rfl Try.ntmps81 Try.results81 (by kernel_rfl) (by simp) fun Q hQ => ?_
    (have FX := And.intro hla hal; repeat' (first | (refine sx ?_ ?_ <;> intro h <;> first | (exfalso; omega) | skip) | refine ny ?_ | refine WA_block ?_))
    refine s_nl1 ?_ rfl lk_ lk_ (by kernel_rfl)
    (have FX := And.intro hla hal; repeat' (first | (refine sx ?_ ?_ <;> intro h <;> first | (exfalso; omega) | skip) | refine ny ?_ | refine WA_block ?_))
    all_goals (try (exfalso; omega))
    all_goals (refine r_esA hQ (fin_sl (D := []) (B := lend m) (j := 1) (by simp) rfl (by rw [hla]; exact Nat.le_refl _) (by rw [List.take_of_length_le (by rw [hla]; exact Nat.le_refl _)]; exact hp) ⟨?_, rfl⟩))
    all_goals (rw [List.take_of_length_le (by rw [hla]; exact Nat.le_refl _)])
theorem tsV_cons (a : Txt) (r : List Txt) : tsV (a :: r) = [V.str a] :: tsV r := rfl

theorem tclone_v (l : List Txt) (hl : l.length ≤ 100000) (m : Mem) : Gives Try.prog 82 [.lst (tsV l)] m (.lst (tsV l)) := by
  cases l with
  | nil =>
    have hla : (tsV ([] : List Txt)).length = 0 := rfl
    have hal : ∀ n, n = 1 → (tsV ([] : List Txt)).all (fun e => e.length == n) = true := fun n h => tsV_all h
    suffices key : CallA Try.prog 82 [.lst []] m (fun v mo => (v = .nilsl ∨ v = .lst []) ∧ mo = none) from by
      refine Gives_of key ?_
      rintro v mo ⟨h1, rfl⟩
      refine ⟨rfl, ?_⟩
      rcases h1 with rfl | rfl
      · exact wk_nil
      · exact WkV.refl _
    refine CallA_in Try.func82 rfl Try.ntmps82 Try.results82 (by kernel_rfl) (by simp) fun Q hQ => ?_
    (have FX := And.intro hla hal; repeat' (first | (refine sx ?_ ?_ <;> intro h <;> first | (exfalso; omega) | skip) | refine ny ?_ | refine WA_block ?_))
    refine s_nl0 ?_ ?_ rfl lk_ lk_ ⟨9, by kernel_rfl⟩
    · (have FX := And.intro hla hal; repeat' (first | (refine sx ?_ ?_ <;> intro h <;> first | (exfalso; omega) | skip) | refine ny ?_ | refine WA_block ?_))
      all_goals (refine r_esA hQ (.inl ⟨rfl, .inl rfl, rfl⟩))
    · (have FX := And.intro hla hal; repeat' (first | (refine sx ?_ ?_ <;> intro h <;> first | (exfalso; omega) | skip) | refine ny ?_ | refine WA_block ?_))
      all_goals (refine r_esA hQ (fin_sl (D := []) (B := lend m) (j := 1) (k := 0) (es := []) (by simp) rfl (Nat.le_refl _) rfl ⟨.inr rfl, rfl⟩))
  | cons a r =>
    have hla : (tsV (a :: r)).length = r.length + 1 := by rw [tsV_length]; rfl
    have hal : ∀ n, n = 1 → (tsV (a :: r)).all (fun e => e.length == n) = true := fun n h => tsV_all h
    have hp := tsV_plain (a :: r)
    simp only [List.length_cons] at hl
    rw [tsV_cons] at *
    refine CallA_in Try.func82 rfl Try.ntmps82 Try.results82 (by kernel_rfl) (by simp) fun Q hQ => ?_
    (have FX := And.intro hla hal; repeat' (first | (refine sx ?_ ?_ <;> intro h <;> first | (exfalso; omega) | skip) | refine ny ?_ | refine WA_block ?_))
    refine s_nl1 ?_ rfl lk_ lk_ (by kernel_rfl)
    (have FX := And.intro hla hal; repeat' (first | (refine sx ?_ ?_ <;> intro h <;> first | (exfalso; omega) | skip) | refine ny ?_ | refine WA_block ?_))
    all_goals (try (exfalso; omega))
    all_goals (refine r_esA hQ (fin_sl (D := []) (B := lend m) (j := 1) (by simp) rfl (by rw [hla]; exact Nat.le_refl _) (by rw [List.take_of_length_le (by rw [hla]; exact Nat.le_refl _)]; exact hp) ⟨?_, rfl⟩))
    all_goals (rw [List.take_of_length_le (by rw [hla]; exact Nat.le_refl _)])
end Go.Proofs.Ytaoakololkcepaa
