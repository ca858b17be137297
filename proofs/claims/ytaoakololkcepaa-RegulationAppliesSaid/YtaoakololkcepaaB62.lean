/- contract: a bench is copied, its lists the caller's own from then on -/
import Derived.Test.YtaoakololkcepaaB26
set_option linter.unusedSimpArgs false
set_option linter.unusedVariables false
namespace Go.Proofs.Ytaoakololkcepaa
open Go.RowKit
attribute [local irreducible] WA WOs WDs WAn qThen qBlock tput
set_option maxHeartbeats 1000000
set_option maxRecDepth 20000
set_option linter.unusedSimpArgs false
set_option linter.unusedVariables false
set_option maxHeartbeats 4000000
def coE (b : BnR) : Nat → List TB
  | 0 => [benT b, .cells .own 25 2 [[.v .nilsl, .v .nilsl]], .cells .own 25 2 [[.sl 3 b.ms.length, .v .nilsl]], .cells .own 81 4 ((mssV b.ms).map (List.map TV.v))]
  | k + 1 => [benT b, .cells .own 25 2 [[.v .nilsl, .v .nilsl]], .cells .own 25 2 [[.sl 3 b.ms.length, .sl 4 (k + 1)]], .cells .own 81 4 ((mssV b.ms).map (List.map TV.v)), .cells .own 98 6 ((adsV (b.ads.take (k + 1))).map (List.map TV.v))]
theorem coE_ok {b : BnR} {k : Nat} : (coE b k).all (TB.ok (coE b k).length) = true := by
  cases k with
  | zero => simp only [coE, benT, List.all_cons, TB.ok, TV.okT, List.all_nil, Bool.and_true, Bool.and_self, tvs_ok, List.length_cons, List.length_nil]; decide
  | succ k => simp only [coE, benT, List.all_cons, TB.ok, TV.okT, List.all_nil, Bool.and_true, Bool.and_self, tvs_ok, List.length_cons, List.length_nil]; decide
theorem coS_ok {b : BnR} {k i : Nat} : (cpyS i).all (TV.okT (coE b k).length) = true := by
  cases k with
  | zero => simp [cpyS, coE, TV.okT]
  | succ k => simp [cpyS, coE, TV.okT]
/-- the copy's lists lie at the end of the memory -/
def coR (b : BnR) (m : Mem) (v : V) (mo : Option Mem) : Prop :=
  (b.ads = [] ∧ ∃ D : Mem, mo = some (m ++ (D ++ [.cells .own 81 4 (mssV b.ms)])) ∧ v = .agg [.sl (m.length + D.length) b.ms.length, .nilsl]) ∨
  (b.ads ≠ [] ∧ ∃ D : Mem, mo = some (m ++ (D ++ [.cells .own 81 4 (mssV b.ms), .cells .own 98 6 (adsV b.ads)])) ∧ v = .agg [.sl (m.length + D.length) b.ms.length, .sl (m.length + D.length + 1) b.ads.length])
theorem uB62_19_6 {N : Nat} {l : List Oper} {t : List (Nat × V)} {m : Mem} {Q : Exit → List (Nat × V) → Mem → Prop} (h : RgN Try.prog N l t m Q (fun i => if i == 8 || i == 10 then .w else if i == 3 then .f else if i == 0 || i == 6 then .a else if i == 2 || i == 5 then .q else .p) [.one 1, .one 2, .one 4, .one 5, .one 0, .one 3, .one 7, .one 6, .one 8, .one 9, .one 10]) : WA Try.prog N (.region 6 l.toArray true) t m Q := d_rgN h
theorem rcopy_o (b : BnR) (hb : Bl b) (m : Mem) : CallA Try.prog 19 [.agg [.lst (mssV b.ms), .lst (adsV b.ads)]] m (coR b m) := by
  have hlm := mssV_length (l := b.ms)
  have hla := adsV_length (l := b.ads)
  have hma := fun n h => mssV_all (l := b.ms) (n := n) h
  have hbm := hb.nm
  have hba := hb.na
  have hga := hla
  have hle := hla
  have hea := hla
  have hll := hla
  have hlt := hla
  have hct := hla
  refine CallA_inO Try.func19 rfl Try.ntmps19 Try.results19 (by kernel_rfl) (by simp) fun Q hQ => ?_
  (have FX := And.intro hlm (And.intro hla (And.intro hma (And.intro hga (And.intro hle (And.intro hea (And.intro hll hlt)))))); repeat' (first | (refine sx ?_ ?_ <;> intro h <;> first | (exfalso; omega) | skip) | (refine g_op ?_; refine g_call ?_; refine g_args ?_; (first | refine s_fn (hct _) ?_) <;> try first | omega | assumption) | refine ny ?_ | refine WA_block ?_ | (refine uB62_19_6 ?_; refine ⟨by kernel_rfl, ?_⟩) | ((first | refine grp_cons (fun _ => hct _) ?_) <;> try first | omega | assumption) | (refine g_d ?_; refine d_args ?_; (first | refine d_fn (hct _) ?_ | refine d_fnQ (fun _ => hct _) ?_) <;> try first | omega | assumption) | (refine g_d ?_; (first | refine d_fnY (hct _) ?_) <;> try first | omega | assumption)))
  all_goals (try (exfalso; omega))
  refine WA_whileJ (σ := Nat) (L := lend m) (X := [.cells .own 25 2 [[.lst (mssV b.ms), .lst (adsV b.ads)]], .cells .own 25 2 [[.nilsl, .nilsl]], .dead, .cells .own 81 4 (mssV b.ms), .cells .own 25 2 [[.sl ((lend m).length + 3) b.ms.length, .nilsl]]]) [1, 2, 3, 4] (fun i => cpyS i) (fun i => coE b i) (fun i => i ≤ b.ads.length) (fun i => b.ads.length - i) 0 [0, 1, 4, 3] (Nat.zero_le _) ?_ (by simp only [coE, benT, List.map_cons, List.map_nil, TB.inst, TV.inst, tv_map]; rfl) rfl (by decide) (by decide) (fun _ _ => coS_ok) (fun _ _ => coE_ok) ?_
  · exact tv_
  rintro i hi1 B ⟨D, hB⟩ K hK
  clear FX hga hle hea hll hlt hct
  rcases Nat.lt_or_ge i b.ads.length with hi | hi
  · have hga := adsV_get hi
    have hxa := hb.ae i hi
    have hxb := hb.aa i hi
    have hct := fun m => bcopytexts_c (b.ads.getD i adz).after (by omega) m
    have hle := efsV_length (l := (b.ads.getD i adz).effs)
    have hea := fun n h => efsV_all (l := (b.ads.getD i adz).effs) (n := n) h
    have hsn : adsV (b.ads.take (i + 1)) = adsV (b.ads.take i) ++ [adV (b.ads.getD i adz)] := by
      rw [List.take_succ_eq_append_getElem hi]
      have : b.ads.getD i adz = b.ads[i] := by rw [List.getD_eq_getElem?_getD, List.getElem?_eq_getElem hi]; rfl
      rw [this]; simp only [adsV, List.map_append, List.map_cons, List.map_nil]
    generalize b.ads.getD i adz = x at *
    unfold adV at hga hsn
    have hne : ∀ (a c d : Nat), (a + c = a + d) = (c = d) := fun a c d => by simp
    have hn0 : ∀ (a d : Nat), (a = a + d) = (0 = d) := fun a d => by rw [eq_iff_iff]; omega
    have htp : (efsV x.effs).take x.effs.length = efsV x.effs := List.take_of_length_le (by rw [hle]; exact Nat.le_refl _)
    have hnx := hK (i + 1)
    have hny := fun (_ : Unit) => hnx
    clear hnx hK
    cases i with
    | zero =>
      have hll := hla
      have hlt := hla
      simp only [cpyS, coE, benT]
      simp only [List.map_cons, List.map_nil, TB.inst, TV.inst, tv_map, zipT, List.cons_append, List.nil_append, Nat.add_zero]
      (repeat' (first | (refine sx ?_ ?_ <;> intro h <;> first | (exfalso; omega) | skip) | (refine g_op ?_; refine g_call ?_; refine g_args ?_; (first | refine s_fn (hct _) ?_) <;> try first | omega | assumption) | refine ny ?_ | (refine uB62_19_6 ?_; refine ⟨by kernel_rfl, ?_⟩) | ((first | refine grp_cons (fun _ => hct _) ?_) <;> try first | omega | assumption) | (refine g_d ?_; refine d_args ?_; (first | refine d_fn (hct _) ?_ | refine d_fnQ (fun _ => hct _) ?_) <;> try first | omega | assumption) | (refine g_d ?_; (first | refine d_fnY (hct _) ?_) <;> try first | omega | assumption) | fail))
      all_goals (try (exfalso; omega))
      refine WA_block ?_
      refine WA_stop fun K2 hK2 => ?_
      (have FX := And.intro hlm (And.intro hla (And.intro hma (And.intro hga (And.intro hle (And.intro hea (And.intro hll hlt)))))); repeat' (first | (refine sx ?_ ?_ <;> intro h <;> first | (exfalso; omega) | skip) | (refine g_op ?_; refine g_call ?_; refine g_args ?_; (first | refine s_fn (hct _) ?_) <;> try first | omega | assumption) | refine ny ?_ | refine WA_block ?_ | (refine uB62_19_6 ?_; refine ⟨by kernel_rfl, ?_⟩) | ((first | refine grp_cons (fun _ => hct _) ?_) <;> try first | omega | assumption) | (refine g_d ?_; refine d_args ?_; (first | refine d_fn (hct _) ?_ | refine d_fnQ (fun _ => hct _) ?_) <;> try first | omega | assumption) | (refine g_d ?_; (first | refine d_fnY (hct _) ?_) <;> try first | omega | assumption)))
      refine hK2 _ _ ?_
      clear hK2
      refine WA_stop fun K3 hK3 => ?_
      (have FX := And.intro hlm (And.intro hla (And.intro hma (And.intro hga (And.intro hle (And.intro hea (And.intro hll hlt)))))); repeat' (first | (refine sx ?_ ?_ <;> intro h <;> first | (exfalso; omega) | skip) | (refine g_op ?_; refine g_call ?_; refine g_args ?_; (first | refine s_fn (hct _) ?_) <;> try first | omega | assumption) | refine ny ?_ | refine WA_block ?_ | (refine uB62_19_6 ?_; refine ⟨by kernel_rfl, ?_⟩) | ((first | refine grp_cons (fun _ => hct _) ?_) <;> try first | omega | assumption) | (refine g_d ?_; refine d_args ?_; (first | refine d_fn (hct _) ?_ | refine d_fnQ (fun _ => hct _) ?_) <;> try first | omega | assumption) | (refine g_d ?_; (first | refine d_fnY (hct _) ?_) <;> try first | omega | assumption)))
      all_goals (try (exfalso; omega))
      refine hK3 _ _ ?_
      clear hK3
      refine WA_fzM (j := 6) rfl ?_
      simp (decide := true) only [List.map_cons, List.map_nil, List.map_append, frzV, frzC, List.set_cons_succ, List.set_cons_zero, hne, hn0, Nat.reduceEqDiff, false_and, true_and, if_false, if_true, hle, Nat.le_refl, htp, efsV_frz, adsV_frz, mssV_frz]
      clear FX
      (have FX := And.intro hlm (And.intro hla (And.intro hma (And.intro hga (And.intro hle (And.intro hea (And.intro hll hlt)))))); repeat' (first | (refine sx ?_ ?_ <;> intro h <;> first | (exfalso; omega) | skip) | (refine g_op ?_; refine g_call ?_; refine g_args ?_; (first | refine s_fn (hct _) ?_) <;> try first | omega | assumption) | refine ny ?_ | refine WA_block ?_ | (refine uB62_19_6 ?_; refine ⟨by kernel_rfl, ?_⟩) | ((first | refine grp_cons (fun _ => hct _) ?_) <;> try first | omega | assumption) | (refine g_d ?_; refine d_args ?_; (first | refine d_fn (hct _) ?_ | refine d_fnQ (fun _ => hct _) ?_) <;> try first | omega | assumption) | (refine g_d ?_; (first | refine d_fnY (hct _) ?_) <;> try first | omega | assumption)))
      (refine nextU_ hny (()) [0, 1, 2, 3, 8] (by omega) (by omega) ?_ (ht := ?_); (focus (simp only [coE, benT, hsn, List.map_cons, List.map_nil, TB.inst, TV.inst, tv_map, List.cons_append, List.nil_append]; first | rfl | (simp [ptsV, ptV]; done) | (simp [hpsV, hpV]; done) | (simp [frsV, frV]; done) | (simp [txV]; done) | (simp [prtsV, prtV]; done))); (simp only [cpyS, List.map_cons, List.map_nil, TV.inst, List.getD_cons_zero, List.getD_cons_succ]; exact tv_))
    | succ i =>
      have hll : (adsV (b.ads.take (i + 1))).length = i + 1 := by rw [adsV_length, List.length_take]; omega
      have hlt : (adsV (b.ads.take (i + 1))).take (i + 1) = adsV (b.ads.take (i + 1)) := by rw [List.take_of_length_le (by rw [hll]; exact Nat.le_refl _)]
      simp only [cpyS, coE, benT]
      simp only [List.map_cons, List.map_nil, TB.inst, TV.inst, tv_map, zipT, List.cons_append, List.nil_append, Nat.add_zero]
      (repeat' (first | (refine sx ?_ ?_ <;> intro h <;> first | (exfalso; omega) | skip) | (refine g_op ?_; refine g_call ?_; refine g_args ?_; (first | refine s_fn (hct _) ?_) <;> try first | omega | assumption) | refine ny ?_ | (refine uB62_19_6 ?_; refine ⟨by kernel_rfl, ?_⟩) | ((first | refine grp_cons (fun _ => hct _) ?_) <;> try first | omega | assumption) | (refine g_d ?_; refine d_args ?_; (first | refine d_fn (hct _) ?_ | refine d_fnQ (fun _ => hct _) ?_) <;> try first | omega | assumption) | (refine g_d ?_; (first | refine d_fnY (hct _) ?_) <;> try first | omega | assumption) | fail))
      all_goals (try (exfalso; omega))
      refine WA_block ?_
      refine WA_stop fun K2 hK2 => ?_
      (have FX := And.intro hlm (And.intro hla (And.intro hma (And.intro hga (And.intro hle (And.intro hea (And.intro hll hlt)))))); repeat' (first | (refine sx ?_ ?_ <;> intro h <;> first | (exfalso; omega) | skip) | (refine g_op ?_; refine g_call ?_; refine g_args ?_; (first | refine s_fn (hct _) ?_) <;> try first | omega | assumption) | refine ny ?_ | refine WA_block ?_ | (refine uB62_19_6 ?_; refine ⟨by kernel_rfl, ?_⟩) | ((first | refine grp_cons (fun _ => hct _) ?_) <;> try first | omega | assumption) | (refine g_d ?_; refine d_args ?_; (first | refine d_fn (hct _) ?_ | refine d_fnQ (fun _ => hct _) ?_) <;> try first | omega | assumption) | (refine g_d ?_; (first | refine d_fnY (hct _) ?_) <;> try first | omega | assumption)))
      refine hK2 _ _ ?_
      clear hK2
      refine WA_stop fun K3 hK3 => ?_
      (have FX := And.intro hlm (And.intro hla (And.intro hma (And.intro hga (And.intro hle (And.intro hea (And.intro hll hlt)))))); repeat' (first | (refine sx ?_ ?_ <;> intro h <;> first | (exfalso; omega) | skip) | (refine g_op ?_; refine g_call ?_; refine g_args ?_; (first | refine s_fn (hct _) ?_) <;> try first | omega | assumption) | refine ny ?_ | refine WA_block ?_ | (refine uB62_19_6 ?_; refine ⟨by kernel_rfl, ?_⟩) | ((first | refine grp_cons (fun _ => hct _) ?_) <;> try first | omega | assumption) | (refine g_d ?_; refine d_args ?_; (first | refine d_fn (hct _) ?_ | refine d_fnQ (fun _ => hct _) ?_) <;> try first | omega | assumption) | (refine g_d ?_; (first | refine d_fnY (hct _) ?_) <;> try first | omega | assumption)))
      all_goals (try (exfalso; omega))
      refine hK3 _ _ ?_
      clear hK3
      refine WA_fzM (j := 7) rfl ?_
      simp (decide := true) only [List.map_cons, List.map_nil, List.map_append, frzV, frzC, List.set_cons_succ, List.set_cons_zero, hne, hn0, Nat.reduceEqDiff, false_and, true_and, if_false, if_true, hle, Nat.le_refl, htp, efsV_frz, adsV_frz, mssV_frz]
      clear FX
      (have FX := And.intro hlm (And.intro hla (And.intro hma (And.intro hga (And.intro hle (And.intro hea (And.intro hll hlt)))))); repeat' (first | (refine sx ?_ ?_ <;> intro h <;> first | (exfalso; omega) | skip) | (refine g_op ?_; refine g_call ?_; refine g_args ?_; (first | refine s_fn (hct _) ?_) <;> try first | omega | assumption) | refine ny ?_ | refine WA_block ?_ | (refine uB62_19_6 ?_; refine ⟨by kernel_rfl, ?_⟩) | ((first | refine grp_cons (fun _ => hct _) ?_) <;> try first | omega | assumption) | (refine g_d ?_; refine d_args ?_; (first | refine d_fn (hct _) ?_ | refine d_fnQ (fun _ => hct _) ?_) <;> try first | omega | assumption) | (refine g_d ?_; (first | refine d_fnY (hct _) ?_) <;> try first | omega | assumption)))
      (refine nextU_ hny (()) [0, 1, 2, 3, 9] (by omega) (by omega) ?_ (ht := ?_); (focus (simp only [coE, benT, hsn, List.map_cons, List.map_nil, TB.inst, TV.inst, tv_map, List.cons_append, List.nil_append]; first | rfl | (simp [ptsV, ptV]; done) | (simp [hpsV, hpV]; done) | (simp [frsV, frV]; done) | (simp [txV]; done) | (simp [prtsV, prtV]; done))); (simp only [cpyS, List.map_cons, List.map_nil, TV.inst, List.getD_cons_zero, List.getD_cons_succ]; exact tv_))
  · obtain rfl : i = b.ads.length := by omega
    have hBl : B.length = m.length + D.length := by rw [hB, List.length_append, lend_len]
    cases hk : b.ads.length with
    | zero =>
      simp only [cpyS, coE, benT]
      simp only [List.map_cons, List.map_nil, TB.inst, TV.inst, tv_map, zipT, List.cons_append, List.nil_append, Nat.add_zero]
      (have FX := And.intro hlm (And.intro hla hma); repeat' (first | (refine sx ?_ ?_ <;> intro h <;> first | (exfalso; omega) | skip) | (refine g_op ?_; refine g_call ?_; refine g_args ?_; (first | refine s_fn (hct _) ?_) <;> try first | omega | assumption) | refine ny ?_ | refine WA_block ?_ | (refine uB62_19_6 ?_; refine ⟨by kernel_rfl, ?_⟩) | ((first | refine grp_cons (fun _ => hct _) ?_) <;> try first | omega | assumption) | (refine g_d ?_; refine d_args ?_; (first | refine d_fn (hct _) ?_ | refine d_fnQ (fun _ => hct _) ?_) <;> try first | omega | assumption) | (refine g_d ?_; (first | refine d_fnY (hct _) ?_) <;> try first | omega | assumption)))
      all_goals (try (exfalso; omega))
      have ha : b.ads = [] := List.eq_nil_of_length_eq_zero hk
      refine hQ _ _ _ (by first | exact .inl rfl | exact .inr rfl) (.agg [.sl (B.length + 3) b.ms.length, .nilsl]) ?_ ?_
      · simp (disch := omega) only [resV, resVs, resOne, tupV, ↓ev_move, ↓ev_assign, ↓ev_pick, ↓ev_alloc, ↓ev_box, ↓ev_load, ↓ev_store, ↓ev_binOp, ↓ev_unOp, ↓ev_extract, ↓ev_fieldAddr, ↓ev_field, ↓ev_indexAddr, ↓ev_index, ↓ev_makeFunc, ↓ev_build, ↓ev_makeSlice, ↓ev_buildSlice, ↓ev_convert, ↓ev_len, ↓ev_max, ↓ev_min, ↓ev_append, ↓ev_slice, maxLen_eq, b_aeq, b_ane, planEq, leafEq, ← Bool.decide_and, b_add, b_sub, b_mul, b_quo, b_rem, b_and, b_or, b_xor, b_eql, b_neq, b_lss, b_leq, b_gtr, b_geq, b_sadd, b_seql, b_sneq, u_not, u_neg, okO_some, okR_eq, ↓evO_tmp, ↓evO_const, ↓evO_func, ofC_int, ofC_bool, ofC_nilsl, ofC_nilptr, ofC_nilfn, ofC_nilmap, ofC_nilif, ofC_str, tput_some, tput_none, i64w, u64w, Int.one_mul, Int.tdiv_eq_ediv_of_nonneg, ne_eq, not_false_eq_true, not_true_eq_false, Int.reduceEq, ↓tg_c, tg_n, ↓reduceIte, Nat.reduceEqDiff, true_and, and_true, evMax, evMin, reduceCtorEq, Nat.succ_ne_zero, Nat.zero_ne_one, Nat.one_ne_zero, Bool.not_true, Bool.not_false, argT, Nat.reduceAdd, pickT, List.map_cons, List.map_nil, Nat.reduceMul, Nat.reduceSub, Nat.reduceLT, Nat.reduceLeDiff, Nat.lt_irrefl, Int.reduceToNat, Int.reduceLT, Int.reduceLE, Int.reduceNeg, Int.reduceAdd, Int.reduceMul, Int.toNat_zero, Int.toNat_one, decide_true, decide_false, and_self, List.length_cons, List.length_nil, List.getElem?_cons_zero, List.getElem?_cons_succ, List.drop_zero, List.drop_succ_cons, List.take_zero, List.take_succ_cons, List.take_nil, List.drop_nil, List.cons_append, List.nil_append, List.set_cons_zero, List.set_cons_succ, List.all_cons, List.all_nil, Bool.and_true, Bool.and_self, Option.map_some, List.flatten_cons, List.flatten_nil, ↓mg, ↓ms, ↓mg0, ↓ms0, ma, ma2, ml, V.one, cellsV, partV, evLoad, evStore, ldB, wrB, evStrIdx, ↓ev_nilCheck, evFA, evF, evIA, evI, evBuild, fillV, setAt, evSlice, evStrSlice, bound, chunks, evLen, evAppend, elsV, beq_self_eq_true, Nat.reduceBEq, evMake, evBuildSl, repL, List.replicate_succ, List.replicate_zero, List.range_succ, List.range_zero, Option.map_none, Int.toNat_natCast, Nat.zero_add, Nat.add_zero, Nat.zero_mul, Nat.one_mul, Int.le_refl, Nat.le_refl, agT101, agT102, agT118, agT127, agT138, agT172, agT193, agT22, agT23, agT25, agT26, agT29, agT3, agT34, agT4, agT52, agT75, agT79, agT81, agT9, agT95, agT96, agT98, arT101, arT118, arT135, arT138, arT22, arT23, arT25, arT26, arT34, arT52, arT63, arT75, arT79, arT81, arT9, arT91, arT95, arT96, arT98, eqT101, eqT22, eqT26, eqT52, eqT79, eqT81, eqT9, eqT95, eqT96, fdT101f0, fdT101f1, fdT118f0, fdT118f1, fdT135f0, fdT135f1, fdT135f2, fdT135f3, fdT138f0, fdT138f1, fdT25f0, fdT25f1, fdT79f0, fdT79f1, fdT81f0, fdT81f1, fdT81f2, fdT81f3, fdT98f0, fdT98f1, fdT98f2, fdT98f3, fdT98f4, fdT98f5, intT164, intT188, intT190, intT193, intT3, intT5, kdT101, kdT22, kdT26, kdT52, kdT79, kdT81, kdT9, kdT95, kdT96, slT166, slT22, slT23, slT26, slT3, slT34, slT52, slT63, slT75, slT9, slT91, slT95, slT96, smT101, smT26, smT3, smT52, smT75, smT79, smT81, smT9, smT98, stT101, stT118, stT135, stT138, stT25, stT52, stT79, stT81, stT98, strT166, strT22, strT23, strT26, strT3, strT34, strT52, strT63, strT75, strT9, strT91, strT95, strT96, szT101, szT102, szT118, szT127, szT135, szT138, szT172, szT193, szT22, szT23, szT25, szT26, szT29, szT3, szT34, szT4, szT52, szT75, szT79, szT81, szT9, szT95, szT96, szT98, zeT101, zeT102, zeT118, zeT127, zeT135, zeT138, zeT172, zeT193, zeT25, zeT26, zeT29, zeT3, zeT4, zeT52, zeT75, zeT79, zeT81, zeT9, zeT98, FX]
      · refine ⟨D ++ _, by rw [hB, List.append_assoc], .inl ⟨ha, D ++ [_, _, _], by rw [List.append_assoc]; rfl, ?_⟩⟩
        rw [List.length_append, hBl, Nat.add_assoc]
        rfl
    | succ k =>
      simp only [cpyS, coE, benT]
      simp only [List.map_cons, List.map_nil, TB.inst, TV.inst, tv_map, zipT, List.cons_append, List.nil_append, Nat.add_zero]
      (have FX := And.intro hlm (And.intro hla hma); repeat' (first | (refine sx ?_ ?_ <;> intro h <;> first | (exfalso; omega) | skip) | (refine g_op ?_; refine g_call ?_; refine g_args ?_; (first | refine s_fn (hct _) ?_) <;> try first | omega | assumption) | refine ny ?_ | refine WA_block ?_ | (refine uB62_19_6 ?_; refine ⟨by kernel_rfl, ?_⟩) | ((first | refine grp_cons (fun _ => hct _) ?_) <;> try first | omega | assumption) | (refine g_d ?_; refine d_args ?_; (first | refine d_fn (hct _) ?_ | refine d_fnQ (fun _ => hct _) ?_) <;> try first | omega | assumption) | (refine g_d ?_; (first | refine d_fnY (hct _) ?_) <;> try first | omega | assumption)))
      all_goals (try (exfalso; omega))
      have ht1 : adsV (b.ads.take (k + 1)) = adsV b.ads := by rw [List.take_of_length_le (by omega)]
      refine hQ _ _ _ (by first | exact .inl rfl | exact .inr rfl) (.agg [.sl (B.length + 3) b.ms.length, .sl (B.length + 4) (k + 1)]) ?_ ?_
      · simp (disch := omega) only [resV, resVs, resOne, tupV, ↓ev_move, ↓ev_assign, ↓ev_pick, ↓ev_alloc, ↓ev_box, ↓ev_load, ↓ev_store, ↓ev_binOp, ↓ev_unOp, ↓ev_extract, ↓ev_fieldAddr, ↓ev_field, ↓ev_indexAddr, ↓ev_index, ↓ev_makeFunc, ↓ev_build, ↓ev_makeSlice, ↓ev_buildSlice, ↓ev_convert, ↓ev_len, ↓ev_max, ↓ev_min, ↓ev_append, ↓ev_slice, maxLen_eq, b_aeq, b_ane, planEq, leafEq, ← Bool.decide_and, b_add, b_sub, b_mul, b_quo, b_rem, b_and, b_or, b_xor, b_eql, b_neq, b_lss, b_leq, b_gtr, b_geq, b_sadd, b_seql, b_sneq, u_not, u_neg, okO_some, okR_eq, ↓evO_tmp, ↓evO_const, ↓evO_func, ofC_int, ofC_bool, ofC_nilsl, ofC_nilptr, ofC_nilfn, ofC_nilmap, ofC_nilif, ofC_str, tput_some, tput_none, i64w, u64w, Int.one_mul, Int.tdiv_eq_ediv_of_nonneg, ne_eq, not_false_eq_true, not_true_eq_false, Int.reduceEq, ↓tg_c, tg_n, ↓reduceIte, Nat.reduceEqDiff, true_and, and_true, evMax, evMin, reduceCtorEq, Nat.succ_ne_zero, Nat.zero_ne_one, Nat.one_ne_zero, Bool.not_true, Bool.not_false, argT, Nat.reduceAdd, pickT, List.map_cons, List.map_nil, Nat.reduceMul, Nat.reduceSub, Nat.reduceLT, Nat.reduceLeDiff, Nat.lt_irrefl, Int.reduceToNat, Int.reduceLT, Int.reduceLE, Int.reduceNeg, Int.reduceAdd, Int.reduceMul, Int.toNat_zero, Int.toNat_one, decide_true, decide_false, and_self, List.length_cons, List.length_nil, List.getElem?_cons_zero, List.getElem?_cons_succ, List.drop_zero, List.drop_succ_cons, List.take_zero, List.take_succ_cons, List.take_nil, List.drop_nil, List.cons_append, List.nil_append, List.set_cons_zero, List.set_cons_succ, List.all_cons, List.all_nil, Bool.and_true, Bool.and_self, Option.map_some, List.flatten_cons, List.flatten_nil, ↓mg, ↓ms, ↓mg0, ↓ms0, ma, ma2, ml, V.one, cellsV, partV, evLoad, evStore, ldB, wrB, evStrIdx, ↓ev_nilCheck, evFA, evF, evIA, evI, evBuild, fillV, setAt, evSlice, evStrSlice, bound, chunks, evLen, evAppend, elsV, beq_self_eq_true, Nat.reduceBEq, evMake, evBuildSl, repL, List.replicate_succ, List.replicate_zero, List.range_succ, List.range_zero, Option.map_none, Int.toNat_natCast, Nat.zero_add, Nat.add_zero, Nat.zero_mul, Nat.one_mul, Int.le_refl, Nat.le_refl, agT101, agT102, agT118, agT127, agT138, agT172, agT193, agT22, agT23, agT25, agT26, agT29, agT3, agT34, agT4, agT52, agT75, agT79, agT81, agT9, agT95, agT96, agT98, arT101, arT118, arT135, arT138, arT22, arT23, arT25, arT26, arT34, arT52, arT63, arT75, arT79, arT81, arT9, arT91, arT95, arT96, arT98, eqT101, eqT22, eqT26, eqT52, eqT79, eqT81, eqT9, eqT95, eqT96, fdT101f0, fdT101f1, fdT118f0, fdT118f1, fdT135f0, fdT135f1, fdT135f2, fdT135f3, fdT138f0, fdT138f1, fdT25f0, fdT25f1, fdT79f0, fdT79f1, fdT81f0, fdT81f1, fdT81f2, fdT81f3, fdT98f0, fdT98f1, fdT98f2, fdT98f3, fdT98f4, fdT98f5, intT164, intT188, intT190, intT193, intT3, intT5, kdT101, kdT22, kdT26, kdT52, kdT79, kdT81, kdT9, kdT95, kdT96, slT166, slT22, slT23, slT26, slT3, slT34, slT52, slT63, slT75, slT9, slT91, slT95, slT96, smT101, smT26, smT3, smT52, smT75, smT79, smT81, smT9, smT98, stT101, stT118, stT135, stT138, stT25, stT52, stT79, stT81, stT98, strT166, strT22, strT23, strT26, strT3, strT34, strT52, strT63, strT75, strT9, strT91, strT95, strT96, szT101, szT102, szT118, szT127, szT135, szT138, szT172, szT193, szT22, szT23, szT25, szT26, szT29, szT3, szT34, szT4, szT52, szT75, szT79, szT81, szT9, szT95, szT96, szT98, zeT101, zeT102, zeT118, zeT127, zeT135, zeT138, zeT172, zeT193, zeT25, zeT26, zeT29, zeT3, zeT4, zeT52, zeT75, zeT79, zeT81, zeT9, zeT98, FX]
      · have ha : b.ads ≠ [] := fun h => by rw [h] at hk; cases hk
        rw [ht1]
        refine ⟨D ++ _, by rw [hB, List.append_assoc], .inr ⟨ha, D ++ [_, _, _], by rw [List.append_assoc]; rfl, ?_⟩⟩
        rw [List.length_append, hBl, hk, Nat.add_assoc, Nat.add_assoc, Nat.add_assoc]
        rfl
end Go.Proofs.Ytaoakololkcepaa
