/- contract: the copy of an action, its leads the caller's own from then on -/
import Derived.Test.YtihbeoplchiikaaDoorC44
import Derived.Test.YtihbeoplchiikaaDoorYN
set_option linter.unusedSimpArgs false
set_option linter.unusedVariables false
namespace Go.Proofs.YtihbeoplchiikaaDoor
open Go.RowKit
attribute [local irreducible] WA WOs WDs WAn qThen qBlock tput
set_option maxHeartbeats 1000000
set_option maxRecDepth 20000
set_option linter.unusedSimpArgs false
set_option linter.unusedVariables false
set_option maxHeartbeats 4000000
attribute [local irreducible] smB cut sm
theorem evsV_frz (b : Nat) (es : List (List V)) (l : List EvR) : (evsV l).map (List.map (frzV b es)) = evsV l := by
  simp [evsV, evV, frzV]
theorem ldsV_frz (b : Nat) (es : List (List V)) (l : List (Int × Int)) : (ldsV l).map (List.map (frzV b es)) = ldsV l := by
  simp [ldsV, ldV, frzV]
theorem prtsV_frz (b : Nat) (es : List (List V)) (l : List PartR) : (prtsV l).map (List.map (frzV b es)) = prtsV l := by
  simp [prtsV, prtV, frzV]
/-- the copy: its leads lie somewhere behind what there was -/
def coA (a : ActR) (m : Mem) (v : V) (mo : Option Mem) : Prop := ∃ D E : Mem, mo = some (m ++ (D ++ .cells .own 39 2 (ldsV a.leads) :: E)) ∧ v = .agg [.int .i64 a.dip, oV (prtsV a.parts), .lst (evsV a.evs), .sl (m.length + D.length) a.leads.length]
theorem uC60_8_1 {N : Nat} {l : List Oper} {t : List (Nat × V)} {m : Mem} {Q : Exit → List (Nat × V) → Mem → Prop} (h : RgN Tryd.prog N l t m Q (fun i => if i == 5 || i == 9 || i == 12 then .f else if i == 2 || i == 6 || i == 11 then .a else if i == 1 || i == 4 || i == 8 then .q else .p) [.one 0, .one 1, .one 3, .one 4, .one 7, .one 8, .grp false [5, 9] [2, 6, 11], .one 10, .one 12]) : WA Tryd.prog N (.region 1 l.toArray true) t m Q := d_rgN h
theorem lcopied_o (a : ActR) (h1 : a.evs.length ≤ 100) (h2 : a.leads.length ≤ 100) (h3 : a.parts.length ≤ 100) (h4 : ∀ i, i < a.parts.length → (a.parts.getD i p0).cor.length ≤ 100) (m : Mem) : CallA Tryd.prog 8 [.agg (actV a)] m (coA a m) := by
  have hlen := prtsV_length (l := a.parts)
  have hev := evsV_length (l := a.evs)
  have hld := ldsV_length (l := a.leads)
  have hea : ∀ n, n = 4 → (evsV a.evs).all (fun e => e.length == n) = true := fun n h => evsV_l4 h
  have hla : ∀ n, n = 2 → (ldsV a.leads).all (fun e => e.length == n) = true := fun n h => ldsV_l2 h

  unfold actV
  refine CallA_inO Tryd.func8 rfl Tryd.ntmps8 Tryd.results8 (by kernel_rfl) (by simp) fun Q hQ => ?_
  refine WA_cutT2 (σ := Unit) (L := lend m) [1, 2, 3] (fun _ => [.ptr 0 0 0, .ptr 1 0 0, .ptr 2 0 0]) (fun _ => caE a []) (fun _ => True) (by decide) (fun _ _ => by unfold caE; simp [TV.okT]) (fun _ _ => caE_ok) (fun K1 hK1 => ?_) (fun _ _ B1 hB1 => ?_)
  · (have FX := And.intro hev (And.intro hld (And.intro hea hla)); repeat' first | (first | (refine sx ?_ ?_ <;> intro h <;> first | (exfalso; omega) | skip) | (refine g_op ?_; refine g_call ?_; refine g_args ?_; (first | refine s_fn (lcurve_c _ ?_ _) ?_) <;> try first | omega | assumption) | refine ny ?_ | refine WA_block ?_ | (refine uC60_8_1 ?_; refine ⟨by kernel_rfl, ?_⟩) | ((first | refine grp_cons (fun _ => lcurve_c _ ?_ _) ?_) <;> try first | omega | assumption) | (refine g_d ?_; refine d_args ?_; (first | refine d_fn (lcurve_c _ ?_ _) ?_ | refine d_fnQ (fun _ => lcurve_c _ ?_ _) ?_) <;> try first | omega | assumption) | (refine g_d ?_; (first | refine d_fnY (lcurve_c _ ?_ _) ?_) <;> try first | omega | assumption)) | refine d_alt ?_ | refine wg_0 ?_ | refine wg_b ?_ | refine wg_c ?_ ?_ | refine wg_n ?_ | refine wm_cons ?_ ?_ | exact wm_nil | refine wg_op ?_)
    all_goals first
      | ((refine nextU_ hK1 (()) [0, 1, 6, 3, 5] (trivial) (trivial) ?_ (ht := ?_); (focus (simp only [caE, actT, zacT, outT, evT, ldT, cpEx, cpSt, List.map_cons, List.map_nil, TB.inst, TV.inst, tv_map, List.cons_append, List.nil_append]; first | rfl | (simp [ptsV, ptV]; done) | (simp [hpsV, hpV]; done) | (simp [frsV, frV]; done) | (simp [txV]; done) | (simp [prtsV, prtV]; done))); (simp only [List.length_cons, List.map_cons, List.map_nil, TV.inst, List.getD_cons_zero, List.getD_cons_succ]; exact tv_)))
      | ((refine nextU_ hK1 (()) [0, 1, 5, 3, 6] (trivial) (trivial) ?_ (ht := ?_); (focus (simp only [caE, actT, zacT, outT, evT, ldT, cpEx, cpSt, List.map_cons, List.map_nil, TB.inst, TV.inst, tv_map, List.cons_append, List.nil_append]; first | rfl | (simp [ptsV, ptV]; done) | (simp [hpsV, hpV]; done) | (simp [frsV, frV]; done) | (simp [txV]; done) | (simp [prtsV, prtV]; done))); (simp only [List.length_cons, List.map_cons, List.map_nil, TV.inst, List.getD_cons_zero, List.getD_cons_succ]; exact tv_)))
      | ((refine nextU_ hK1 (()) [0, 1, 4, 3, 6] (trivial) (trivial) ?_ (ht := ?_); (focus (simp only [caE, actT, zacT, outT, evT, ldT, cpEx, cpSt, List.map_cons, List.map_nil, TB.inst, TV.inst, tv_map, List.cons_append, List.nil_append]; first | rfl | (simp [ptsV, ptV]; done) | (simp [hpsV, hpV]; done) | (simp [frsV, frV]; done) | (simp [txV]; done) | (simp [prtsV, prtV]; done))); (simp only [List.length_cons, List.map_cons, List.map_nil, TV.inst, List.getD_cons_zero, List.getD_cons_succ]; exact tv_)))
      | ((refine nextU_ hK1 (()) [0, 1, 6, 4, 5] (trivial) (trivial) ?_ (ht := ?_); (focus (simp only [caE, actT, zacT, outT, evT, ldT, cpEx, cpSt, List.map_cons, List.map_nil, TB.inst, TV.inst, tv_map, List.cons_append, List.nil_append]; first | rfl | (simp [ptsV, ptV]; done) | (simp [hpsV, hpV]; done) | (simp [frsV, frV]; done) | (simp [txV]; done) | (simp [prtsV, prtV]; done))); (simp only [List.length_cons, List.map_cons, List.map_nil, TV.inst, List.getD_cons_zero, List.getD_cons_succ]; exact tv_)))
      | ((refine nextU_ hK1 (()) [0, 1, 5, 4, 6] (trivial) (trivial) ?_ (ht := ?_); (focus (simp only [caE, actT, zacT, outT, evT, ldT, cpEx, cpSt, List.map_cons, List.map_nil, TB.inst, TV.inst, tv_map, List.cons_append, List.nil_append]; first | rfl | (simp [ptsV, ptV]; done) | (simp [hpsV, hpV]; done) | (simp [frsV, frV]; done) | (simp [txV]; done) | (simp [prtsV, prtV]; done))); (simp only [List.length_cons, List.map_cons, List.map_nil, TV.inst, List.getD_cons_zero, List.getD_cons_succ]; exact tv_)))
      | ((refine nextU_ hK1 (()) [0, 1, 4, 5, 6] (trivial) (trivial) ?_ (ht := ?_); (focus (simp only [caE, actT, zacT, outT, evT, ldT, cpEx, cpSt, List.map_cons, List.map_nil, TB.inst, TV.inst, tv_map, List.cons_append, List.nil_append]; first | rfl | (simp [ptsV, ptV]; done) | (simp [hpsV, hpV]; done) | (simp [frsV, frV]; done) | (simp [txV]; done) | (simp [prtsV, prtV]; done))); (simp only [List.length_cons, List.map_cons, List.map_nil, TV.inst, List.getD_cons_zero, List.getD_cons_succ]; exact tv_)))
      | ((refine nextU_ hK1 (()) [0, 1, 3, 4, 6] (trivial) (trivial) ?_ (ht := ?_); (focus (simp only [caE, actT, zacT, outT, evT, ldT, cpEx, cpSt, List.map_cons, List.map_nil, TB.inst, TV.inst, tv_map, List.cons_append, List.nil_append]; first | rfl | (simp [ptsV, ptV]; done) | (simp [hpsV, hpV]; done) | (simp [frsV, frV]; done) | (simp [txV]; done) | (simp [prtsV, prtV]; done))); (simp only [List.length_cons, List.map_cons, List.map_nil, TV.inst, List.getD_cons_zero, List.getD_cons_succ]; exact tv_)))
      | ((refine nextU_ hK1 (()) [0, 1, 3, 5, 6] (trivial) (trivial) ?_ (ht := ?_); (focus (simp only [caE, actT, zacT, outT, evT, ldT, cpEx, cpSt, List.map_cons, List.map_nil, TB.inst, TV.inst, tv_map, List.cons_append, List.nil_append]; first | rfl | (simp [ptsV, ptV]; done) | (simp [hpsV, hpV]; done) | (simp [frsV, frV]; done) | (simp [txV]; done) | (simp [prtsV, prtV]; done))); (simp only [List.length_cons, List.map_cons, List.map_nil, TV.inst, List.getD_cons_zero, List.getD_cons_succ]; exact tv_)))
      | ((refine nextU_ hK1 (()) [0, 1, 2, 4, 6] (trivial) (trivial) ?_ (ht := ?_); (focus (simp only [caE, actT, zacT, outT, evT, ldT, cpEx, cpSt, List.map_cons, List.map_nil, TB.inst, TV.inst, tv_map, List.cons_append, List.nil_append]; first | rfl | (simp [ptsV, ptV]; done) | (simp [hpsV, hpV]; done) | (simp [frsV, frV]; done) | (simp [txV]; done) | (simp [prtsV, prtV]; done))); (simp only [List.length_cons, List.map_cons, List.map_nil, TV.inst, List.getD_cons_zero, List.getD_cons_succ]; exact tv_)))
      | ((refine nextU_ hK1 (()) [0, 1, 2, 5, 6] (trivial) (trivial) ?_ (ht := ?_); (focus (simp only [caE, actT, zacT, outT, evT, ldT, cpEx, cpSt, List.map_cons, List.map_nil, TB.inst, TV.inst, tv_map, List.cons_append, List.nil_append]; first | rfl | (simp [ptsV, ptV]; done) | (simp [hpsV, hpV]; done) | (simp [frsV, frV]; done) | (simp [txV]; done) | (simp [prtsV, prtV]; done))); (simp only [List.length_cons, List.map_cons, List.map_nil, TV.inst, List.getD_cons_zero, List.getD_cons_succ]; exact tv_)))
  · obtain ⟨D1, hB1⟩ := hB1
    simp only [zipT, List.map_cons, List.map_nil, TV.inst, Nat.add_zero]
    (have FX := And.intro hev (And.intro hld (And.intro hea hla)); repeat' (first | (refine sx ?_ ?_ <;> intro h <;> first | (exfalso; omega) | skip) | (refine g_op ?_; refine g_call ?_; refine g_args ?_; (first | refine s_fn (lcurve_c _ ?_ _) ?_) <;> try first | omega | assumption) | refine ny ?_ | refine WA_block ?_ | (refine uC60_8_1 ?_; refine ⟨by kernel_rfl, ?_⟩) | ((first | refine grp_cons (fun _ => lcurve_c _ ?_ _) ?_) <;> try first | omega | assumption) | (refine g_d ?_; refine d_args ?_; (first | refine d_fn (lcurve_c _ ?_ _) ?_ | refine d_fnQ (fun _ => lcurve_c _ ?_ _) ?_) <;> try first | omega | assumption) | (refine g_d ?_; (first | refine d_fnY (lcurve_c _ ?_ _) ?_) <;> try first | omega | assumption)))
    refine WA_whileT (σ := Nat) (L := B1) [1, 2, 3, 4] (fun i => caS i) (fun i => caE a (a.parts.take i)) (fun i => i ≤ a.parts.length) (fun i => a.parts.length - i) 0 (Nat.zero_le _) ?_ rfl (by decide) (fun _ _ => caS_ok (l := a.parts.take _)) (fun _ _ => caE_ok) ?_
    · simp only [caS, List.map_cons, List.map_nil, TV.inst]
      exact tv_
    rintro i hi B ⟨D2, hB2⟩ K hK
    have hB : B = lend m ++ (D1 ++ D2) := by rw [hB2, hB1, List.append_assoc]
    clear FX hB1 hB2
    rcases Nat.lt_or_ge i a.parts.length with hlt | hge
    · have hga := prtsV_get hlt
      have h4' := h4 i hlt
      have hsu : a.parts.take (i + 1) = a.parts.take i ++ [a.parts.getD i p0] := by
        rw [List.take_succ_eq_append_getElem hlt]
        have : a.parts.getD i p0 = a.parts[i] := by rw [List.getD_eq_getElem?_getD, List.getElem?_eq_getElem hlt]; rfl
        rw [this]
      have hnx := hK (i + 1)
      rw [hsu] at hnx
      have hny := fun (_ : Unit) => hnx
      clear hnx hsu hK
      have hol : (a.parts.take i).length = i := by rw [List.length_take]; omega
      generalize a.parts.getD i p0 = p at *
      have hcu := fun m => lcurve_c p.cor (by omega) m
      obtain ⟨nm, dr, co, wt, fr⟩ := p
      unfold prtV at hga
      dsimp only at hga hcu h4'
      generalize a.parts.take i = l at *
      cases l with
      | nil =>
        have hll := hlen
        have hlt2 := hlen
        simp only [caS, caE, actT, zacT, outT, evT, ldT, cpEx, cpSt]
        simp only [List.map_cons, List.map_nil, TB.inst, TV.inst, tv_map, zipT, List.cons_append, List.nil_append, Nat.add_zero]
        (have FX := And.intro hlen (And.intro hga (And.intro hll hlt2)); repeat' (first | (refine sx ?_ ?_ <;> intro h <;> first | (exfalso; omega) | skip) | (refine g_op ?_; refine g_call ?_; refine g_args ?_; (first | refine s_fn (hcu _) ?_) <;> try first | omega | assumption) | refine ny ?_ | refine WA_block ?_ | (refine uC60_8_1 ?_; refine ⟨by kernel_rfl, ?_⟩) | ((first | refine grp_cons (fun _ => hcu _) ?_) <;> try first | omega | assumption) | (refine g_d ?_; refine d_args ?_; (first | refine d_fn (hcu _) ?_ | refine d_fnQ (fun _ => hcu _) ?_) <;> try first | omega | assumption) | (refine g_d ?_; (first | refine d_fnY (hcu _) ?_) <;> try first | omega | assumption)))
        all_goals (try (exfalso; omega))
        all_goals ((refine nextU_ hny (()) [0, 1, 2, 3, 4, 7] (hlt) (by omega) ?_ (ht := ?_); (focus (simp only [caE, actT, zacT, outT, evT, ldT, cpEx, cpSt, List.map_cons, List.map_nil, TB.inst, TV.inst, tv_map, List.cons_append, List.nil_append]; first | rfl | (simp [ptsV, ptV]; done) | (simp [hpsV, hpV]; done) | (simp [frsV, frV]; done) | (simp [txV]; done) | (simp [prtsV, prtV]; done))); (simp only [caS, List.length_nil, Nat.zero_add, List.map_cons, List.map_nil, TV.inst, List.getD_cons_zero, List.getD_cons_succ]; exact tv_)))
      | cons q r =>
        have hll : (prtsV (q :: r)).length = r.length + 1 := prtsV_length
        have hlt2 : (prtsV (q :: r)).take (r.length + 1) = prtsV (q :: r) := by rw [List.take_of_length_le (by rw [hll]; exact Nat.le_refl _)]
        simp only [List.length_cons] at hol
        simp only [caS, caE, actT, zacT, outT, evT, ldT, cpEx, cpSt]
        simp only [List.map_cons, List.map_nil, TB.inst, TV.inst, tv_map, zipT, List.cons_append, List.nil_append, Nat.add_zero]
        (have FX := And.intro hlen (And.intro hga (And.intro hll hlt2)); repeat' (first | (refine sx ?_ ?_ <;> intro h <;> first | (exfalso; omega) | skip) | (refine g_op ?_; refine g_call ?_; refine g_args ?_; (first | refine s_fn (hcu _) ?_) <;> try first | omega | assumption) | refine ny ?_ | refine WA_block ?_ | (refine uC60_8_1 ?_; refine ⟨by kernel_rfl, ?_⟩) | ((first | refine grp_cons (fun _ => hcu _) ?_) <;> try first | omega | assumption) | (refine g_d ?_; refine d_args ?_; (first | refine d_fn (hcu _) ?_ | refine d_fnQ (fun _ => hcu _) ?_) <;> try first | omega | assumption) | (refine g_d ?_; (first | refine d_fnY (hcu _) ?_) <;> try first | omega | assumption)))
        all_goals (try (exfalso; omega))
        all_goals ((refine nextU_ hny (()) [0, 1, 2, 3, 4, 8] (hlt) (by omega) ?_ (ht := ?_); (focus (simp only [caE, actT, zacT, outT, evT, ldT, cpEx, cpSt, List.map_cons, List.map_nil, TB.inst, TV.inst, tv_map, List.cons_append, List.nil_append]; first | rfl | (simp [ptsV, ptV]; done) | (simp [hpsV, hpV]; done) | (simp [frsV, frV]; done) | (simp [txV]; done) | (simp [prtsV, prtV]; done))); (simp only [caS, List.cons_append, List.length_append, List.length_cons, List.length_nil, Nat.zero_add, List.map_cons, List.map_nil, TV.inst, List.getD_cons_zero, List.getD_cons_succ]; exact tv_)))
    · have hie : i = a.parts.length := by omega
      rw [List.take_of_length_le (by omega)]
      clear hK
      have hga := hlen
      have hll := hlen
      have hlt2 := hlen
      have hev' := hev
      have hld' := hld
      have hBl : B.length = m.length + (D1 ++ D2).length := by rw [hB, List.length_append, lend_len]
      have hne : ∀ (a c d : Nat), (a + c = a + d) = (c = d) := fun a c d => by simp
      have hn0 : ∀ (a d : Nat), (a = a + d) = (0 = d) := fun a d => by rw [eq_iff_iff]; omega
      have htp : (evsV a.evs).take a.evs.length = evsV a.evs := List.take_of_length_le (by rw [hev]; exact Nat.le_refl _)
      generalize hpe : a.parts = l at hQ ⊢
      cases l with
      | nil =>
        have hpl := hev
        have htq := htp
        simp only [caS, caE, actT, zacT, outT, evT, ldT, cpEx, cpSt]
        simp only [List.map_cons, List.map_nil, TB.inst, TV.inst, tv_map, zipT, List.cons_append, List.nil_append, Nat.add_zero]
        refine WA_fzM (j := 3) rfl ?_
        simp (decide := true) only [List.map_cons, List.map_nil, List.map_append, frzV, frzC, List.set_cons_succ, List.set_cons_zero, hne, hn0, Nat.reduceEqDiff, false_and, true_and, if_false, if_true, hev, hpl, Nat.le_refl, htp, htq, evsV_frz, ldsV_frz, prtsV_frz]
        clear hne hn0
        (have FX := And.intro hlen (And.intro hga (And.intro hll hlt2)); repeat' (first | (refine sx ?_ ?_ <;> intro h <;> first | (exfalso; omega) | skip) | refine ny ?_ | refine WA_block ?_ | (refine uC60_8_1 ?_; refine ⟨by kernel_rfl, ?_⟩)))
        all_goals (try (exfalso; omega))
        refine hQ _ _ _ (by first | exact .inl rfl | exact .inr rfl) (.agg [.int .i64 a.dip, .nilsl, .lst (evsV a.evs), .sl (B.length + 4) a.leads.length]) ?_ ?_
        · simp (disch := omega) only [resV, resVs, resOne, tupV, ↓ev_move, ↓ev_assign, ↓ev_pick, ↓ev_alloc, ↓ev_box, ↓ev_load, ↓ev_store, ↓ev_binOp, ↓ev_unOp, ↓ev_extract, ↓ev_fieldAddr, ↓ev_field, ↓ev_indexAddr, ↓ev_index, ↓ev_makeFunc, ↓ev_build, ↓ev_makeSlice, ↓ev_buildSlice, ↓ev_convert, ↓ev_len, ↓ev_max, ↓ev_min, ↓ev_append, ↓ev_slice, maxLen_eq, b_aeq, b_ane, planEq, leafEq, ← Bool.decide_and, b_add, b_sub, b_mul, b_quo, b_rem, b_and, b_or, b_xor, b_eql, b_neq, b_lss, b_leq, b_gtr, b_geq, b_sadd, b_seql, b_sneq, u_not, u_neg, okO_some, okR_eq, ↓evO_tmp, ↓evO_const, ↓evO_func, ↓evO_glb, ofC_int, ofC_bool, ofC_nilsl, ofC_nilptr, ofC_nilfn, ofC_nilmap, ofC_nilif, ofC_str, tput_some, tput_none, i64w, u64w, Int.one_mul, Int.tdiv_eq_ediv_of_nonneg, ne_eq, not_false_eq_true, not_true_eq_false, Int.reduceEq, ↓tg_c, tg_n, ↓reduceIte, Nat.reduceEqDiff, true_and, and_true, evMax, evMin, reduceCtorEq, Nat.succ_ne_zero, Nat.zero_ne_one, Nat.one_ne_zero, Bool.not_true, Bool.not_false, argT, Nat.reduceAdd, pickT, List.map_cons, List.map_nil, Nat.reduceMul, Nat.reduceSub, Nat.reduceLT, Nat.reduceLeDiff, Nat.lt_irrefl, Int.reduceToNat, Int.reduceLT, Int.reduceLE, Int.reduceNeg, Int.reduceAdd, Int.reduceMul, Int.toNat_zero, Int.toNat_one, decide_true, decide_false, and_self, List.length_cons, List.length_nil, List.getElem?_cons_zero, List.getElem?_cons_succ, List.drop_zero, List.drop_succ_cons, List.take_zero, List.take_succ_cons, List.take_nil, List.drop_nil, List.cons_append, List.nil_append, List.set_cons_zero, List.set_cons_succ, List.all_cons, List.all_nil, Bool.and_true, Bool.and_self, Option.map_some, List.flatten_cons, List.flatten_nil, ↓mg, ↓ms, ↓mg0, ↓ms0, ma, ma2, ml, V.one, cellsV, partV, evLoad, evStore, ldB, wrB, evStrIdx, ↓ev_nilCheck, evFA, evF, evIA, evI, evBuild, fillV, setAt, evSlice, evStrSlice, bound, chunks, evLen, evAppend, elsV, beq_self_eq_true, Nat.reduceBEq, evMake, evBuildSl, repL, List.replicate_succ, List.replicate_zero, List.range_succ, List.range_zero, Option.map_none, Int.toNat_natCast, Nat.zero_add, Nat.add_zero, Nat.zero_mul, Nat.one_mul, Int.le_refl, Nat.le_refl, agT22, agT23, agT24, agT26, agT28, agT3, agT39, agT4, agT42, agT45, agT49, agT5, agT51, agT53, agT55, agT9, agT90, arT110, arT111, arT22, arT23, arT24, arT26, arT32, arT42, arT45, arT49, arT51, arT53, arT55, arT78, arT9, arT90, arT93, eqT24, eqT45, eqT9, fdT26f0, fdT26f1, fdT26f2, fdT26f3, fdT28f0, fdT28f1, fdT39f0, fdT39f1, fdT42f0, fdT42f1, fdT51f0, fdT53f0, fdT53f1, fdT53f2, fdT53f3, fdT53f4, fdT55f0, fdT55f1, fdT55f2, fdT55f3, fdT82f0, fdT90f0, fdT90f1, intT104, intT3, intT5, intT64, intT9, intT93, kdT24, kdT45, kdT9, slT110, slT111, slT22, slT23, slT24, slT3, slT32, slT45, slT49, slT78, slT9, slT93, smT3, smT39, smT42, smT5, smT53, smT55, smT90, stT110, stT111, stT26, stT42, stT45, stT51, stT53, stT55, stT90, strT22, strT23, strT24, strT3, strT32, strT49, strT78, strT9, strT93, szT110, szT111, szT22, szT23, szT24, szT26, szT28, szT3, szT39, szT4, szT42, szT45, szT49, szT5, szT51, szT53, szT55, szT9, szT90, zeT110, zeT26, zeT3, zeT39, zeT42, zeT45, zeT5, zeT51, zeT53, zeT55, zeT82, zeT90, FX]
        · refine ⟨(D1 ++ D2) ++ _, by rw [hB, List.append_assoc], (D1 ++ D2) ++ [_, _, _, _], [], by simp only [List.append_assoc]; rfl, ?_⟩
          rw [List.length_append, hBl, hpe, Nat.add_assoc]
          rfl
      | cons q r =>
        have hpl : (prtsV (q :: r)).length = r.length + 1 := prtsV_length
        have htq : (prtsV (q :: r)).take (r.length + 1) = prtsV (q :: r) := List.take_of_length_le (by rw [hpl]; exact Nat.le_refl _)
        simp only [caS, caE, actT, zacT, outT, evT, ldT, cpEx, cpSt]
        simp only [List.map_cons, List.map_nil, TB.inst, TV.inst, tv_map, zipT, List.cons_append, List.nil_append, Nat.add_zero]
        refine WA_fzM (j := 3) rfl ?_
        simp (decide := true) only [List.map_cons, List.map_nil, List.map_append, frzV, frzC, List.set_cons_succ, List.set_cons_zero, hne, hn0, Nat.reduceEqDiff, false_and, true_and, if_false, if_true, hev, hpl, Nat.le_refl, htp, htq, evsV_frz, ldsV_frz, prtsV_frz]
        refine WA_fzM (j := 5) rfl ?_
        simp (decide := true) only [List.map_cons, List.map_nil, List.map_append, frzV, frzC, List.set_cons_succ, List.set_cons_zero, hne, hn0, Nat.reduceEqDiff, false_and, true_and, if_false, if_true, hev, hpl, Nat.le_refl, htp, htq, evsV_frz, ldsV_frz, prtsV_frz]
        clear hne hn0
        (have FX := And.intro hlen (And.intro hga (And.intro hll hlt2)); repeat' (first | (refine sx ?_ ?_ <;> intro h <;> first | (exfalso; omega) | skip) | refine ny ?_ | refine WA_block ?_ | (refine uC60_8_1 ?_; refine ⟨by kernel_rfl, ?_⟩)))
        all_goals (try (exfalso; omega))
        refine hQ _ _ _ (by first | exact .inl rfl | exact .inr rfl) (.agg [.int .i64 a.dip, .lst (prtsV (q :: r)), .lst (evsV a.evs), .sl (B.length + 4) a.leads.length]) ?_ ?_
        · simp (disch := omega) only [resV, resVs, resOne, tupV, ↓ev_move, ↓ev_assign, ↓ev_pick, ↓ev_alloc, ↓ev_box, ↓ev_load, ↓ev_store, ↓ev_binOp, ↓ev_unOp, ↓ev_extract, ↓ev_fieldAddr, ↓ev_field, ↓ev_indexAddr, ↓ev_index, ↓ev_makeFunc, ↓ev_build, ↓ev_makeSlice, ↓ev_buildSlice, ↓ev_convert, ↓ev_len, ↓ev_max, ↓ev_min, ↓ev_append, ↓ev_slice, maxLen_eq, b_aeq, b_ane, planEq, leafEq, ← Bool.decide_and, b_add, b_sub, b_mul, b_quo, b_rem, b_and, b_or, b_xor, b_eql, b_neq, b_lss, b_leq, b_gtr, b_geq, b_sadd, b_seql, b_sneq, u_not, u_neg, okO_some, okR_eq, ↓evO_tmp, ↓evO_const, ↓evO_func, ↓evO_glb, ofC_int, ofC_bool, ofC_nilsl, ofC_nilptr, ofC_nilfn, ofC_nilmap, ofC_nilif, ofC_str, tput_some, tput_none, i64w, u64w, Int.one_mul, Int.tdiv_eq_ediv_of_nonneg, ne_eq, not_false_eq_true, not_true_eq_false, Int.reduceEq, ↓tg_c, tg_n, ↓reduceIte, Nat.reduceEqDiff, true_and, and_true, evMax, evMin, reduceCtorEq, Nat.succ_ne_zero, Nat.zero_ne_one, Nat.one_ne_zero, Bool.not_true, Bool.not_false, argT, Nat.reduceAdd, pickT, List.map_cons, List.map_nil, Nat.reduceMul, Nat.reduceSub, Nat.reduceLT, Nat.reduceLeDiff, Nat.lt_irrefl, Int.reduceToNat, Int.reduceLT, Int.reduceLE, Int.reduceNeg, Int.reduceAdd, Int.reduceMul, Int.toNat_zero, Int.toNat_one, decide_true, decide_false, and_self, List.length_cons, List.length_nil, List.getElem?_cons_zero, List.getElem?_cons_succ, List.drop_zero, List.drop_succ_cons, List.take_zero, List.take_succ_cons, List.take_nil, List.drop_nil, List.cons_append, List.nil_append, List.set_cons_zero, List.set_cons_succ, List.all_cons, List.all_nil, Bool.and_true, Bool.and_self, Option.map_some, List.flatten_cons, List.flatten_nil, ↓mg, ↓ms, ↓mg0, ↓ms0, ma, ma2, ml, V.one, cellsV, partV, evLoad, evStore, ldB, wrB, evStrIdx, ↓ev_nilCheck, evFA, evF, evIA, evI, evBuild, fillV, setAt, evSlice, evStrSlice, bound, chunks, evLen, evAppend, elsV, beq_self_eq_true, Nat.reduceBEq, evMake, evBuildSl, repL, List.replicate_succ, List.replicate_zero, List.range_succ, List.range_zero, Option.map_none, Int.toNat_natCast, Nat.zero_add, Nat.add_zero, Nat.zero_mul, Nat.one_mul, Int.le_refl, Nat.le_refl, agT22, agT23, agT24, agT26, agT28, agT3, agT39, agT4, agT42, agT45, agT49, agT5, agT51, agT53, agT55, agT9, agT90, arT110, arT111, arT22, arT23, arT24, arT26, arT32, arT42, arT45, arT49, arT51, arT53, arT55, arT78, arT9, arT90, arT93, eqT24, eqT45, eqT9, fdT26f0, fdT26f1, fdT26f2, fdT26f3, fdT28f0, fdT28f1, fdT39f0, fdT39f1, fdT42f0, fdT42f1, fdT51f0, fdT53f0, fdT53f1, fdT53f2, fdT53f3, fdT53f4, fdT55f0, fdT55f1, fdT55f2, fdT55f3, fdT82f0, fdT90f0, fdT90f1, intT104, intT3, intT5, intT64, intT9, intT93, kdT24, kdT45, kdT9, slT110, slT111, slT22, slT23, slT24, slT3, slT32, slT45, slT49, slT78, slT9, slT93, smT3, smT39, smT42, smT5, smT53, smT55, smT90, stT110, stT111, stT26, stT42, stT45, stT51, stT53, stT55, stT90, strT22, strT23, strT24, strT3, strT32, strT49, strT78, strT9, strT93, szT110, szT111, szT22, szT23, szT24, szT26, szT28, szT3, szT39, szT4, szT42, szT45, szT49, szT5, szT51, szT53, szT55, szT9, szT90, zeT110, zeT26, zeT3, zeT39, zeT42, zeT45, zeT5, zeT51, zeT53, zeT55, zeT82, zeT90, FX]
        · refine ⟨(D1 ++ D2) ++ _, by rw [hB, List.append_assoc], (D1 ++ D2) ++ [_, _, _, _], [_], by simp only [List.append_assoc]; rfl, ?_⟩
          rw [List.length_append, hBl, hpe, Nat.add_assoc]
          rfl
end Go.Proofs.YtihbeoplchiikaaDoor
