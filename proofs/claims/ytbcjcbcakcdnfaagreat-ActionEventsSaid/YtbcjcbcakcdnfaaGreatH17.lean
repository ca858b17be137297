/- the law ActionEvents, over contracts -/
import Derived.Test.YtbcjcbcakcdnfaaGreatC59
import Derived.Test.YtbcjcbcakcdnfaaGreatC46
import Derived.Test.YtbcjcbcakcdnfaaGreatC47
import Derived.Test.YtbcjcbcakcdnfaaGreatC39
import Derived.Test.YtbcjcbcakcdnfaaGreatNC
set_option linter.unusedSimpArgs false
set_option linter.unusedVariables false
namespace Go.Proofs.YtbcjcbcakcdnfaaGreat
open Go.RowKit
attribute [local irreducible] WA WOs WDs WAn qThen qBlock tput
set_option maxHeartbeats 1000000
set_option maxRecDepth 20000
set_option linter.unusedSimpArgs false
set_option linter.unusedVariables false
set_option maxHeartbeats 16000000
attribute [local irreducible] smB cut sm
theorem uH17_4_8 {N : Nat} {l : List Oper} {t : List (Nat × V)} {m : Mem} {Q : Exit → List (Nat × V) → Mem → Prop} (h : RgN Tryz.prog N l t m Q (fun i => if i == 1 || i == 3 then .a else if i == 0 || i == 2 then .q else .p) [.one 0, .one 2, .one 1, .one 3, .one 4, .one 5, .one 6, .one 7, .one 8]) : WA Tryz.prog N (.region 8 l.toArray true) t m Q := d_rgN h
theorem uH17_4_19 {N : Nat} {l : List Oper} {t : List (Nat × V)} {m : Mem} {Q : Exit → List (Nat × V) → Mem → Prop} (h : RgN Tryz.prog N l t m Q (fun i => if i == 9 then .f else if i == 8 then .a else if i == 1 || i == 2 || i == 3 || i == 4 then .q else .p) [.one 0, .one 1, .one 2, .one 3, .one 4, .one 5, .one 6, .one 7, .one 8, .one 9, .one 10]) : WA Tryz.prog N (.region 19 l.toArray true) t m Q := d_rgN h
theorem uH17_4_34 {N : Nat} {l : List Oper} {t : List (Nat × V)} {m : Mem} {Q : Exit → List (Nat × V) → Mem → Prop} (h : RgN Tryz.prog N l t m Q (fun i => if i == 2 || i == 8 || i == 9 || i == 10 then .q else .p) [.one 0, .one 1, .one 2, .one 3, .one 4, .one 5, .one 6, .one 7, .one 8, .one 9, .one 10, .one 11, .one 12]) : WA Tryz.prog N (.region 34 l.toArray true) t m Q := d_rgN h
theorem uH17_4_36 {N : Nat} {l : List Oper} {t : List (Nat × V)} {m : Mem} {Q : Exit → List (Nat × V) → Mem → Prop} (h : RgN Tryz.prog N l t m Q (fun i => if i == 8 || i == 9 then .a else if i == 4 then .q else .p) [.one 0, .one 1, .one 2, .one 3, .one 4, .one 5, .one 6, .one 7, .one 8, .one 9, .one 10, .one 11]) : WA Tryz.prog N (.region 36 l.toArray true) t m Q := d_rgN h
theorem events_out (a : ActR) (s : List UInt8) (n d : Int) (hout : ¬ (light a ∧ ¬ 30 < (s.length : Int) ∧ sane n d)) (m : Mem) : Gives Tryz.prog 4 [.agg (actV a), .str s, .agg [.int .i64 n, .int .i64 d]] m (.bool true) := by
  have hlg := fun m => llight_c a m
  unfold actV at hlg ⊢
  refine Gives_in Tryz.func4 rfl Tryz.ntmps4 Tryz.results4 (by kernel_rfl) (by simp) rfl fun Q hQ => ?_
  (repeat' (first | (refine sx ?_ ?_ <;> intro h <;> first | (exfalso; omega) | skip) | (refine g_op ?_; refine g_call ?_; refine g_args ?_; (first | refine s_fn (lawake_c _) ?_ | refine s_fn (hlg _) ?_ | refine s_fn (lsane_d _ _ _) ?_) <;> try first | omega | assumption) | refine ny ?_ | refine WA_block ?_ | (refine uH17_4_8 ?_; refine ⟨by kernel_rfl, ?_⟩) | (refine uH17_4_19 ?_; refine ⟨by kernel_rfl, ?_⟩) | (refine uH17_4_34 ?_; refine ⟨by kernel_rfl, ?_⟩) | (refine uH17_4_36 ?_; refine ⟨by kernel_rfl, ?_⟩) | ((first | refine grp_cons (fun _ => lawake_c _) ?_ | refine grp_cons (fun _ => hlg _) ?_ | refine grp_cons (fun _ => lsane_d _ _ _) ?_) <;> try first | omega | assumption) | (refine g_d ?_; refine d_args ?_; (first | refine d_fn (lawake_c _) ?_ | refine d_fn (hlg _) ?_ | refine d_fn (lsane_d _ _ _) ?_ | refine d_fnQ (fun _ => lawake_c _) ?_ | refine d_fnQ (fun _ => hlg _) ?_ | refine d_fnQ (fun _ => lsane_d _ _ _) ?_) <;> try first | omega | assumption) | (refine g_d ?_; (first | refine d_fnY (lawake_c _) ?_ | refine d_fnY (hlg _) ?_ | refine d_fnY (lsane_d _ _ _) ?_) <;> try first | omega | assumption)))
  all_goals (try (exfalso; first | exact hout ⟨by assumption, by assumption, by assumption⟩ | omega))
  all_goals (refine r_es hQ ?_; try with_reducible rfl)
/-- with an action that is not right -/
theorem events_bad (a : ActR) (s : List UInt8) (n d : Int) (hL : light a) (hs : ¬ 30 < (s.length : Int)) (hsa : sane n d) (hac : acErr a ≠ 0) (m : Mem) : Gives Tryz.prog 4 [.agg (actV a), .str s, .agg [.int .i64 n, .int .i64 d]] m (.bool true) := by
  have hlt := light_lt hL
  have hev := fun h => Nat.le_trans (light_few hL h).1 (by decide : 6 ≤ 12)
  obtain ⟨b1, b2⟩ := sane_b hsa
  have hlg := fun m => llight_c a m
  rw [decide_eq_true hL] at hlg
  have hsn := fun m => lsane_d n d m
  rw [decide_eq_true hsa] at hsn
  have hcp := fun m => lcopied_l a hL m
  have hea := fun m => aeventat_c a hlt s m
  have haf := fun m => aaftertouch_c a hlt s m
  have hor := fun m => aorder_c a hlt hev m
  have hhp := fun m => ahappened_c a hlt hev n d b1 b2 m
  have hrc := fun m => rcheckaction_c a hlt m
  have e1 : eatV a s = (none, acErr a) := by unfold eatV; rw [if_pos hac]
  have e2 : aftV a s = (none, acErr a) := by unfold aftV; rw [e1]
  have e3 : chkDip a n d = acErr a := by unfold chkDip; rw [if_pos hac]
  rw [e1] at hea
  rw [e2] at haf
  unfold ordV at hor
  unfold hdV at hhp
  rw [if_pos hac] at hor
  rw [e3, if_pos hac] at hhp
  simp only [rchV, frO] at hea haf
  have hx0 := hac
  generalize acErr a = c at *
  unfold actV at hlg hcp hea haf hor hhp hrc ⊢
  refine Gives_in Tryz.func4 rfl Tryz.ntmps4 Tryz.results4 (by kernel_rfl) (by simp) rfl fun Q hQ => ?_
  (have FX := hx0; repeat' (first | (refine sx ?_ ?_ <;> intro h <;> first | (exfalso; omega) | skip) | (refine g_op ?_; refine g_call ?_; refine g_args ?_; (first | refine s_fn (lawake_c _) ?_ | refine s_fn (hlg _) ?_ | refine s_fn (hsn _) ?_ | refine s_fn (hcp _) ?_ | refine s_fn (hea _) ?_ | refine s_fn (haf _) ?_ | refine s_fn (hor _) ?_ | refine s_fn (hhp _) ?_ | refine s_fn (hrc _) ?_ | refine s_fn (lnone_c _ _ _) ?_) <;> try first | omega | assumption) | refine ny ?_ | refine WA_block ?_ | (refine uH17_4_8 ?_; refine ⟨by kernel_rfl, ?_⟩) | (refine uH17_4_19 ?_; refine ⟨by kernel_rfl, ?_⟩) | (refine uH17_4_34 ?_; refine ⟨by kernel_rfl, ?_⟩) | (refine uH17_4_36 ?_; refine ⟨by kernel_rfl, ?_⟩) | ((first | refine grp_cons (fun _ => lawake_c _) ?_ | refine grp_cons (fun _ => hlg _) ?_ | refine grp_cons (fun _ => hsn _) ?_ | refine grp_cons (fun _ => hcp _) ?_ | refine grp_cons (fun _ => hea _) ?_ | refine grp_cons (fun _ => haf _) ?_ | refine grp_cons (fun _ => hor _) ?_ | refine grp_cons (fun _ => hhp _) ?_ | refine grp_cons (fun _ => hrc _) ?_ | refine grp_cons (fun _ => lnone_c _ _ _) ?_) <;> try first | omega | assumption) | (refine g_d ?_; refine d_args ?_; (first | refine d_fn (lawake_c _) ?_ | refine d_fn (hlg _) ?_ | refine d_fn (hsn _) ?_ | refine d_fn (hcp _) ?_ | refine d_fn (hea _) ?_ | refine d_fn (haf _) ?_ | refine d_fn (hor _) ?_ | refine d_fn (hhp _) ?_ | refine d_fn (hrc _) ?_ | refine d_fn (lnone_c _ _ _) ?_ | refine d_fnQ (fun _ => lawake_c _) ?_ | refine d_fnQ (fun _ => hlg _) ?_ | refine d_fnQ (fun _ => hsn _) ?_ | refine d_fnQ (fun _ => hcp _) ?_ | refine d_fnQ (fun _ => hea _) ?_ | refine d_fnQ (fun _ => haf _) ?_ | refine d_fnQ (fun _ => hor _) ?_ | refine d_fnQ (fun _ => hhp _) ?_ | refine d_fnQ (fun _ => hrc _) ?_ | refine d_fnQ (fun _ => lnone_c _ _ _) ?_) <;> try first | omega | assumption) | (refine g_d ?_; (first | refine d_fnY (lawake_c _) ?_ | refine d_fnY (hlg _) ?_ | refine d_fnY (hsn _) ?_ | refine d_fnY (hcp _) ?_ | refine d_fnY (hea _) ?_ | refine d_fnY (haf _) ?_ | refine d_fnY (hor _) ?_ | refine d_fnY (hhp _) ?_ | refine d_fnY (hrc _) ?_ | refine d_fnY (lnone_c _ _ _) ?_) <;> try first | omega | assumption)))
  all_goals (try (exfalso; omega))
  all_goals (refine r_es hQ ?_; try with_reducible rfl)
theorem nusV_all {l : List Hp} {n : Nat} (h : n = 1) : (nusV l).all (fun e => e.length == n) = true := by subst h; simp [nusV]
/-- .. that is right -/
theorem events_w (a : ActR) (s : List UInt8) (n d : Int) (hL : light a) (hs : ¬ 30 < (s.length : Int)) (hsa : sane n d) (hac : acErr a = 0) (i x1 x2 e y1 y2 f z1 z2 o k g hc dc : Int) (l : List Hp) (A H : Nms) (kn : Nat)
    (hea : ∀ m, Gives Tryz.prog 17 [.agg (actV a), .str s] m (.tup [.agg [.int .i64 x1, .int .i64 x2], .int .i64 e]))
    (haf : ∀ m, Gives Tryz.prog 18 [.agg (actV a), .str s] m (.tup [.agg [.int .i64 y1, .int .i64 y2], .int .i64 f]))
    (hen : ∀ m, Gives Tryz.prog 22 [.agg (actV a), .str s] m (.int .i64 i))
    (hre : 0 ≤ i → ∀ m, Gives Tryz.prog 23 [.agg (actV a), .int .i64 i] m (.tup [.agg [.int .i64 x1, .int .i64 x2], .int .i64 e]))
    (hsu : e = 0 → ∀ m, Gives Tryz.prog 15 [.agg [.int .i64 a.dip, .int .i64 1], .agg [.int .i64 x1, .int .i64 x2]] m (.tup [.agg [.int .i64 z1, .int .i64 z2], .bool (decide (o = 1))]))
    (hor : ∀ m, Gives Tryz.prog 19 [.agg (actV a)] m (.tup [.lst (txV A), .int .i64 g]))
    (hro : ∀ m, Gives Tryz.prog 25 [.agg (actV a)] m (.tup [.lst (nusV l), .lst (dpsV l), .bool (decide (k = 1))]))
    (hhp : ∀ m, Gives Tryz.prog 20 [.agg (actV a), .agg [.int .i64 n, .int .i64 d]] m (.tup [.lst (txV H), .int .i64 hc]))
    (hcd : ∀ m, Gives Tryz.prog 28 [.agg (actV a), .agg [.int .i64 n, .int .i64 d]] m (.int .i64 dc))
    (hdq : dc = 0 → ∃ q : Rat, q.num = n ∧ (q.den : Int) = d ∧ sm q ∧ kn = insHN l q)
    (hls : ∀ p ∈ l, sm p.2) (hlB : ∀ j, j < l.length → (l.getD j hp0).1 < a.evs.length) (hle : l.length ≤ 20)
    (F1 : i < 0 → e = 6 ∧ x1 = 0 ∧ x2 = 0) (F2 : (e = 0 → (o = 1 → f = 0 ∧ y1 = z1 ∧ y2 = z2) ∧ (¬ o = 1 → f = 8 ∧ y1 = 0 ∧ y2 = 0)) ∧ (¬ e = 0 → f = e ∧ y1 = 0 ∧ y2 = 0 ∧ x1 = 0 ∧ x2 = 0))
    (F3 : (k = 1 → g = 0) ∧ (¬ k = 1 → g = 8 ∧ A.length = 0)) (F4 : (¬ dc = 0 → hc = dc ∧ H.length = 0) ∧ (dc = 0 → ¬ k = 1 → hc = 8 ∧ H.length = 0) ∧ (dc = 0 → k = 1 → hc = 0))
    (hA : k = 1 → A = hapN a l) (hH : dc = 0 → k = 1 → H = hapN a (l.take kn)) (hHl : H.length ≤ 1000) (hAl : A.length ≤ 1000)
    (m : Mem) : Gives Tryz.prog 4 [.agg (actV a), .str s, .agg [.int .i64 n, .int .i64 d]] m (.bool true) := by
  have hlt := light_lt hL
  have hlA := txV_length (o := A)
  have hlH := txV_length (o := H)
  have hlD := dpsV_length (l := l)
  have hlN := nusV_length (l := l)
  have hlg := fun m => llight_c a m
  rw [decide_eq_true hL] at hlg
  have hsn := fun m => lsane_d n d m
  rw [decide_eq_true hsa] at hsn
  have hcp := fun m => lcopied_l a hL m
  have hrc := fun m => rcheckaction_c a hlt m
  rw [hac] at hrc
  have hnm := fun m => lnamed_c a l (by omega) hlB m
  have htx : k = 1 → ∀ m, Gives Tryz.prog 26 [.lst (txV A), .lst (txV (hapN a l))] m (.bool true) := fun h m => by
    have h2 := btexts_c A (hapN a l) (by omega) m
    rw [decide_eq_true (hA h)] at h2
    exact h2
  have hnt := fun (j : Nat) (hj : j ≤ l.length) m => lnamed_c a (l.take j) (by rw [List.length_take]; omega) (fun i hi => by
    rw [List.length_take] at hi
    have := hlB i (by omega)
    rw [List.getD_eq_getElem?_getD, List.getElem?_take_of_lt (by omega), ← List.getD_eq_getElem?_getD]
    exact this) m
  have hdip : a.dip = a.dip := rfl
  unfold actV at hlg hcp hrc hea haf hen hre hor hro hhp hcd hnm hnt ⊢
  refine Gives_in Tryz.func4 rfl Tryz.ntmps4 Tryz.results4 (by kernel_rfl) (by simp) rfl fun Q hQ => ?_
  refine WA_cutC (σ := Unit) (L := lend m) [_, _, _, _, _, _, _, _, _, _, _, _, _, _] [3, 5, 11, 12, 13, 14] (fun _ => [.ptr 0 0 0, .ptr 1 0 0, .v (.lst (txV A)), .v (.int .i64 g), .v (.lst (txV H)), .v (.int .i64 hc)]) (fun _ => [actT a, .cells .own 30 2 [[.v (.int .i64 n), .v (.int .i64 d)]]]) (fun _ => True) (by decide) (fun _ _ => by simp [TV.okT]) (fun _ _ => by simp [TB.ok, TV.okT, actT]) (fun K1 hK1 => ?_) (fun _ _ B hB => ?_)
  · simp only [WAc]
    (have FX := And.intro hlA (And.intro hlH (And.intro hlD hlN)); repeat' (first | (refine sx ?_ ?_ <;> intro h <;> first | (exfalso; omega) | skip) | (refine g_op ?_; refine g_call ?_; refine g_args ?_; (first | refine s_fn (lawake_c _) ?_ | refine s_fn (hlg _) ?_ | refine s_fn (hsn _) ?_ | refine s_fn (hcp _) ?_ | refine s_fn (hea _) ?_ | refine s_fn (haf _) ?_ | refine s_fn (hor _) ?_ | refine s_fn (hhp _) ?_ | refine s_fn (hrc _) ?_ | refine s_fn (hen _) ?_ | refine s_fn (hre (by omega) _) ?_ | refine s_fn (rwhole_c _ _) ?_ | refine s_fn (hsu (by omega) _) ?_ | refine s_fn (hro _) ?_ | refine s_fn (hnm _) ?_ | refine s_fn (htx (by omega) _) ?_ | refine s_fn (hcd _) ?_ | refine s_fn (lnone_c _ _ _) ?_) <;> try first | omega | assumption) | refine ny ?_ | refine WA_block ?_ | (refine uH17_4_8 ?_; refine ⟨by kernel_rfl, ?_⟩) | (refine uH17_4_19 ?_; refine ⟨by kernel_rfl, ?_⟩) | (refine uH17_4_34 ?_; refine ⟨by kernel_rfl, ?_⟩) | (refine uH17_4_36 ?_; refine ⟨by kernel_rfl, ?_⟩) | ((first | refine grp_cons (fun _ => lawake_c _) ?_ | refine grp_cons (fun _ => hlg _) ?_ | refine grp_cons (fun _ => hsn _) ?_ | refine grp_cons (fun _ => hcp _) ?_ | refine grp_cons (fun _ => hea _) ?_ | refine grp_cons (fun _ => haf _) ?_ | refine grp_cons (fun _ => hor _) ?_ | refine grp_cons (fun _ => hhp _) ?_ | refine grp_cons (fun _ => hrc _) ?_ | refine grp_cons (fun _ => hen _) ?_ | refine grp_cons (fun _ => hre (by omega) _) ?_ | refine grp_cons (fun _ => rwhole_c _ _) ?_ | refine grp_cons (fun _ => hsu (by omega) _) ?_ | refine grp_cons (fun _ => hro _) ?_ | refine grp_cons (fun _ => hnm _) ?_ | refine grp_cons (fun _ => htx (by omega) _) ?_ | refine grp_cons (fun _ => hcd _) ?_ | refine grp_cons (fun _ => lnone_c _ _ _) ?_) <;> try first | omega | assumption) | (refine g_d ?_; refine d_args ?_; (first | refine d_fn (lawake_c _) ?_ | refine d_fn (hlg _) ?_ | refine d_fn (hsn _) ?_ | refine d_fn (hcp _) ?_ | refine d_fn (hea _) ?_ | refine d_fn (haf _) ?_ | refine d_fn (hor _) ?_ | refine d_fn (hhp _) ?_ | refine d_fn (hrc _) ?_ | refine d_fn (hen _) ?_ | refine d_fn (hre (by omega) _) ?_ | refine d_fn (rwhole_c _ _) ?_ | refine d_fn (hsu (by omega) _) ?_ | refine d_fn (hro _) ?_ | refine d_fn (hnm _) ?_ | refine d_fn (htx (by omega) _) ?_ | refine d_fn (hcd _) ?_ | refine d_fn (lnone_c _ _ _) ?_ | refine d_fnQ (fun _ => lawake_c _) ?_ | refine d_fnQ (fun _ => hlg _) ?_ | refine d_fnQ (fun _ => hsn _) ?_ | refine d_fnQ (fun _ => hcp _) ?_ | refine d_fnQ (fun _ => hea _) ?_ | refine d_fnQ (fun _ => haf _) ?_ | refine d_fnQ (fun _ => hor _) ?_ | refine d_fnQ (fun _ => hhp _) ?_ | refine d_fnQ (fun _ => hrc _) ?_ | refine d_fnQ (fun _ => hen _) ?_ | refine d_fnQ (fun _ => hre (by omega) _) ?_ | refine d_fnQ (fun _ => rwhole_c _ _) ?_ | refine d_fnQ (fun _ => hsu (by omega) _) ?_ | refine d_fnQ (fun _ => hro _) ?_ | refine d_fnQ (fun _ => hnm _) ?_ | refine d_fnQ (fun _ => htx (by omega) _) ?_ | refine d_fnQ (fun _ => hcd _) ?_ | refine d_fnQ (fun _ => lnone_c _ _ _) ?_) <;> try first | omega | assumption) | (refine g_d ?_; (first | refine d_fnY (lawake_c _) ?_ | refine d_fnY (hlg _) ?_ | refine d_fnY (hsn _) ?_ | refine d_fnY (hcp _) ?_ | refine d_fnY (hea _) ?_ | refine d_fnY (haf _) ?_ | refine d_fnY (hor _) ?_ | refine d_fnY (hhp _) ?_ | refine d_fnY (hrc _) ?_ | refine d_fnY (hen _) ?_ | refine d_fnY (hre (by omega) _) ?_ | refine d_fnY (rwhole_c _ _) ?_ | refine d_fnY (hsu (by omega) _) ?_ | refine d_fnY (hro _) ?_ | refine d_fnY (hnm _) ?_ | refine d_fnY (htx (by omega) _) ?_ | refine d_fnY (hcd _) ?_ | refine d_fnY (lnone_c _ _ _) ?_) <;> try first | omega | assumption)))
    all_goals (try (exfalso; omega))
    all_goals ((refine nextU_ hK1 (()) [0, 1] (trivial) (trivial) ?_ (ht := ?_); (focus (simp only [actT, List.map_cons, List.map_nil, TB.inst, TV.inst, tv_map, List.cons_append, List.nil_append]; first | rfl | (simp [ptsV, ptV]; done) | (simp [hpsV, hpV]; done) | (simp [frsV, frV]; done) | (simp [txV]; done) | (simp [prtsV, prtV]; done))); (simp only [List.length_cons, List.map_cons, List.map_nil, TV.inst, List.getD_cons_zero, List.getD_cons_succ]; exact tv_)))
  · obtain ⟨D, hB⟩ := hB
    simp only [actT]
    simp only [List.map_cons, List.map_nil, TB.inst, TV.inst, tv_map, zipT, List.cons_append, List.nil_append, Nat.add_zero]
    (have FX := And.intro hlA (And.intro hlH (And.intro hlD hlN)); repeat' (first | (refine sx ?_ ?_ <;> intro h <;> first | (exfalso; omega) | skip) | (refine g_op ?_; refine g_call ?_; refine g_args ?_; (first | refine s_fn (lawake_c _) ?_ | refine s_fn (hlg _) ?_ | refine s_fn (hsn _) ?_ | refine s_fn (hcp _) ?_ | refine s_fn (hea _) ?_ | refine s_fn (haf _) ?_ | refine s_fn (hor _) ?_ | refine s_fn (hhp _) ?_ | refine s_fn (hrc _) ?_ | refine s_fn (hen _) ?_ | refine s_fn (hre (by omega) _) ?_ | refine s_fn (rwhole_c _ _) ?_ | refine s_fn (hsu (by omega) _) ?_ | refine s_fn (hro _) ?_ | refine s_fn (hnm _) ?_ | refine s_fn (htx (by omega) _) ?_ | refine s_fn (hcd _) ?_ | refine s_fn (lnone_c _ _ _) ?_) <;> try first | omega | assumption) | refine ny ?_ | refine WA_block ?_ | (refine uH17_4_8 ?_; refine ⟨by kernel_rfl, ?_⟩) | (refine uH17_4_19 ?_; refine ⟨by kernel_rfl, ?_⟩) | (refine uH17_4_34 ?_; refine ⟨by kernel_rfl, ?_⟩) | (refine uH17_4_36 ?_; refine ⟨by kernel_rfl, ?_⟩) | ((first | refine grp_cons (fun _ => lawake_c _) ?_ | refine grp_cons (fun _ => hlg _) ?_ | refine grp_cons (fun _ => hsn _) ?_ | refine grp_cons (fun _ => hcp _) ?_ | refine grp_cons (fun _ => hea _) ?_ | refine grp_cons (fun _ => haf _) ?_ | refine grp_cons (fun _ => hor _) ?_ | refine grp_cons (fun _ => hhp _) ?_ | refine grp_cons (fun _ => hrc _) ?_ | refine grp_cons (fun _ => hen _) ?_ | refine grp_cons (fun _ => hre (by omega) _) ?_ | refine grp_cons (fun _ => rwhole_c _ _) ?_ | refine grp_cons (fun _ => hsu (by omega) _) ?_ | refine grp_cons (fun _ => hro _) ?_ | refine grp_cons (fun _ => hnm _) ?_ | refine grp_cons (fun _ => htx (by omega) _) ?_ | refine grp_cons (fun _ => hcd _) ?_ | refine grp_cons (fun _ => lnone_c _ _ _) ?_) <;> try first | omega | assumption) | (refine g_d ?_; refine d_args ?_; (first | refine d_fn (lawake_c _) ?_ | refine d_fn (hlg _) ?_ | refine d_fn (hsn _) ?_ | refine d_fn (hcp _) ?_ | refine d_fn (hea _) ?_ | refine d_fn (haf _) ?_ | refine d_fn (hor _) ?_ | refine d_fn (hhp _) ?_ | refine d_fn (hrc _) ?_ | refine d_fn (hen _) ?_ | refine d_fn (hre (by omega) _) ?_ | refine d_fn (rwhole_c _ _) ?_ | refine d_fn (hsu (by omega) _) ?_ | refine d_fn (hro _) ?_ | refine d_fn (hnm _) ?_ | refine d_fn (htx (by omega) _) ?_ | refine d_fn (hcd _) ?_ | refine d_fn (lnone_c _ _ _) ?_ | refine d_fnQ (fun _ => lawake_c _) ?_ | refine d_fnQ (fun _ => hlg _) ?_ | refine d_fnQ (fun _ => hsn _) ?_ | refine d_fnQ (fun _ => hcp _) ?_ | refine d_fnQ (fun _ => hea _) ?_ | refine d_fnQ (fun _ => haf _) ?_ | refine d_fnQ (fun _ => hor _) ?_ | refine d_fnQ (fun _ => hhp _) ?_ | refine d_fnQ (fun _ => hrc _) ?_ | refine d_fnQ (fun _ => hen _) ?_ | refine d_fnQ (fun _ => hre (by omega) _) ?_ | refine d_fnQ (fun _ => rwhole_c _ _) ?_ | refine d_fnQ (fun _ => hsu (by omega) _) ?_ | refine d_fnQ (fun _ => hro _) ?_ | refine d_fnQ (fun _ => hnm _) ?_ | refine d_fnQ (fun _ => htx (by omega) _) ?_ | refine d_fnQ (fun _ => hcd _) ?_ | refine d_fnQ (fun _ => lnone_c _ _ _) ?_) <;> try first | omega | assumption) | (refine g_d ?_; (first | refine d_fnY (lawake_c _) ?_ | refine d_fnY (hlg _) ?_ | refine d_fnY (hsn _) ?_ | refine d_fnY (hcp _) ?_ | refine d_fnY (hea _) ?_ | refine d_fnY (haf _) ?_ | refine d_fnY (hor _) ?_ | refine d_fnY (hhp _) ?_ | refine d_fnY (hrc _) ?_ | refine d_fnY (hen _) ?_ | refine d_fnY (hre (by omega) _) ?_ | refine d_fnY (rwhole_c _ _) ?_ | refine d_fnY (hsu (by omega) _) ?_ | refine d_fnY (hro _) ?_ | refine d_fnY (hnm _) ?_ | refine d_fnY (htx (by omega) _) ?_ | refine d_fnY (hcd _) ?_ | refine d_fnY (lnone_c _ _ _) ?_) <;> try first | omega | assumption)))
    all_goals (try (exfalso; omega))
    all_goals try ((refine r_es hQ ?_; try with_reducible rfl); done)
    have hk1 : k = 1 := by omega
    have hdc : dc = 0 := by omega
    obtain ⟨q, rfl, rfl, hqs, hkn⟩ := hdq hdc
    have hHe := hH hdc hk1
    have hhc := F4.2.2 hdc hk1
    clear hea haf hen hre hsu hor hro hhp hcd hdq hA hH hlg hsn hcp hrc hnm htx F1 F2 F3 F4 FX
    refine WA_while (σ := Nat) [3, 5, 13, 14, 22, 23, 25] (fun i => [.ptr B.length 0 0, .ptr (B.length + 1) 0 0, .lst (txV H), .int .i64 hc, .lst (nusV l), .lst (dpsV l), .int .i64 i]) (fun _ => B ++ [.cells .own 26 4 [[.int .i64 a.dip, .lst (prtsV a.parts), .lst (evsV a.evs), .lst (ldsV a.leads)]], .cells .own 30 2 [[.int .i64 q.num, .int .i64 (q.den : Int)]]]) (fun i => i ≤ l.length ∧ ∀ j, j < i → (l.getD j hp0).2 ≤ q) (fun i => l.length - i) 0 ⟨Nat.zero_le _, fun j h => absurd h (Nat.not_lt_zero _)⟩ tv_ rfl ?_
    rintro i ⟨hi1, hi2⟩ L hL
    simp only [zipT]
    have hti : ((i : Int) - ((0 : Nat) : Int)).toNat = i := by omega
    have hsl : (nusV l).take i = nusV (l.take i) := by simp [nusV, List.map_take]
    have hal := fun n h => nusV_all (l := l) (n := n) h
    have hnt2 := fun m => hnt i hi1 m
    rcases Nat.lt_or_ge i l.length with hi | hi
    · have hga := dpsV_get hi
      have hsp : sm (l.getD i hp0).2 := hls _ (by rw [List.getD_eq_getElem?_getD, List.getElem?_eq_getElem hi]; exact List.getElem_mem hi)
      have hcm := fun m => bcmp_c (l.getD i hp0).2 q hsp hqs m
      have hcl := cmpQ_le (p := (l.getD i hp0).2) (q := q)
      by_cases hle : (l.getD i hp0).2 ≤ q
      · have hc0 := hcl.2 hle
        have hsu : ∀ j, j < i + 1 → (l.getD j hp0).2 ≤ q := fun j hj => by
          rcases Nat.lt_or_ge j i with g | g
          · exact hi2 j g
          · obtain rfl : j = i := by omega
            exact hle
        have hth := hlH
        generalize (l.getD i hp0).2 = p at *
        generalize cmpQ p q = cc at *
        (have FX := And.intro hlH (And.intro hlD (And.intro hlN (And.intro hga (And.intro hti (And.intro hsl hal))))); repeat' (first | (refine sx ?_ ?_ <;> intro h <;> first | (exfalso; omega) | skip) | (refine g_op ?_; refine g_call ?_; refine g_args ?_; (first | refine s_fn (hcm _) ?_ | refine s_fn (hnt2 _) ?_ | refine s_fn (hth _) ?_) <;> try first | omega | assumption) | refine ny ?_ | refine WA_block ?_ | (refine uH17_4_8 ?_; refine ⟨by kernel_rfl, ?_⟩) | (refine uH17_4_19 ?_; refine ⟨by kernel_rfl, ?_⟩) | (refine uH17_4_34 ?_; refine ⟨by kernel_rfl, ?_⟩) | (refine uH17_4_36 ?_; refine ⟨by kernel_rfl, ?_⟩) | ((first | refine grp_cons (fun _ => hcm _) ?_ | refine grp_cons (fun _ => hnt2 _) ?_ | refine grp_cons (fun _ => hth _) ?_) <;> try first | omega | assumption) | (refine g_d ?_; refine d_args ?_; (first | refine d_fn (hcm _) ?_ | refine d_fn (hnt2 _) ?_ | refine d_fn (hth _) ?_ | refine d_fnQ (fun _ => hcm _) ?_ | refine d_fnQ (fun _ => hnt2 _) ?_ | refine d_fnQ (fun _ => hth _) ?_) <;> try first | omega | assumption) | (refine g_d ?_; (first | refine d_fnY (hcm _) ?_ | refine d_fnY (hnt2 _) ?_ | refine d_fnY (hth _) ?_) <;> try first | omega | assumption)))
        all_goals (try (exfalso; omega))
        all_goals (refine next_ hL (i + 1) ⟨hi, hsu⟩ (by omega))
      · have hc0 : ¬ cmpQ (l.getD i hp0).2 q ≤ 0 := fun h => hle (hcl.1 h)
        have hin := insHN_at' hi1 hi2 (.inr hle)
        have hth := fun m => btexts_c H (hapN a (l.take i)) (by omega) m
        rw [decide_eq_true (by rw [hHe, hkn, hin])] at hth
        generalize (l.getD i hp0).2 = p at *
        generalize cmpQ p q = cc at *
        (have FX := And.intro hlH (And.intro hlD (And.intro hlN (And.intro hga (And.intro hti (And.intro hsl hal))))); repeat' (first | (refine sx ?_ ?_ <;> intro h <;> first | (exfalso; omega) | skip) | (refine g_op ?_; refine g_call ?_; refine g_args ?_; (first | refine s_fn (hcm _) ?_ | refine s_fn (hnt2 _) ?_ | refine s_fn (hth _) ?_) <;> try first | omega | assumption) | refine ny ?_ | refine WA_block ?_ | (refine uH17_4_8 ?_; refine ⟨by kernel_rfl, ?_⟩) | (refine uH17_4_19 ?_; refine ⟨by kernel_rfl, ?_⟩) | (refine uH17_4_34 ?_; refine ⟨by kernel_rfl, ?_⟩) | (refine uH17_4_36 ?_; refine ⟨by kernel_rfl, ?_⟩) | ((first | refine grp_cons (fun _ => hcm _) ?_ | refine grp_cons (fun _ => hnt2 _) ?_ | refine grp_cons (fun _ => hth _) ?_) <;> try first | omega | assumption) | (refine g_d ?_; refine d_args ?_; (first | refine d_fn (hcm _) ?_ | refine d_fn (hnt2 _) ?_ | refine d_fn (hth _) ?_ | refine d_fnQ (fun _ => hcm _) ?_ | refine d_fnQ (fun _ => hnt2 _) ?_ | refine d_fnQ (fun _ => hth _) ?_) <;> try first | omega | assumption) | (refine g_d ?_; (first | refine d_fnY (hcm _) ?_ | refine d_fnY (hnt2 _) ?_ | refine d_fnY (hth _) ?_) <;> try first | omega | assumption)))
        all_goals (try (exfalso; omega))
        all_goals (refine r_es hQ ?_; try with_reducible rfl)
    · obtain rfl : i = l.length := by omega
      have hin := insHN_at' hi1 hi2 (.inl rfl)
      have hga := hlD
      have hcm := hlD
      have hth := fun m => btexts_c H (hapN a (l.take l.length)) (by omega) m
      rw [decide_eq_true (by rw [hHe, hkn, hin])] at hth
      (have FX := And.intro hlH (And.intro hlD (And.intro hlN (And.intro hga (And.intro hti (And.intro hsl hal))))); repeat' (first | (refine sx ?_ ?_ <;> intro h <;> first | (exfalso; omega) | skip) | (refine g_op ?_; refine g_call ?_; refine g_args ?_; (first | refine s_fn (hcm _) ?_ | refine s_fn (hnt2 _) ?_ | refine s_fn (hth _) ?_) <;> try first | omega | assumption) | refine ny ?_ | refine WA_block ?_ | (refine uH17_4_8 ?_; refine ⟨by kernel_rfl, ?_⟩) | (refine uH17_4_19 ?_; refine ⟨by kernel_rfl, ?_⟩) | (refine uH17_4_34 ?_; refine ⟨by kernel_rfl, ?_⟩) | (refine uH17_4_36 ?_; refine ⟨by kernel_rfl, ?_⟩) | ((first | refine grp_cons (fun _ => hcm _) ?_ | refine grp_cons (fun _ => hnt2 _) ?_ | refine grp_cons (fun _ => hth _) ?_) <;> try first | omega | assumption) | (refine g_d ?_; refine d_args ?_; (first | refine d_fn (hcm _) ?_ | refine d_fn (hnt2 _) ?_ | refine d_fn (hth _) ?_ | refine d_fnQ (fun _ => hcm _) ?_ | refine d_fnQ (fun _ => hnt2 _) ?_ | refine d_fnQ (fun _ => hth _) ?_) <;> try first | omega | assumption) | (refine g_d ?_; (first | refine d_fnY (hcm _) ?_ | refine d_fnY (hnt2 _) ?_ | refine d_fnY (hth _) ?_) <;> try first | omega | assumption)))
      all_goals (try (exfalso; omega))
      all_goals (refine r_es hQ ?_; try with_reducible rfl)
end Go.Proofs.YtbcjcbcakcdnfaaGreat
