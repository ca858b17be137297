/- contract: whether an action with more leads is accepted, of the reference -/
import Derived.Test.YtihbeoplchiikaaGreatDoorC61
import Derived.Test.YtihbeoplchiikaaGreatDoorGJ
import Derived.Test.YtihbeoplchiikaaGreatDoorC44
import Derived.Test.YtihbeoplchiikaaGreatDoorYN
set_option linter.unusedSimpArgs false
set_option linter.unusedVariables false
namespace Go.Proofs.YtihbeoplchiikaaGreatDoor
open Go.RowKit
attribute [local irreducible] WA WOs WDs WAn qThen qBlock tput
set_option maxHeartbeats 1000000
set_option maxRecDepth 20000
set_option linter.unusedSimpArgs false
set_option linter.unusedVariables false
set_option maxHeartbeats 4000000
attribute [local irreducible] smB cut sm
theorem uC62_92_1 {N : Nat} {l : List Oper} {t : List (Nat × V)} {m : Mem} {Q : Exit → List (Nat × V) → Mem → Prop} (h : RgN Tryz.prog N l t m Q (fun i => if i == 1 || i == 3 || i == 4 || i == 5 || i == 9 || i == 11 || i == 12 || i == 13 then .q else .p) [.one 0, .one 1, .one 2, .one 3, .one 4, .one 5, .one 6, .one 7, .one 8, .one 9, .one 10, .one 11, .one 12, .one 13, .one 14, .one 15, .one 16]) : WA Tryz.prog N (.region 1 l.toArray true) t m Q := d_rgN h
theorem rinwin_c (p q : Rat) (dn up : Int) (hp : sm p) (hq : sm q) (hw : winErr dn up = 0) (m : Mem) : Gives Tryz.prog 92 [.agg [.int .i64 p.num, .int .i64 (p.den : Int), .int .i64 q.num, .int .i64 (q.den : Int)], .agg [.int .i64 dn, .int .i64 up]] m (.bool (decide (¬ ((dn : Rat) < p ∨ q < (up : Rat))))) := by
  obtain ⟨w1, w2⟩ := win_ok hw
  have h1 : ∀ m, Gives Tryz.prog 105 [.agg [.int .i64 (Rat.num (p)), .int .i64 ((Rat.den (p) : Nat) : Int)], .agg [.int .i64 dn, .int .i64 1]] m (.int .i64 (cmpQ p (dn : Rat))) := fun m => bcmp_c p (dn : Rat) hp w1 m
  have h2 : ∀ m, Gives Tryz.prog 105 [.agg [.int .i64 (Rat.num (q)), .int .i64 ((Rat.den (q) : Nat) : Int)], .agg [.int .i64 up, .int .i64 1]] m (.int .i64 (cmpQ q (up : Rat))) := fun m => bcmp_c q (up : Rat) hq w2 m
  have c1 := cmpQ_gt (p := p) (q := (dn : Rat))
  have c2 := cmpQ_lt (p := q) (q := (up : Rat))
  have hx0 := hw
  refine Gives_in Tryz.func92 rfl Tryz.ntmps92 Tryz.results92 (by kernel_rfl) (by simp) rfl fun Q hQ => ?_
  (have FX := hx0; repeat' (first | (refine sx ?_ ?_ <;> intro h <;> first | (exfalso; omega) | skip) | (refine g_op ?_; refine g_call ?_; refine g_args ?_; (first | refine s_fn (rwhole_c _ _) ?_ | refine s_fn (h1 _) ?_ | refine s_fn (h2 _) ?_) <;> try first | omega | assumption) | refine ny ?_ | refine WA_block ?_ | (refine uC62_92_1 ?_; refine ⟨by kernel_rfl, ?_⟩) | ((first | refine grp_cons (fun _ => rwhole_c _ _) ?_ | refine grp_cons (fun _ => h1 _) ?_ | refine grp_cons (fun _ => h2 _) ?_) <;> try first | omega | assumption) | (refine g_d ?_; refine d_args ?_; (first | refine d_fn (rwhole_c _ _) ?_ | refine d_fn (h1 _) ?_ | refine d_fn (h2 _) ?_ | refine d_fnQ (fun _ => rwhole_c _ _) ?_ | refine d_fnQ (fun _ => h1 _) ?_ | refine d_fnQ (fun _ => h2 _) ?_) <;> try first | omega | assumption) | (refine g_d ?_; (first | refine d_fnY (rwhole_c _ _) ?_ | refine d_fnY (h1 _) ?_ | refine d_fnY (h2 _) ?_) <;> try first | omega | assumption)))
  all_goals (try (exfalso; omega))
  all_goals ((refine r_es hQ ?_; try with_reducible rfl))
  all_goals (exact congrArg V.bool (by first | exact (decide_eq_true (by grind)).symm | exact (decide_eq_false (by grind)).symm | exact decide_eq_decide.2 (by grind)))
/-- the action with some holes' leads -/
def pick (holes : List (Int × Int)) (set : List Nat) : List (Int × Int) := set.map fun i => holes.getD i l0
def addL (a : ActR) (holes : List (Int × Int)) (set : List Nat) : ActR := { a with leads := a.leads ++ pick holes set }
def accB (a : ActR) (holes : List (Int × Int)) (dn up : Int) (set : List Nat) : Bool := decide (a.leads.length + set.length ≤ 8) && decide (fitE (addL a holes set) dn up 0 = 0)
theorem pick_len {holes : List (Int × Int)} {set : List Nat} : (pick holes set).length = set.length := by simp [pick]
theorem pick_take {holes : List (Int × Int)} {set : List Nat} {i : Nat} (h : i < set.length) : pick holes (set.take (i + 1)) = pick holes (set.take i) ++ [holes.getD (set.getD i 0) l0] := by
  unfold pick
  rw [List.take_succ_eq_append_getElem h, List.map_append]
  have : set.getD i 0 = set[i] := by rw [List.getD_eq_getElem?_getD, List.getElem?_eq_getElem h]; rfl
  rw [this]
  rfl
theorem add_lt {a : ActR} (h : Lt a) {holes : List (Int × Int)} {set : List Nat} (h8 : a.leads.length + set.length ≤ 8) : Lt (addL a holes set) := ⟨h.np, h.ne, by simp [addL, pick]; omega, h.pn, h.en⟩
theorem lds_add {l p : List (Int × Int)} (h : ldsErr l = 0) (h8 : l.length + p.length ≤ 8) (hp : ∀ x ∈ p, ldErr x = 0) : ldsErr (l ++ p) = 0 := by
  unfold ldsErr at h ⊢
  rw [if_neg (by omega)] at h
  rw [if_neg (by rw [List.length_append]; omega)]
  refine firstE_zero.2 fun i hi => ?_
  unfold ldErrAt
  rw [List.length_append] at hi
  rcases Nat.lt_or_ge i l.length with q | q
  · rw [List.getD_eq_getElem?_getD, List.getElem?_append_left q, ← List.getD_eq_getElem?_getD]
    exact firstE_zero.1 h i q
  · rw [List.getD_eq_getElem?_getD, List.getElem?_append_right q, List.getElem?_eq_getElem (by omega)]
    exact hp _ (List.getElem_mem _)
theorem ac_leads {a : ActR} (h : acErr a = 0) : ldsErr a.leads = 0 := by
  unfold acErr at h
  repeat' split at h
  all_goals first | exact h | exact absurd h (by assumption) | exact absurd h (by decide)
theorem add_err {a : ActR} (h : acErr a = 0) {holes : List (Int × Int)} {set : List Nat} (hh : ldsErr holes = 0) (hs : ∀ i ∈ set, i < holes.length) (h8 : a.leads.length + set.length ≤ 8) : acErr (addL a holes set) = 0 := by
  have hl := ac_leads h
  have h1 : ldsErr (addL a holes set).leads = 0 := by
    refine lds_add hl (by rw [pick_len]; exact h8) fun x hx => ?_
    obtain ⟨i, hi, rfl⟩ := List.mem_map.1 hx
    unfold ldsErr at hh
    split at hh
    · exact absurd hh (by decide)
    · exact firstE_zero.1 hh i (hs i hi)
  unfold acErr at h ⊢
  have e : evErrAt (addL a holes set) = evErrAt a := rfl
  have e1 : (addL a holes set).dip = a.dip := rfl
  have e2 : (addL a holes set).parts = a.parts := rfl
  have e3 : (addL a holes set).evs = a.evs := rfl
  rw [e, e1, e2, e3, h1]
  rw [hl] at h
  exact h
/-- what the weights tell of an action -/
theorem wt_cases (b : ActR) (hb : Lt b) (h : acErr b = 0) (dn up : Int) (hw : winErr dn up = 0) : ∃ (x1 x2 x3 x4 : Int) (o : Bool), (∀ m, Gives Tryz.prog 37 [.agg (actV b), .agg [.int .i64 0, .int .i64 1]] m (.tup [.agg [.int .i64 x1, .int .i64 x2, .int .i64 x3, .int .i64 x4], .bool o])) ∧ o = (touP b 0).isSome ∧ ((o = false ∧ fitE b dn up 0 ≠ 0) ∨ (o = true ∧ ∀ m, Gives Tryz.prog 92 [.agg [.int .i64 x1, .int .i64 x2, .int .i64 x3, .int .i64 x4], .agg [.int .i64 dn, .int .i64 up]] m (.bool (decide (fitE b dn up 0 = 0))))) := by
  have hrw := fun m => rweights_c b hb h 0 sm_zero m
  have hz1 : (0 : Rat).num = 0 := rfl
  have hz2 : ((0 : Rat).den : Int) = 1 := rfl
  rw [hz1, hz2] at hrw
  obtain ⟨t1, t2⟩ := touP_eq b 0
  have hbs := balRA_sm (a := b) (x := 0)
  unfold wtsR at t1 t2
  unfold wtV at hrw
  have hfe : fitE b dn up 0 = match touP b 0 with | none => 8 | some (p, q) => if (dn : Rat) < p ∨ q < (up : Rat) then 26 else 0 := rfl
  generalize fitE b dn up 0 = fe at *
  unfold frcRA at t1 t2 hrw
  generalize balRA b 0 = B at *
  generalize frcR b 0 b.parts.length = F at *
  obtain ⟨p, bb⟩ := B
  obtain ⟨q, fb⟩ := F
  dsimp only at *
  by_cases hok : (bb = true ∧ fb = true) ∧ sm (p + q) ∧ sm (p - q)
  · obtain ⟨⟨rfl, rfl⟩, g1, g2⟩ := hok
    rw [if_pos ⟨rfl, rfl⟩] at hrw
    rw [smB_of g1, smB_of g2] at hrw t1
    have ht := t1 (p + q, p - q) (by rw [if_pos ⟨rfl, rfl⟩]; rfl)
    rw [ht] at hfe ⊢
    dsimp only at hfe
    refine ⟨_, _, _, _, true, hrw, rfl, .inr ⟨rfl, fun m => ?_⟩⟩
    have hi := rinwin_c _ _ dn up g1 g2 hw m
    by_cases h3 : (dn : Rat) < p + q ∨ p - q < (up : Rat)
    · rw [decide_eq_false (fun h4 => h4 h3)] at hi
      rw [if_pos h3] at hfe
      rw [decide_eq_false (show ¬ fe = 0 by omega)]
      exact hi
    · rw [decide_eq_true h3] at hi
      rw [if_neg h3] at hfe
      rw [decide_eq_true hfe]
      exact hi
  · have hnb : bb = true ∧ fb = true → (smB (p + q) && smB (p - q)) = false := fun hg => by
      cases h1 : smB (p + q) with
      | false => rfl
      | true =>
        cases h2 : smB (p - q) with
        | false => rfl
        | true => exact absurd ⟨hg, smB_iff.1 h1, smB_iff.1 h2⟩ hok
    have ht : touP b 0 = none := by
      refine t2 ?_
      by_cases hg : bb = true ∧ fb = true
      · rw [if_pos hg, hnb hg]
        exact .inr ⟨_, rfl⟩
      · rw [if_neg hg]; exact .inl rfl
    rw [ht] at hfe ⊢
    dsimp only at hfe
    by_cases hg : bb = true ∧ fb = true
    · rw [if_pos hg, hnb hg] at hrw
      exact ⟨_, _, _, _, false, hrw, rfl, .inl ⟨rfl, by omega⟩⟩
    · rw [if_neg hg] at hrw
      exact ⟨_, _, _, _, false, hrw, rfl, .inl ⟨rfl, by omega⟩⟩
def acE (a : ActR) (dn up : Int) (l : List (Int × Int)) : List TB := [.cells .own 28 2 [[.v (.int .i64 dn), .v (.int .i64 up)]], .cells .own 26 4 [[.v (.int .i64 a.dip), .v (.lst (prtsV a.parts)), .v (.lst (evsV a.evs)), .sl 2 l.length]], .cells .own 72 2 ((ldsV l).map (List.map TV.v))]
def acS (holes : List (Int × Int)) (set : List Nat) (i : Nat) : List TV := [.v (.lst (ldsV holes)), .v (.lst (nlV set)), .ptr 0 0 0, .ptr 1 0 0, .v (.int .i64 i)]
theorem acE_ok {a : ActR} {dn up : Int} {l : List (Int × Int)} : (acE a dn up l).all (TB.ok (acE a dn up l).length) = true := by
  unfold acE
  simp only [List.all_cons, TB.ok, TV.okT, List.all_nil, Bool.and_true, Bool.and_self, tv_ok, List.length_cons, List.length_nil]
  decide
theorem acS_ok {a : ActR} {dn up : Int} {l : List (Int × Int)} {holes : List (Int × Int)} {set : List Nat} {i : Nat} : (acS holes set i).all (TV.okT (acE a dn up l).length) = true := by
  unfold acE acS
  simp [TV.okT]
theorem ldsV_snoc (l : List (Int × Int)) (x y : Int) : ldsV (l ++ [(x, y)]) = ldsV l ++ [[V.int .i64 x, V.int .i64 y]] := by simp [ldsV, ldV]
theorem uC62_66_6 {N : Nat} {l : List Oper} {t : List (Nat × V)} {m : Mem} {Q : Exit → List (Nat × V) → Mem → Prop} (h : RgN Tryz.prog N l t m Q (fun i => if i == 10 || i == 12 then .w else if i == 9 then .a else if i == 1 || i == 6 || i == 8 then .q else .p) [.one 0, .one 1, .one 2, .one 3, .one 4, .one 5, .one 6, .one 7, .one 8, .one 9, .one 10, .one 11, .one 12]) : WA Tryz.prog N (.region 6 l.toArray true) t m Q := d_rgN h
theorem uC62_66_9 {N : Nat} {l : List Oper} {t : List (Nat × V)} {m : Mem} {Q : Exit → List (Nat × V) → Mem → Prop} (h : RgN Tryz.prog N l t m Q (fun i => if i == 7 then .f else if i == 6 then .a else if i == 0 || i == 1 || i == 2 then .q else .p) [.one 0, .one 1, .one 2, .one 3, .one 4, .one 5, .one 6, .one 7, .one 8]) : WA Tryz.prog N (.region 9 l.toArray true) t m Q := d_rgN h
theorem raccepted_c (a : ActR) (ha : Lt a) (h : acErr a = 0) (holes : List (Int × Int)) (hh : ldsErr holes = 0) (set : List Nat) (hs : ∀ i ∈ set, i < holes.length) (hsl : set.length ≤ 100) (dn up : Int) (hw : winErr dn up = 0) (m : Mem) : Gives Tryz.prog 66 [.agg (actV a), .lst (ldsV holes), .lst (nlV set), .agg [.int .i64 dn, .int .i64 up]] m (.bool (accB a holes dn up set)) := by
  have hla := nlV_length (l := set)
  have hll := ldsV_length (l := a.leads)
  have hnl := ha.nl
  have hg1 := hla
  have hg2 := hla
  have hlt : (ldsV a.leads).take a.leads.length = ldsV a.leads := List.take_of_length_le (by rw [hll]; exact Nat.le_refl _)
  have hhl := ldsV_length (l := holes)
  have hal : ∀ n, n = 2 → (ldsV a.leads).all (fun e => e.length == n) = true := fun n h => ldsV_l2 h
  unfold actV
  refine Gives_in Tryz.func66 rfl Tryz.ntmps66 Tryz.results66 (by kernel_rfl) (by simp) rfl fun Q hQ => ?_
  (have FX := And.intro hla (And.intro hll (And.intro hg1 (And.intro hg2 (And.intro hlt hal)))); repeat' (first | (refine sx ?_ ?_ <;> intro h <;> first | (exfalso; omega) | skip) | (refine g_op ?_; refine g_call ?_; refine g_args ?_; (first | refine s_fn (rwhole_c _ _) ?_ | refine s_fn (hrw _) ?_ | refine s_fn (hiw _) ?_) <;> try first | omega | assumption) | refine ny ?_ | refine WA_block ?_ | (refine uC62_66_6 ?_; refine ⟨by kernel_rfl, ?_⟩) | (refine uC62_66_9 ?_; refine ⟨by kernel_rfl, ?_⟩) | ((first | refine grp_cons (fun _ => rwhole_c _ _) ?_ | refine grp_cons (fun _ => hrw _) ?_ | refine grp_cons (fun _ => hiw _) ?_) <;> try first | omega | assumption) | (refine g_d ?_; refine d_args ?_; (first | refine d_fn (rwhole_c _ _) ?_ | refine d_fn (hrw _) ?_ | refine d_fn (hiw _) ?_ | refine d_fnQ (fun _ => rwhole_c _ _) ?_ | refine d_fnQ (fun _ => hrw _) ?_ | refine d_fnQ (fun _ => hiw _) ?_) <;> try first | omega | assumption) | (refine g_d ?_; (first | refine d_fnY (rwhole_c _ _) ?_ | refine d_fnY (hrw _) ?_ | refine d_fnY (hiw _) ?_) <;> try first | omega | assumption)))
  all_goals (try (exfalso; omega))
  refine WA_ren (L := lend m) (ks := [1, 2, 7, 9, 10]) (vs := acS holes set 0) (Ts := acE a dn up a.leads) (js := [1, 2, 4]) ⟨_, rfl, ?_, ?_, by decide⟩ (by decide) acS_ok acE_ok ?_
  · simp only [acS, List.map_cons, List.map_nil, TV.inst, List.getD_cons_zero, List.getD_cons_succ]
    exact tv_
  · simp only [acE, List.map_cons, List.map_nil, TB.inst, TV.inst, tv_map]
    rfl
  rintro B1 ⟨D1, hB1⟩
  refine WA_whileT (σ := Nat) (L := B1) [1, 2, 7, 9, 10] (fun i => acS holes set i) (fun i => acE a dn up (a.leads ++ pick holes (set.take i))) (fun i => i ≤ set.length) (fun i => set.length - i) 0 (Nat.zero_le _) ?_ ?_ (by decide) (fun _ _ => acS_ok) (fun _ _ => acE_ok) ?_
  · simp only [acS, zipT, List.map_cons, List.map_nil, TV.inst]
    exact tv_
  · simp [pick]
  rintro i hi B ⟨D, hB⟩ K hK
  have hBm : B = lend m ++ (D1 ++ D) := by rw [hB, hB1, List.append_assoc]
  clear FX hg1 hg2 hlt hll
  have hpl : (a.leads ++ pick holes (set.take i)).length = a.leads.length + i := by rw [List.length_append, pick_len, List.length_take]; omega
  have hnx := hK (i + 1)
  rcases Nat.lt_or_ge i set.length with hlti | hge
  · have hg1 := nlV_get hlti
    have hkm : set.getD i 0 < holes.length := by
      rw [List.getD_eq_getElem?_getD, List.getElem?_eq_getElem hlti]
      exact hs _ (List.getElem_mem _)
    have hg2 := ldsV_get hkm
    have hpt : a.leads ++ pick holes (set.take (i + 1)) = (a.leads ++ pick holes (set.take i)) ++ [holes.getD (set.getD i 0) l0] := by
      rw [pick_take hlti, List.append_assoc]
    rw [hpt] at hnx
    have hny := fun (_ : Unit) => hnx
    clear hnx hpt hK
    generalize set.getD i 0 = k at *
    generalize holes.getD k l0 = p at *
    generalize a.leads ++ pick holes (set.take i) = l at *
    obtain ⟨x, y⟩ := p
    unfold ldV at hg2
    dsimp only at hg2
    have hsn := ldsV_snoc l x y
    have hll : (ldsV l).length = a.leads.length + i := by rw [ldsV_length, hpl]
    have hlt : (ldsV l).take (a.leads.length + i) = ldsV l := List.take_of_length_le (by rw [hll]; exact Nat.le_refl _)
    have hhl' := hhl
    simp only [acS, acE, hpl]
    simp only [List.map_cons, List.map_nil, TB.inst, TV.inst, tv_map, zipT, List.cons_append, List.nil_append, Nat.add_zero]
    (have FX := And.intro hla (And.intro hll (And.intro hg1 (And.intro hg2 (And.intro hlt hhl')))); repeat' first | (first | (refine sx ?_ ?_ <;> intro h <;> first | (exfalso; omega) | skip) | refine ny ?_ | refine WA_block ?_ | (refine uC62_66_6 ?_; refine ⟨by kernel_rfl, ?_⟩) | (refine uC62_66_9 ?_; refine ⟨by kernel_rfl, ?_⟩)) | refine d_alt ?_ | refine wg_0 ?_ | refine wg_b ?_ | refine wg_c ?_ ?_ | refine wg_n ?_ | refine wm_cons ?_ ?_ | exact wm_nil | refine wg_op ?_)
    all_goals (try (exfalso; omega))
    all_goals first
      | ((refine nextU_ hny (()) [0, 1, 4] (hlti) (by omega) ?_ (ht := ?_); (focus (simp only [acE, hsn, hpl, List.length_append, List.length_cons, List.length_nil, Nat.zero_add, List.map_cons, List.map_nil, TB.inst, TV.inst, tv_map, List.cons_append, List.nil_append]; first | rfl | (simp [ptsV, ptV]; done) | (simp [hpsV, hpV]; done) | (simp [frsV, frV]; done) | (simp [txV]; done) | (simp [prtsV, prtV]; done))); (simp only [acS, List.length_cons, List.map_cons, List.map_nil, TV.inst, List.getD_cons_zero, List.getD_cons_succ]; exact tv_)))
      | ((refine nextU_ hny (()) [0, 1, 3] (hlti) (by omega) ?_ (ht := ?_); (focus (simp only [acE, hsn, hpl, List.length_append, List.length_cons, List.length_nil, Nat.zero_add, List.map_cons, List.map_nil, TB.inst, TV.inst, tv_map, List.cons_append, List.nil_append]; first | rfl | (simp [ptsV, ptV]; done) | (simp [hpsV, hpV]; done) | (simp [frsV, frV]; done) | (simp [txV]; done) | (simp [prtsV, prtV]; done))); (simp only [acS, List.length_cons, List.map_cons, List.map_nil, TV.inst, List.getD_cons_zero, List.getD_cons_succ]; exact tv_)))
  · obtain rfl : i = set.length := by omega
    clear hnx hK
    rw [List.take_length] at hpl ⊢
    have hadd : (addL a holes set) = { a with leads := a.leads ++ pick holes set } := rfl
    have hpl8 : (ldsV (a.leads ++ pick holes set)).length = a.leads.length + set.length := by rw [ldsV_length, hpl]
    have hlt8 : (ldsV (a.leads ++ pick holes set)).take (a.leads.length + set.length) = ldsV (a.leads ++ pick holes set) := List.take_of_length_le (by rw [hpl8]; exact Nat.le_refl _)
    have hg1 := hla
    have hg2 := hla
    have hll := hpl8
    have hlt := hlt8
    have hhl' := hhl
    have hne : ∀ (a c d : Nat), (a + c = a + d) = (c = d) := fun a c d => by simp
    have hn0 : ∀ (a d : Nat), (a = a + d) = (0 = d) := fun a d => by rw [eq_iff_iff]; omega
    simp only [acS, acE, hpl]
    simp only [List.map_cons, List.map_nil, TB.inst, TV.inst, tv_map, zipT, List.cons_append, List.nil_append, Nat.add_zero]
    refine WA_fzM (j := 2) rfl ?_
    simp (decide := true) only [List.map_cons, List.map_nil, List.map_append, frzV, frzC, List.set_cons_succ, List.set_cons_zero, hne, hn0, Nat.reduceEqDiff, false_and, true_and, if_false, if_true, hpl8, Nat.le_refl, hlt8]
    clear hne hn0
    by_cases h8 : 8 < a.leads.length + set.length
    · have hacc : accB a holes dn up set = false := by
        unfold accB
        rw [decide_eq_false (by omega)]
        rfl
      rw [hacc] at hQ
      (have FX := And.intro hla (And.intro hll (And.intro hg1 (And.intro hg2 (And.intro hlt hhl')))); repeat' (first | (refine sx ?_ ?_ <;> intro h <;> first | (exfalso; omega) | skip) | refine ny ?_ | refine WA_block ?_ | (refine uC62_66_6 ?_; refine ⟨by kernel_rfl, ?_⟩) | (refine uC62_66_9 ?_; refine ⟨by kernel_rfl, ?_⟩)))
      all_goals (try (exfalso; omega))
      all_goals (refine r_es hQ ?_; try with_reducible rfl)
    · obtain ⟨x1, x2, x3, x4, o, hrw, -, hc⟩ := wt_cases (addL a holes set) (add_lt ha (by omega)) (add_err h hh hs (by omega)) dn up hw
      have hacc : accB a holes dn up set = decide (fitE (addL a holes set) dn up 0 = 0) := by
        unfold accB
        rw [decide_eq_true (by omega)]
        rfl
      rw [hacc] at hQ
      generalize fitE (addL a holes set) dn up 0 = fe at *
      unfold actV at hrw
      rw [hadd] at hrw
      dsimp only at hrw
      have hoc : o = true ∨ o = false := by cases o <;> simp
      rcases hc with ⟨rfl, hf⟩ | ⟨rfl, hiw⟩
      · have hiw := hla
        rw [decide_eq_false hf] at hQ
        (have FX := And.intro hla (And.intro hll (And.intro hg1 (And.intro hg2 (And.intro hlt hhl')))); repeat' (first | (refine sx ?_ ?_ <;> intro h <;> first | (exfalso; omega) | skip) | (refine g_op ?_; refine g_call ?_; refine g_args ?_; (first | refine s_fn (rwhole_c _ _) ?_ | refine s_fn (hrw _) ?_ | refine s_fn (hiw _) ?_) <;> try first | omega | assumption) | refine ny ?_ | refine WA_block ?_ | (refine uC62_66_6 ?_; refine ⟨by kernel_rfl, ?_⟩) | (refine uC62_66_9 ?_; refine ⟨by kernel_rfl, ?_⟩) | ((first | refine grp_cons (fun _ => rwhole_c _ _) ?_ | refine grp_cons (fun _ => hrw _) ?_ | refine grp_cons (fun _ => hiw _) ?_) <;> try first | omega | assumption) | (refine g_d ?_; refine d_args ?_; (first | refine d_fn (rwhole_c _ _) ?_ | refine d_fn (hrw _) ?_ | refine d_fn (hiw _) ?_ | refine d_fnQ (fun _ => rwhole_c _ _) ?_ | refine d_fnQ (fun _ => hrw _) ?_ | refine d_fnQ (fun _ => hiw _) ?_) <;> try first | omega | assumption) | (refine g_d ?_; (first | refine d_fnY (rwhole_c _ _) ?_ | refine d_fnY (hrw _) ?_ | refine d_fnY (hiw _) ?_) <;> try first | omega | assumption)))
        all_goals (try (exfalso; omega))
        all_goals (refine r_es hQ ?_; try with_reducible rfl)
      · (have FX := And.intro hla (And.intro hll (And.intro hg1 (And.intro hg2 (And.intro hlt hhl')))); repeat' (first | (refine sx ?_ ?_ <;> intro h <;> first | (exfalso; omega) | skip) | (refine g_op ?_; refine g_call ?_; refine g_args ?_; (first | refine s_fn (rwhole_c _ _) ?_ | refine s_fn (hrw _) ?_ | refine s_fn (hiw _) ?_) <;> try first | omega | assumption) | refine ny ?_ | refine WA_block ?_ | (refine uC62_66_6 ?_; refine ⟨by kernel_rfl, ?_⟩) | (refine uC62_66_9 ?_; refine ⟨by kernel_rfl, ?_⟩) | ((first | refine grp_cons (fun _ => rwhole_c _ _) ?_ | refine grp_cons (fun _ => hrw _) ?_ | refine grp_cons (fun _ => hiw _) ?_) <;> try first | omega | assumption) | (refine g_d ?_; refine d_args ?_; (first | refine d_fn (rwhole_c _ _) ?_ | refine d_fn (hrw _) ?_ | refine d_fn (hiw _) ?_ | refine d_fnQ (fun _ => rwhole_c _ _) ?_ | refine d_fnQ (fun _ => hrw _) ?_ | refine d_fnQ (fun _ => hiw _) ?_) <;> try first | omega | assumption) | (refine g_d ?_; (first | refine d_fnY (rwhole_c _ _) ?_ | refine d_fnY (hrw _) ?_ | refine d_fnY (hiw _) ?_) <;> try first | omega | assumption)))
        all_goals (try (exfalso; omega))
        all_goals (refine r_es hQ ?_; try with_reducible rfl)
        all_goals (exact congrArg V.bool (by first | rfl | (rw [decide_eq_true (by assumption)]; rfl) | (rw [decide_eq_false (by assumption)]; rfl) | exact (decide_eq_true (by assumption)).symm | exact (decide_eq_false (by assumption)).symm | exact (decide_eq_true (by omega)).symm | exact (decide_eq_false (by omega)).symm))
end Go.Proofs.YtihbeoplchiikaaGreatDoor
