/- the law TopLeadsWork, over contracts -/
import Derived.Test.YtihbeoplchiikaaDoorC64
import Derived.Test.YtihbeoplchiikaaDoorGI
import Derived.Test.YtihbeoplchiikaaDoorC60
set_option linter.unusedSimpArgs false
set_option linter.unusedVariables false
namespace Go.Proofs.YtihbeoplchiikaaDoor
open Go.RowKit
section
variable {P : Program} {N : Nat} {ops : Array Oper} {kd : Nat → Kd} {LL : Lim} {is : List El} {t : List (Nat × V)} {m : Mem} {Q : List (Nat × V) → Mem → Prop} {f : Operand} {l : List Operand} {ts : Array TypeId} {ty : TypeId} {pos : String} {af : Array Edge} {vs : List V} {i d : Nat} {g : FuncId}
/-- a call that may change all there is, the last one of a region that draws its order -/
theorem d_fnAw {R : V → Option Mem → Prop} (hc : CallA P g vs m R) (h : ∀ v mo, R v mo → WDs P N ops kd LL is ((d, v) :: t) (mo.getD m) Q) (hk : kd i = .w) : DArgG P N ops kd LL i is t m Q d g vs := by
  intro l ts ty pos af hd hi ha
  subst ha
  unfold WDs
  simp only [hi]
  refine ⟨hd, ?_⟩
  have hf : evO t (.func g) = .clo (.func g) [] [] := rfl
  simp only [hf, hk]
  have hc : CallA P g ([] ++ l.toArray.toList.map (evO t) ++ []) m R := by simpa using hc
  exact hc.mono fun v mo hr => h v mo hr
/-- .. to which a whole slice of the call's own is lent; the slice is read alone from then on -/
theorem d_fzE {B X m' : Mem} {n : Nat} {st : Sta} {ty sz : Nat} {es : List (List V)} {vs' : List V} {v : V} (j p : Nat) (hc : Gives P g vs' m' v) (h : WDs P N ops kd LL is ((d, v) :: t) m' Q) (hn : es.length = n := by first | assumption | fail) (hm : m = B ++ X := by first | exact rfl | fail) (hX : X[j]? = some (.cells st ty sz es) := by first | exact rfl | fail)
    (hp : vs[p]? = some (.sl (B.length + j) n) := by first | exact rfl | fail) (hvs : vs.set p (.lst es) = vs' := by first | exact rfl | fail) (hm' : B ++ X.set j (.cells .ro ty sz es) = m' := by first | exact rfl | fail) (hk : kd i = .w := by first | exact rfl | fail) : DArgG P N ops kd LL i is t m Q d g vs := by
  subst hm; subst hvs; subst hm'; subst hn
  refine d_fnAw (CallA_fz1 hX hp (Nat.le_refl _) (by rw [List.take_length]; exact hc)) ?_ hk
  rintro v mo ⟨mo0, ⟨rfl, rfl⟩, rfl⟩
  exact h
end
/-- the first members of a list of numbers, one left out -/
def sb (l : List Nat) (w : Int) : Nat → List Nat
  | 0 => []
  | i + 1 => if (i : Int) = w then sb l w i else sb l w i ++ [l.getD i 0]
theorem take_nx {l : List Nat} {i : Nat} (h : i < l.length) : l.take (i + 1) = l.take i ++ [l.getD i 0] := by
  rw [List.take_succ_eq_append_getElem h, List.getD_eq_getElem?_getD, List.getElem?_eq_getElem h]
  rfl
theorem sb_all {l : List Nat} {w : Int} : ∀ {i : Nat}, i ≤ l.length → (w < 0 ∨ (i : Int) ≤ w) → sb l w i = l.take i
  | 0, _, _ => rfl
  | i + 1, h, hw => by
    rw [sb, if_neg (by omega), sb_all (by omega) (by omega), take_nx (by omega)]
theorem sb_out {l : List Nat} {j : Nat} : ∀ {i : Nat}, i ≤ l.length → j < i → sb l (j : Int) i = (l.take i).eraseIdx j
  | i + 1, h, hj => by
    rw [sb]
    by_cases e : (i : Int) = (j : Int)
    · obtain rfl : i = j := by omega
      rw [if_pos e, sb_all (by omega) (.inr (Int.le_refl _)), take_nx (by omega)]
      have hl : (l.take i).length = i := by rw [List.length_take]; omega
      rw [List.eraseIdx_append_of_length_le (by omega), hl, Nat.sub_self]
      simp
    · rw [if_neg e, sb_out (by omega) (by omega), take_nx (by omega), List.eraseIdx_append_of_lt_length (by rw [List.length_take]; omega)]
theorem sb_len {l : List Nat} {w : Int} : ∀ {i : Nat}, (sb l w i).length ≤ i
  | 0 => Nat.le_refl _
  | i + 1 => by
    rw [sb]
    have := sb_len (l := l) (w := w) (i := i)
    split
    · omega
    · rw [List.length_append]
      simp only [List.length_cons, List.length_nil]
      omega
theorem sb_mem {l : List Nat} {w : Int} : ∀ {i : Nat}, i ≤ l.length → ∀ x ∈ sb l w i, x ∈ l
  | 0, _, _, hx => by cases hx
  | i + 1, h, x, hx => by
    rw [sb] at hx
    split at hx
    · exact sb_mem (by omega) x hx
    · rcases List.mem_append.1 hx with hx | hx
      · exact sb_mem (by omega) x hx
      · rw [List.mem_singleton.1 hx, List.getD_eq_getElem?_getD, List.getElem?_eq_getElem (by omega)]
        exact List.getElem_mem _
theorem pick_app {holes : List (Int × Int)} {s t : List Nat} : pick holes (s ++ t) = pick holes s ++ pick holes t := by simp [pick]
theorem ct_fit {b : ActR} {dn up : Int} (h : acErr b = 0) (hw : winErr dn up = 0) : ctE b dn up 0 1 = fitE b dn up 0 := by
  have hd := (acErr_pts h).dip
  have h1 : frErr 0 1 = 0 := by decide
  have h2 : dipErr b 0 1 = 0 := by
    unfold dipErr
    rw [if_neg (by omega), if_neg (by omega)]
  unfold ctE
  rw [if_neg (by omega), if_neg (by omega), if_neg (by omega)]
  congr 1
/-- what is chosen -/
structure Chosen (a : ActR) (holes : List (Int × Int)) (dn up : Int) (l : List Nat) : Prop where
  win : winErr dn up = 0
  lds : ldsErr holes = 0
  len : l.length ≤ holes.length
  mem : ∀ i ∈ l, i < holes.length
  asc : ∀ i, 0 < i → i < l.length → l.getD (i - 1) 0 < l.getD i 0
  l8 : a.leads.length + l.length ≤ 8
  fit : fitE (addL a holes l) dn up 0 = 0
  less : ∀ i, i < l.length → fitE (addL a holes (l.eraseIdx i)) dn up 0 ≠ 0
theorem chL_chosen {a : ActR} {holes : List (Int × Int)} {dn up : Int} (h5 : holes.length ≤ 5) (h : (chL a holes dn up).2 = 0) : Chosen a holes dn up (chL a holes dn up).1 := by
  unfold chL at h ⊢
  split at h
  · exact absurd h (by assumption)
  rename_i h1
  rw [if_neg h1]
  split at h
  · exact absurd h (by assumption)
  rename_i h2
  rw [if_neg h2]
  split at h
  · exact absurd h (by assumption)
  rename_i h3
  rw [if_neg h3]
  split at h
  · exact absurd h (by decide)
  rename_i h4
  rw [if_neg h4]
  have O := ord_ok h5
  cases hb : bstL (accB a holes dn up) (2 ^ holes.length) with
  | none => rw [hb] at h; exact absurd h (by decide)
  | some l =>
    obtain ⟨g1, g2, _, _⟩ := (bst_inv _ O _ (Nat.le_refl _)).2 l hb
    obtain ⟨k1, k2, k3⟩ := O.lt l g2
    have hless := fun i hi => bst_less _ O hb (i := i) hi
    unfold accB at g1
    simp only [Bool.and_eq_true, decide_eq_true_eq] at g1
    refine ⟨by omega, by omega, k2, k1, k3, g1.1, g1.2, fun i hi hf => ?_⟩
    change i < l.length at hi
    change fitE (addL a holes (l.eraseIdx i)) dn up 0 = 0 at hf
    have := hless i hi
    unfold accB at this
    rw [decide_eq_true hf, Bool.and_true, decide_eq_false_iff_not, List.length_eraseIdx_of_lt hi] at this
    omega
theorem at_mid {α : Type} (X Y : List α) (c : α) : (X ++ c :: Y)[X.length]? = some c := by
  rw [List.getElem?_append_right (Nat.le_refl _), Nat.sub_self]
  rfl
attribute [local irreducible] WA WOs WDs WAn qThen qBlock tput
set_option maxHeartbeats 1000000
set_option maxRecDepth 20000
set_option linter.unusedSimpArgs false
set_option linter.unusedVariables false
set_option maxHeartbeats 8000000
attribute [local irreducible] smB cut sm
theorem uH21_3_5 {N : Nat} {l : List Oper} {t : List (Nat × V)} {m : Mem} {Q : Exit → List (Nat × V) → Mem → Prop} (h : RgN Tryd.prog N l t m Q (fun i => if i == 6 then .w else if i == 4 then .f else if i == 1 || i == 2 then .a else if i == 0 || i == 5 then .q else .p) [.one 0, .one 3, .one 5, .grp true [1] [2], .one 4, .one 6, .one 7, .one 8, .one 9, .one 10, .one 11]) : WA Tryd.prog N (.region 5 l.toArray true) t m Q := d_rgN h
theorem uH21_3_17 {N : Nat} {l : List Oper} {t : List (Nat × V)} {m : Mem} {Q : Exit → List (Nat × V) → Mem → Prop} (h : RgN Tryd.prog N l t m Q (fun i => if i == 3 || i == 5 || i == 7 || i == 8 || i == 16 || i == 21 then .q else .p) [.one 0, .one 1, .one 2, .one 3, .one 4, .one 5, .one 6, .one 7, .one 8, .one 9, .one 10, .one 11, .one 12, .one 13, .one 14, .one 15, .one 16, .one 17, .one 18, .one 19, .one 20, .one 21, .one 22, .one 23, .one 24]) : WA Tryd.prog N (.region 17 l.toArray true) t m Q := d_rgN h
theorem uH21_3_20 {N : Nat} {l : List Oper} {t : List (Nat × V)} {m : Mem} {Q : Exit → List (Nat × V) → Mem → Prop} (h : RgN Tryd.prog N l t m Q (fun i => if i == 10 || i == 12 then .w else if i == 9 then .a else if i == 1 || i == 6 || i == 8 then .q else .p) [.one 0, .one 1, .one 2, .one 3, .one 4, .one 5, .one 6, .one 7, .one 8, .one 9, .one 10, .one 11, .one 12]) : WA Tryd.prog N (.region 20 l.toArray true) t m Q := d_rgN h
theorem uH21_3_21 {N : Nat} {l : List Oper} {t : List (Nat × V)} {m : Mem} {Q : Exit → List (Nat × V) → Mem → Prop} (h : RgN Tryd.prog N l t m Q (fun i => if i == 0 || i == 1 || i == 2 || i == 3 then .q else .p) [.one 0, .one 1, .one 2, .one 3, .one 4]) : WA Tryd.prog N (.region 21 l.toArray true) t m Q := d_rgN h
theorem work_out (a : ActR) (holes : List (Int × Int)) (dn up : Int) (hout : ¬ (light a ∧ holes.length ≤ 5 ∧ acErr a = 0)) (m : Mem) : Gives Tryd.prog 3 [.agg (actV a), .lst (ldsV holes), .agg [.int .i64 dn, .int .i64 up]] m (.bool true) := by
  have hlg := fun m => llight_c a m
  have hac := fun (q : light a) m => rcheckaction_c a (light_lt q) m
  have hll := ldsV_length (l := holes)
  generalize acErr a = ae at *
  unfold actV at *
  refine Gives_in Tryd.func3 rfl Tryd.ntmps3 Tryd.results3 (by kernel_rfl) (by simp) rfl fun Q hQ => ?_
  (have FX := hll; repeat' (first | (refine sx ?_ ?_ <;> intro h <;> first | (exfalso; omega) | skip) | (refine g_op ?_; refine g_call ?_; refine g_args ?_; (first | refine s_fn (tstruck_c _) ?_ | refine s_fn (hlg _) ?_ | refine s_fn (hac (by assumption) _) ?_) <;> try first | omega | assumption) | refine ny ?_ | refine WA_block ?_ | (refine uH21_3_5 ?_; refine ⟨by kernel_rfl, ?_⟩) | (refine uH21_3_17 ?_; refine ⟨by kernel_rfl, ?_⟩) | (refine uH21_3_20 ?_; refine ⟨by kernel_rfl, ?_⟩) | (refine uH21_3_21 ?_; refine ⟨by kernel_rfl, ?_⟩) | ((first | refine grp_cons (fun _ => tstruck_c _) ?_ | refine grp_cons (fun _ => hlg _) ?_ | refine grp_cons (fun _ => hac (by assumption) _) ?_) <;> try first | omega | assumption) | (refine g_d ?_; refine d_args ?_; (first | refine d_fn (tstruck_c _) ?_ | refine d_fn (hlg _) ?_ | refine d_fn (hac (by assumption) _) ?_ | refine d_fnQ (fun _ => tstruck_c _) ?_ | refine d_fnQ (fun _ => hlg _) ?_ | refine d_fnQ (fun _ => hac (by assumption) _) ?_) <;> try first | omega | assumption) | (refine g_d ?_; (first | refine d_fnY (tstruck_c _) ?_ | refine d_fnY (hlg _) ?_ | refine d_fnY (hac (by assumption) _) ?_) <;> try first | omega | assumption)))
  all_goals (try (exfalso; first | exact hout ⟨by assumption, by omega, by omega⟩ | omega))
  all_goals (refine r_es hQ ?_; try with_reducible rfl)
def twE (a : ActR) (dn up : Int) : List TB := [actT a, winT dn up]
def twS (holes : List (Int × Int)) (l : List Nat) (w : Int) : List TV := [.v (.lst (ldsV holes)), .ptr 0 0 0, .ptr 1 0 0, .v (.lst (nlV l)), .v (.int .i64 w)]
theorem twE_ok {a : ActR} {dn up : Int} : (twE a dn up).all (TB.ok (twE a dn up).length) = true := by
  unfold twE actT winT
  simp only [List.all_cons, TB.ok, TV.okT, List.all_nil, Bool.and_true, Bool.and_self, tv_ok, List.length_cons, List.length_nil]
theorem twS_ok {a : ActR} {dn up : Int} {holes : List (Int × Int)} {l : List Nat} {w : Int} : (twS holes l w).all (TV.okT (twE a dn up).length) = true := by
  unfold twS twE
  simp [TV.okT]
def tiE (a : ActR) (dn up : Int) (pv : V) (p : List (Int × Int)) : List TB := [actT a, winT dn up, .cells .own 26 4 [[.v (.int .i64 a.dip), .v pv, .v (.lst (evsV a.evs)), .sl 3 p.length]], .cells .own 39 2 ((ldsV p).map (List.map TV.v))]
def tiS (holes : List (Int × Int)) (l : List Nat) (w : Int) (i : Nat) : List TV := [.v (.lst (ldsV holes)), .ptr 0 0 0, .ptr 1 0 0, .v (.lst (nlV l)), .v (.int .i64 w), .ptr 2 0 0, .v (.int .i64 i)]
theorem tiE_ok {a : ActR} {dn up : Int} {pv : V} {p : List (Int × Int)} : (tiE a dn up pv p).all (TB.ok (tiE a dn up pv p).length) = true := by
  unfold tiE actT winT
  simp only [List.all_cons, TB.ok, TV.okT, List.all_nil, Bool.and_true, Bool.and_self, tv_ok, List.length_cons, List.length_nil]
  decide
theorem tiS_ok {a : ActR} {dn up : Int} {pv : V} {p : List (Int × Int)} {holes : List (Int × Int)} {l : List Nat} {w : Int} {i : Nat} : (tiS holes l w i).all (TV.okT (tiE a dn up pv p).length) = true := by
  unfold tiS tiE
  simp [TV.okT]
theorem work_law (a : ActR) (holes : List (Int × Int)) (dn up : Int) (m : Mem) : Gives Tryd.prog 3 [.agg (actV a), .lst (ldsV holes), .agg [.int .i64 dn, .int .i64 up]] m (.bool true) := by
  by_cases hg : light a ∧ holes.length ≤ 5 ∧ acErr a = 0
  case neg => exact work_out a holes dn up hg m
  obtain ⟨hL, h5, h0⟩ := hg
  have hlt := light_lt hL
  have hl1 := hL.1
  unfold lenLight at hl1
  have hll := ldsV_length (l := holes)
  have hlg := fun m => llight_c a m
  rw [decide_eq_true hL] at hlg
  have hac := fun m => rcheckaction_c a hlt m
  rw [h0] at hac
  have hcp := fun m => lcopied_l a hL m
  have hch := fun m => achoose_c a hlt holes (.inl h5) (by omega) dn up m
  have hco := fun m => lcopied_o a (by omega) (by omega) (by omega) (fun i hi => by have := hL.2.1 i hi; unfold ptLight at this; omega) m
  have hwk : ∀ l, WkV (.agg [.int .i64 a.dip, oV (prtsV a.parts), .lst (evsV a.evs), .lst (ldsV l)]) (.agg [.int .i64 a.dip, .lst (prtsV a.parts), .lst (evsV a.evs), .lst (ldsV l)]) := fun l => wk_agg ⟨WkV.refl _, wk_oV _, WkV.refl _, WkV.refl _, trivial⟩
  unfold coA at hco
  have hone : (oV (prtsV a.parts)).one = true := by cases prtsV a.parts <;> rfl
  have hpz : ∀ (b : Nat) (es : List (List V)), frzV b es (oV (prtsV a.parts)) = oV (prtsV a.parts) := fun b es => by cases prtsV a.parts <;> rfl
  generalize oV (prtsV a.parts) = pv at *
  simp only [V.one] at hone
  have hal : ∀ n, n = 2 → (ldsV holes).all (fun e => e.length == n) = true := fun n h => ldsV_l2 h
  have htk : (ldsV holes).take holes.length = ldsV holes := List.take_of_length_le (by rw [hll]; exact Nat.le_refl _)
  have hfz : (∀ n, n = 2 → (ldsV holes).all (fun e => e.length == n) = true) ∧ (ldsV holes).take holes.length = ldsV holes := ⟨hal, htk⟩
  have hcs := fun h => chL_chosen (a := a) (holes := holes) (dn := dn) (up := up) h5 h
  unfold chV at hch
  generalize chL a holes dn up = p at *
  obtain ⟨l, e⟩ := p
  dsimp only at *
  have hnl := nlV_length (l := l)
  unfold actV at *
  refine Gives_in Tryd.func3 rfl Tryd.ntmps3 Tryd.results3 (by kernel_rfl) (by simp) rfl fun Q hQ => ?_
  refine WA_stop fun K0 hK0 => ?_
  (have FX := And.intro hll (And.intro hnl (And.intro hfz hone)); repeat' (first | (refine sx ?_ ?_ <;> intro h <;> first | (exfalso; omega) | skip) | (refine g_op ?_; refine g_call ?_; refine g_args ?_; (first | refine s_fn (tstruck_c _) ?_ | refine s_fn (hlg _) ?_ | refine s_fn (hac _) ?_ | refine s_fn (hcp _) ?_) <;> try first | omega | assumption) | refine ny ?_ | refine WA_block ?_ | (refine uH21_3_5 ?_; refine ⟨by kernel_rfl, ?_⟩) | (refine uH21_3_17 ?_; refine ⟨by kernel_rfl, ?_⟩) | (refine uH21_3_20 ?_; refine ⟨by kernel_rfl, ?_⟩) | (refine uH21_3_21 ?_; refine ⟨by kernel_rfl, ?_⟩) | ((first | refine grp_cons (fun _ => tstruck_c _) ?_ | refine grp_cons (fun _ => hlg _) ?_ | refine grp_cons (fun _ => hac _) ?_ | refine grp_cons (fun _ => hcp _) ?_) <;> try first | omega | assumption) | (refine g_d ?_; refine d_args ?_; (first | refine d_fn (tstruck_c _) ?_ | refine d_fn (hlg _) ?_ | refine d_fn (hac _) ?_ | refine d_fn (hcp _) ?_ | refine d_fnQ (fun _ => tstruck_c _) ?_ | refine d_fnQ (fun _ => hlg _) ?_ | refine d_fnQ (fun _ => hac _) ?_ | refine d_fnQ (fun _ => hcp _) ?_) <;> try first | omega | assumption) | (refine g_d ?_; (first | refine d_fnY (tstruck_c _) ?_ | refine d_fnY (hlg _) ?_ | refine d_fnY (hac _) ?_ | refine d_fnY (hcp _) ?_) <;> try first | omega | assumption)))
  all_goals (try (exfalso; omega))
  refine hK0 _ _ ?_
  clear hK0 K0 FX
  refine WA_stop fun K0 hK0 => ?_
  (have FX := And.intro hll (And.intro hnl (And.intro hfz hone)); repeat' (first | (refine sx ?_ ?_ <;> intro h <;> first | (exfalso; omega) | skip) | (refine g_op ?_; refine g_call ?_; refine g_args ?_; (first | refine s_fn (tstruck_c _) ?_ | refine s_fn (hlg _) ?_ | refine s_fn (hac _) ?_ | refine s_fn (hcp _) ?_) <;> try first | omega | assumption) | refine ny ?_ | refine WA_block ?_ | (refine uH21_3_5 ?_; refine ⟨by kernel_rfl, ?_⟩) | (refine uH21_3_17 ?_; refine ⟨by kernel_rfl, ?_⟩) | (refine uH21_3_20 ?_; refine ⟨by kernel_rfl, ?_⟩) | (refine uH21_3_21 ?_; refine ⟨by kernel_rfl, ?_⟩) | ((first | refine grp_cons (fun _ => tstruck_c _) ?_ | refine grp_cons (fun _ => hlg _) ?_ | refine grp_cons (fun _ => hac _) ?_ | refine grp_cons (fun _ => hcp _) ?_) <;> try first | omega | assumption) | (refine g_d ?_; refine d_args ?_; (first | refine d_fn (tstruck_c _) ?_ | refine d_fn (hlg _) ?_ | refine d_fn (hac _) ?_ | refine d_fn (hcp _) ?_ | refine d_fnQ (fun _ => tstruck_c _) ?_ | refine d_fnQ (fun _ => hlg _) ?_ | refine d_fnQ (fun _ => hac _) ?_ | refine d_fnQ (fun _ => hcp _) ?_) <;> try first | omega | assumption) | (refine g_d ?_; (first | refine d_fnY (tstruck_c _) ?_ | refine d_fnY (hlg _) ?_ | refine d_fnY (hac _) ?_ | refine d_fnY (hcp _) ?_) <;> try first | omega | assumption)))
  all_goals (try (exfalso; omega))
  refine hK0 _ _ ?_
  clear hK0 K0 FX
  refine WA_stop fun K0 hK0 => ?_
  (have FX := And.intro hll (And.intro hnl (And.intro hfz hone)); repeat' (first | (refine sx ?_ ?_ <;> intro h <;> first | (exfalso; omega) | skip) | (refine g_op ?_; refine g_call ?_; refine g_args ?_; (first | refine s_fn (tstruck_c _) ?_ | refine s_fn (hlg _) ?_ | refine s_fn (hac _) ?_ | refine s_fn (hcp _) ?_) <;> try first | omega | assumption) | refine ny ?_ | refine WA_block ?_ | (refine uH21_3_5 ?_; refine ⟨by kernel_rfl, ?_⟩) | (refine uH21_3_17 ?_; refine ⟨by kernel_rfl, ?_⟩) | (refine uH21_3_20 ?_; refine ⟨by kernel_rfl, ?_⟩) | (refine uH21_3_21 ?_; refine ⟨by kernel_rfl, ?_⟩) | ((first | refine grp_cons (fun _ => tstruck_c _) ?_ | refine grp_cons (fun _ => hlg _) ?_ | refine grp_cons (fun _ => hac _) ?_ | refine grp_cons (fun _ => hcp _) ?_) <;> try first | omega | assumption) | (refine g_d ?_; refine d_args ?_; (first | refine d_fn (tstruck_c _) ?_ | refine d_fn (hlg _) ?_ | refine d_fn (hac _) ?_ | refine d_fn (hcp _) ?_ | refine d_fnQ (fun _ => tstruck_c _) ?_ | refine d_fnQ (fun _ => hlg _) ?_ | refine d_fnQ (fun _ => hac _) ?_ | refine d_fnQ (fun _ => hcp _) ?_) <;> try first | omega | assumption) | (refine g_d ?_; (first | refine d_fnY (tstruck_c _) ?_ | refine d_fnY (hlg _) ?_ | refine d_fnY (hac _) ?_ | refine d_fnY (hcp _) ?_) <;> try first | omega | assumption)))
  all_goals (try (exfalso; omega))
  refine hK0 _ _ ?_
  clear hK0 K0 FX
  refine WA_cutT1 (σ := Unit) (L := lend m) [1, 3, 5, 7, 8] (fun _ => [.v (.lst (ldsV holes)), .ptr 0 0 0, .ptr 1 0 0, .v (.lst (nlV l)), .v (.int .i64 e)]) (fun _ => twE a dn up) (fun _ => True) (by decide) (fun _ _ => by unfold twE; simp [TV.okT]) (fun _ _ => twE_ok) (fun K1 hK1 => ?_) (fun _ _ B1 hB1 => ?_)
  · (have FX := And.intro hll (And.intro hnl (And.intro hfz hone)); repeat' first | (first | (refine sx ?_ ?_ <;> intro h <;> first | (exfalso; omega) | skip) | (refine g_op ?_; refine g_call ?_; refine g_args ?_; (first | refine s_fn (tstruck_c _) ?_ | refine s_fn (hlg _) ?_ | refine s_fn (hac _) ?_ | refine s_fn (hcp _) ?_) <;> try first | omega | assumption) | refine ny ?_ | refine WA_block ?_ | (refine uH21_3_5 ?_; refine ⟨by kernel_rfl, ?_⟩) | (refine uH21_3_17 ?_; refine ⟨by kernel_rfl, ?_⟩) | (refine uH21_3_20 ?_; refine ⟨by kernel_rfl, ?_⟩) | (refine uH21_3_21 ?_; refine ⟨by kernel_rfl, ?_⟩) | ((first | refine grp_cons (fun _ => tstruck_c _) ?_ | refine grp_cons (fun _ => hlg _) ?_ | refine grp_cons (fun _ => hac _) ?_ | refine grp_cons (fun _ => hcp _) ?_) <;> try first | omega | assumption) | (refine g_d ?_; refine d_args ?_; (first | refine d_fn (tstruck_c _) ?_ | refine d_fn (hlg _) ?_ | refine d_fn (hac _) ?_ | refine d_fn (hcp _) ?_ | refine d_fnQ (fun _ => tstruck_c _) ?_ | refine d_fnQ (fun _ => hlg _) ?_ | refine d_fnQ (fun _ => hac _) ?_ | refine d_fnQ (fun _ => hcp _) ?_) <;> try first | omega | assumption) | (refine g_d ?_; (first | refine d_fnY (tstruck_c _) ?_ | refine d_fnY (hlg _) ?_ | refine d_fnY (hac _) ?_ | refine d_fnY (hcp _) ?_) <;> try first | omega | assumption)) | refine d_alt ?_ | refine wg_0 ?_ | refine wg_b ?_ | refine wg_c ?_ ?_ | refine wg_n ?_ | refine wm_cons ?_ ?_ | exact wm_nil | refine wg_op ?_)
    all_goals (try (exfalso; omega))
    all_goals (refine d_args ?_; first
      | (refine d_fzE (B := lend m) (es := ldsV holes) (n := holes.length) 4 1 (hch _) ?_ (hn := hll))
      | (refine d_fzE (B := lend m) (es := ldsV holes) (n := holes.length) 3 1 (hch _) ?_ (hn := hll))
      | (refine d_fzE (B := lend m) (es := ldsV holes) (n := holes.length) 5 1 (hch _) ?_ (hn := hll)))
    all_goals (have FX := And.intro hll (And.intro hnl (And.intro hfz hone)); repeat' (first | (refine sx ?_ ?_ <;> intro h <;> first | (exfalso; omega) | skip) | (refine g_op ?_; refine g_call ?_; refine g_args ?_; (first | refine s_fn (tstruck_c _) ?_ | refine s_fn (hlg _) ?_ | refine s_fn (hac _) ?_ | refine s_fn (hcp _) ?_) <;> try first | omega | assumption) | refine ny ?_ | refine WA_block ?_ | (refine uH21_3_5 ?_; refine ⟨by kernel_rfl, ?_⟩) | (refine uH21_3_17 ?_; refine ⟨by kernel_rfl, ?_⟩) | (refine uH21_3_20 ?_; refine ⟨by kernel_rfl, ?_⟩) | (refine uH21_3_21 ?_; refine ⟨by kernel_rfl, ?_⟩) | ((first | refine grp_cons (fun _ => tstruck_c _) ?_ | refine grp_cons (fun _ => hlg _) ?_ | refine grp_cons (fun _ => hac _) ?_ | refine grp_cons (fun _ => hcp _) ?_) <;> try first | omega | assumption) | (refine g_d ?_; refine d_args ?_; (first | refine d_fn (tstruck_c _) ?_ | refine d_fn (hlg _) ?_ | refine d_fn (hac _) ?_ | refine d_fn (hcp _) ?_ | refine d_fnQ (fun _ => tstruck_c _) ?_ | refine d_fnQ (fun _ => hlg _) ?_ | refine d_fnQ (fun _ => hac _) ?_ | refine d_fnQ (fun _ => hcp _) ?_) <;> try first | omega | assumption) | (refine g_d ?_; (first | refine d_fnY (tstruck_c _) ?_ | refine d_fnY (hlg _) ?_ | refine d_fnY (hac _) ?_ | refine d_fnY (hcp _) ?_) <;> try first | omega | assumption)))
    all_goals ((refine nextU_ hK1 (()) [0, 1] (trivial) (trivial) ?_ (ht := ?_); (focus (simp only [twE, actT, winT, List.map_cons, List.map_nil, TB.inst, TV.inst, tv_map, List.cons_append, List.nil_append]; first | rfl | (simp [ptsV, ptV]; done) | (simp [hpsV, hpV]; done) | (simp [frsV, frV]; done) | (simp [txV]; done) | (simp [prtsV, prtV]; done))); (simp only [List.length_cons, List.map_cons, List.map_nil, TV.inst, List.getD_cons_zero, List.getD_cons_succ]; exact tv_)))
  clear hch hlg hac hcp hfz hal htk
  have hlg := hll
  have hac := hll
  have hcp := hll
  have hfz := hll
  simp only [twE, actT, winT]
  by_cases he : e = 0
  case neg =>
    simp only [List.map_cons, List.map_nil, TB.inst, TV.inst, tv_map, zipT, List.cons_append, List.nil_append, Nat.add_zero]
    (have FX := And.intro hll (And.intro hnl (And.intro hfz hone)); repeat' (first | (refine sx ?_ ?_ <;> intro h <;> first | (exfalso; omega) | skip) | (refine g_op ?_; refine g_call ?_; refine g_args ?_; (first | refine s_fn (tstruck_c _) ?_ | refine s_fn (hlg _) ?_ | refine s_fn (hac _) ?_ | refine s_fn (hcp _) ?_) <;> try first | omega | assumption) | refine ny ?_ | refine WA_block ?_ | (refine uH21_3_5 ?_; refine ⟨by kernel_rfl, ?_⟩) | (refine uH21_3_17 ?_; refine ⟨by kernel_rfl, ?_⟩) | (refine uH21_3_20 ?_; refine ⟨by kernel_rfl, ?_⟩) | (refine uH21_3_21 ?_; refine ⟨by kernel_rfl, ?_⟩) | ((first | refine grp_cons (fun _ => tstruck_c _) ?_ | refine grp_cons (fun _ => hlg _) ?_ | refine grp_cons (fun _ => hac _) ?_ | refine grp_cons (fun _ => hcp _) ?_) <;> try first | omega | assumption) | (refine g_d ?_; refine d_args ?_; (first | refine d_fn (tstruck_c _) ?_ | refine d_fn (hlg _) ?_ | refine d_fn (hac _) ?_ | refine d_fn (hcp _) ?_ | refine d_fnQ (fun _ => tstruck_c _) ?_ | refine d_fnQ (fun _ => hlg _) ?_ | refine d_fnQ (fun _ => hac _) ?_ | refine d_fnQ (fun _ => hcp _) ?_) <;> try first | omega | assumption) | (refine g_d ?_; (first | refine d_fnY (tstruck_c _) ?_ | refine d_fnY (hlg _) ?_ | refine d_fnY (hac _) ?_ | refine d_fnY (hcp _) ?_) <;> try first | omega | assumption)))
    all_goals (try (exfalso; omega))
    all_goals (refine r_es hQ ?_; try with_reducible rfl)
  subst he
  obtain ⟨cw, cl, cn, cm, ca, c8, cf, cs⟩ := hcs rfl
  simp only [List.map_cons, List.map_nil, TB.inst, TV.inst, tv_map, zipT, List.cons_append, List.nil_append, Nat.add_zero]
  (have FX := And.intro hll (And.intro hnl (And.intro hfz hone)); repeat' (first | (refine sx ?_ ?_ <;> intro h <;> first | (exfalso; omega) | skip) | (refine g_op ?_; refine g_call ?_; refine g_args ?_; (first | refine s_fn (tstruck_c _) ?_ | refine s_fn (hlg _) ?_ | refine s_fn (hac _) ?_ | refine s_fn (hcp _) ?_) <;> try first | omega | assumption) | refine ny ?_ | refine WA_block ?_ | (refine uH21_3_5 ?_; refine ⟨by kernel_rfl, ?_⟩) | (refine uH21_3_17 ?_; refine ⟨by kernel_rfl, ?_⟩) | (refine uH21_3_20 ?_; refine ⟨by kernel_rfl, ?_⟩) | (refine uH21_3_21 ?_; refine ⟨by kernel_rfl, ?_⟩) | ((first | refine grp_cons (fun _ => tstruck_c _) ?_ | refine grp_cons (fun _ => hlg _) ?_ | refine grp_cons (fun _ => hac _) ?_ | refine grp_cons (fun _ => hcp _) ?_) <;> try first | omega | assumption) | (refine g_d ?_; refine d_args ?_; (first | refine d_fn (tstruck_c _) ?_ | refine d_fn (hlg _) ?_ | refine d_fn (hac _) ?_ | refine d_fn (hcp _) ?_ | refine d_fnQ (fun _ => tstruck_c _) ?_ | refine d_fnQ (fun _ => hlg _) ?_ | refine d_fnQ (fun _ => hac _) ?_ | refine d_fnQ (fun _ => hcp _) ?_) <;> try first | omega | assumption) | (refine g_d ?_; (first | refine d_fnY (tstruck_c _) ?_ | refine d_fnY (hlg _) ?_ | refine d_fnY (hac _) ?_ | refine d_fnY (hcp _) ?_) <;> try first | omega | assumption)))
  all_goals (try (exfalso; omega))
  have hm1 : ((0 : Nat) : Int) - 1 = -1 := rfl
  refine WA_whileT (σ := Nat) (L := B1) [1, 3, 5, 7, 9] (fun k => twS holes l ((k : Int) - 1)) (fun _ => twE a dn up) (fun k => k ≤ l.length + 1) (fun k => l.length + 1 - k) 0 (Nat.zero_le _) (by simp only [twS, hm1, List.map_cons, List.map_nil, TV.inst]; exact tv_) (by simp only [twE, actT, winT, List.map_cons, List.map_nil, TB.inst, TV.inst, tv_map]) (by decide) (fun _ _ => twS_ok) (fun _ _ => twE_ok) ?_
  rintro k hk B ⟨D0, hB⟩ K hK
  clear FX
  have hkn : (((k + 1 : Nat) : Int) - 1) = ((k : Int) - 1) + 1 := by omega
  rcases Nat.lt_or_ge l.length k with hgt | hle
  · simp only [twS, twE, actT, winT]
    simp only [List.map_cons, List.map_nil, TB.inst, TV.inst, tv_map, zipT, List.cons_append, List.nil_append, Nat.add_zero]
    (have FX := And.intro hll (And.intro hnl (And.intro hfz hone)); repeat' (first | (refine sx ?_ ?_ <;> intro h <;> first | (exfalso; omega) | skip) | (refine g_op ?_; refine g_call ?_; refine g_args ?_; (first | refine s_fn (tstruck_c _) ?_ | refine s_fn (hlg _) ?_ | refine s_fn (hac _) ?_ | refine s_fn (hcp _) ?_) <;> try first | omega | assumption) | refine ny ?_ | refine WA_block ?_ | (refine uH21_3_5 ?_; refine ⟨by kernel_rfl, ?_⟩) | (refine uH21_3_17 ?_; refine ⟨by kernel_rfl, ?_⟩) | (refine uH21_3_20 ?_; refine ⟨by kernel_rfl, ?_⟩) | (refine uH21_3_21 ?_; refine ⟨by kernel_rfl, ?_⟩) | ((first | refine grp_cons (fun _ => tstruck_c _) ?_ | refine grp_cons (fun _ => hlg _) ?_ | refine grp_cons (fun _ => hac _) ?_ | refine grp_cons (fun _ => hcp _) ?_) <;> try first | omega | assumption) | (refine g_d ?_; refine d_args ?_; (first | refine d_fn (tstruck_c _) ?_ | refine d_fn (hlg _) ?_ | refine d_fn (hac _) ?_ | refine d_fn (hcp _) ?_ | refine d_fnQ (fun _ => tstruck_c _) ?_ | refine d_fnQ (fun _ => hlg _) ?_ | refine d_fnQ (fun _ => hac _) ?_ | refine d_fnQ (fun _ => hcp _) ?_) <;> try first | omega | assumption) | (refine g_d ?_; (first | refine d_fnY (tstruck_c _) ?_ | refine d_fnY (hlg _) ?_ | refine d_fnY (hac _) ?_ | refine d_fnY (hcp _) ?_) <;> try first | omega | assumption)))
    all_goals (try (exfalso; omega))
    all_goals (refine r_es hQ ?_; try with_reducible rfl)
  · have hnx := hK (k + 1)
    rw [hkn] at hnx
    clear hK hkn
    obtain ⟨w, hw⟩ : ∃ w : Int, (k : Int) - 1 = w := ⟨_, rfl⟩
    rw [hw] at hnx ⊢
    simp only [twS, twE, actT, winT]
    simp only [List.map_cons, List.map_nil, TB.inst, TV.inst, tv_map, zipT, List.cons_append, List.nil_append, Nat.add_zero]
    (have FX := And.intro hll (And.intro hnl (And.intro hfz hone)); repeat' (first | (refine sx ?_ ?_ <;> intro h <;> first | (exfalso; omega) | skip) | (refine g_op ?_; refine g_call ?_; refine g_args ?_; (first | refine s_fn (tstruck_c _) ?_ | refine s_fn (hlg _) ?_ | refine s_fn (hac _) ?_ | refine s_fn (hcp _) ?_) <;> try first | omega | assumption) | refine ny ?_ | refine WA_block ?_ | (refine uH21_3_5 ?_; refine ⟨by kernel_rfl, ?_⟩) | (refine uH21_3_17 ?_; refine ⟨by kernel_rfl, ?_⟩) | (refine uH21_3_20 ?_; refine ⟨by kernel_rfl, ?_⟩) | (refine uH21_3_21 ?_; refine ⟨by kernel_rfl, ?_⟩) | ((first | refine grp_cons (fun _ => tstruck_c _) ?_ | refine grp_cons (fun _ => hlg _) ?_ | refine grp_cons (fun _ => hac _) ?_ | refine grp_cons (fun _ => hcp _) ?_) <;> try first | omega | assumption) | (refine g_d ?_; refine d_args ?_; (first | refine d_fn (tstruck_c _) ?_ | refine d_fn (hlg _) ?_ | refine d_fn (hac _) ?_ | refine d_fn (hcp _) ?_ | refine d_fnQ (fun _ => tstruck_c _) ?_ | refine d_fnQ (fun _ => hlg _) ?_ | refine d_fnQ (fun _ => hac _) ?_ | refine d_fnQ (fun _ => hcp _) ?_) <;> try first | omega | assumption) | (refine g_d ?_; (first | refine d_fnY (tstruck_c _) ?_ | refine d_fnY (hlg _) ?_ | refine d_fnY (hac _) ?_ | refine d_fnY (hcp _) ?_) <;> try first | omega | assumption)))
    all_goals (try (exfalso; omega))
    refine g_op ?_; refine g_call ?_; refine g_args ?_; refine s_fnA (hco _) ?_
    rintro v mo ⟨D, E, rfl, rfl⟩
    simp only [Option.getD_some]
    have hpl0 : (ldsV a.leads).length = a.leads.length := ldsV_length
    generalize hX : (D ++ Blk.cells .own 39 2 (ldsV a.leads) :: E : Mem) = X
    generalize hsN : List.length (B ++ [Blk.cells .own 26 4 [[.int .i64 a.dip, .lst (prtsV a.parts), .lst (evsV a.evs), .lst (ldsV a.leads)]], Blk.cells .own 28 2 [[.int .i64 dn, .int .i64 up]]]) + List.length D = sN
    generalize hB' : ((B ++ [Blk.cells .own 26 4 [[.int .i64 a.dip, .lst (prtsV a.parts), .lst (evsV a.evs), .lst (ldsV a.leads)]], Blk.cells .own 28 2 [[.int .i64 dn, .int .i64 up]]]) ++ X : Mem) = B'
    (have FX := And.intro hll (And.intro hnl (And.intro hfz hone)); repeat' (first | (refine sx ?_ ?_ <;> intro h <;> first | (exfalso; omega) | skip) | (refine g_op ?_; refine g_call ?_; refine g_args ?_; (first | refine s_fn (tstruck_c _) ?_ | refine s_fn (hlg _) ?_ | refine s_fn (hac _) ?_ | refine s_fn (hcp _) ?_) <;> try first | omega | assumption) | refine ny ?_ | refine WA_block ?_ | (refine uH21_3_5 ?_; refine ⟨by kernel_rfl, ?_⟩) | (refine uH21_3_17 ?_; refine ⟨by kernel_rfl, ?_⟩) | (refine uH21_3_20 ?_; refine ⟨by kernel_rfl, ?_⟩) | (refine uH21_3_21 ?_; refine ⟨by kernel_rfl, ?_⟩) | ((first | refine grp_cons (fun _ => tstruck_c _) ?_ | refine grp_cons (fun _ => hlg _) ?_ | refine grp_cons (fun _ => hac _) ?_ | refine grp_cons (fun _ => hcp _) ?_) <;> try first | omega | assumption) | (refine g_d ?_; refine d_args ?_; (first | refine d_fn (tstruck_c _) ?_ | refine d_fn (hlg _) ?_ | refine d_fn (hac _) ?_ | refine d_fn (hcp _) ?_ | refine d_fnQ (fun _ => tstruck_c _) ?_ | refine d_fnQ (fun _ => hlg _) ?_ | refine d_fnQ (fun _ => hac _) ?_ | refine d_fnQ (fun _ => hcp _) ?_) <;> try first | omega | assumption) | (refine g_d ?_; (first | refine d_fnY (tstruck_c _) ?_ | refine d_fnY (hlg _) ?_ | refine d_fnY (hac _) ?_ | refine d_fnY (hcp _) ?_) <;> try first | omega | assumption)))
    have hBl : B'.length = B.length + (2 + X.length) := by rw [← hB']; simp only [List.length_append, List.length_cons, List.length_nil]; omega
    have hs2 : sN = B.length + (2 + D.length) := by rw [← hsN]; simp only [List.length_append, List.length_cons, List.length_nil]; omega
    rw [hBl, hs2]
    have x1 : ∀ c : Blk, ([Blk.cells .own 26 4 [[.int .i64 a.dip, .lst (prtsV a.parts), .lst (evsV a.evs), .lst (ldsV a.leads)]], Blk.cells .own 28 2 [[.int .i64 dn, .int .i64 up]]] ++ (X ++ [c]) : Mem)[2 + X.length]? = some c := fun c => by
      rw [← List.append_assoc]
      have := at_mid ([Blk.cells .own 26 4 [[.int .i64 a.dip, .lst (prtsV a.parts), .lst (evsV a.evs), .lst (ldsV a.leads)]], Blk.cells .own 28 2 [[.int .i64 dn, .int .i64 up]]] ++ X : Mem) [] c
      rw [List.length_append] at this
      exact this
    have x2 : ∀ c : Blk, ([Blk.cells .own 26 4 [[.int .i64 a.dip, .lst (prtsV a.parts), .lst (evsV a.evs), .lst (ldsV a.leads)]], Blk.cells .own 28 2 [[.int .i64 dn, .int .i64 up]]] ++ (X ++ [c]) : Mem)[2 + D.length]? = some (Blk.cells .own 39 2 (ldsV a.leads)) := fun c => by
      rw [← hX, List.append_assoc, ← List.append_assoc]
      have := at_mid ([Blk.cells .own 26 4 [[.int .i64 a.dip, .lst (prtsV a.parts), .lst (evsV a.evs), .lst (ldsV a.leads)]], Blk.cells .own 28 2 [[.int .i64 dn, .int .i64 up]]] ++ D : Mem) (E ++ [c]) (Blk.cells .own 39 2 (ldsV a.leads))
      rw [List.length_append] at this
      exact this
    have hXl : X.length = D.length + (E.length + 1) := by rw [← hX]; simp only [List.length_append, List.length_cons]
    refine WA_ren (L := B) (ks := [1, 3, 5, 7, 9, 10, 11]) (vs := tiS holes l w 0) (Ts := tiE a dn up pv a.leads) (js := [0, 1, 2 + X.length, 2 + D.length]) ⟨[Blk.cells .own 26 4 [[.int .i64 a.dip, .lst (prtsV a.parts), .lst (evsV a.evs), .lst (ldsV a.leads)]], Blk.cells .own 28 2 [[.int .i64 dn, .int .i64 up]]] ++ (X ++ [Blk.cells .own 26 4 [[.int .i64 a.dip, pv, .lst (evsV a.evs), .sl (B.length + (2 + D.length)) a.leads.length]]]), ?_, ?_, ?_, ?_⟩ (by decide) tiS_ok tiE_ok ?_
    · rw [← hB', List.append_assoc, List.append_assoc]
    · simp only [tiS, List.map_cons, List.map_nil, TV.inst, List.getD_cons_zero, List.getD_cons_succ]
      exact tv_
    · simp only [tiE, actT, winT, List.map_cons, List.map_nil, TB.inst, TV.inst, tv_map, List.getD_cons_zero, List.getD_cons_succ, x1, x2]
      rfl
    · simp only [List.nodup_cons, List.mem_cons, List.not_mem_nil, or_false, not_false_eq_true, List.nodup_nil, and_true]
      omega
    clear x1 x2 hXl hs2 hBl hB' hsN hX hm1
    rintro B2 ⟨D2, hB2⟩
    clear FX
    refine WA_whileT (σ := Nat) (L := B2) [1, 3, 5, 7, 9, 10, 11] (fun i => tiS holes l w i) (fun i => tiE a dn up pv (a.leads ++ pick holes (sb l w i))) (fun i => i ≤ l.length) (fun i => l.length - i) 0 (Nat.zero_le _) (by simp only [tiS, zipT, List.map_cons, List.map_nil, TV.inst]; exact tv_) (by simp [sb, pick]) (by decide) (fun _ _ => tiS_ok) (fun _ _ => tiE_ok) ?_
    rintro i hi B3 ⟨D3, hB3⟩ K3 hK3
    have hB3' : B3 = B ++ (D2 ++ D3) := by rw [hB3, hB2, List.append_assoc]
    have hsl := sb_len (l := l) (w := w) (i := i)
    obtain ⟨q, hq⟩ : ∃ q, (a.leads ++ pick holes (sb l w i)).length = q := ⟨_, rfl⟩
    have hq8 : q ≤ 8 := by rw [← hq, List.length_append, pick_len]; omega
    clear hco hac hcp hlg
    rcases Nat.lt_or_ge i l.length with hli | hge
    · have hg1 := nlV_get hli
      have hkm : l.getD i 0 < holes.length := by
        rw [List.getD_eq_getElem?_getD, List.getElem?_eq_getElem hli]
        exact cm _ (List.getElem_mem _)
      have hg2 := ldsV_get hkm
      have hnE : (i : Int) = w → ∀ js t' m', RoundEndT B3 [1, 3, 5, 7, 9, 10, 11] (tiS holes l w (i + 1)) (tiE a dn up pv (a.leads ++ pick holes (sb l w i))) js t' m' → i + 1 ≤ l.length → l.length - (i + 1) < l.length - i → K3 t' m' := fun e => by
        have := hK3 (i + 1)
        rw [show sb l w (i + 1) = sb l w i by rw [sb, if_pos e]] at this
        exact this
      have hnN : ¬ (i : Int) = w → ∀ js t' m', RoundEndT B3 [1, 3, 5, 7, 9, 10, 11] (tiS holes l w (i + 1)) (tiE a dn up pv ((a.leads ++ pick holes (sb l w i)) ++ [holes.getD (l.getD i 0) l0])) js t' m' → i + 1 ≤ l.length → l.length - (i + 1) < l.length - i → K3 t' m' := fun e => by
        have := hK3 (i + 1)
        rw [show sb l w (i + 1) = sb l w i ++ [l.getD i 0] by rw [sb, if_neg e], pick_app, ← List.append_assoc] at this
        exact this
      have hprev : 0 < i → (nlV l)[i - 1]? = some [V.int .i64 ((l.getD (i - 1) 0 : Nat) : Int)] ∧ l.getD (i - 1) 0 < l.getD i 0 := fun h => ⟨nlV_get (by omega), ca i h hli⟩
      have hti : ((i : Int) - 1).toNat = i - 1 := by omega
      clear hK3 hnx ca cs cf
      generalize l.getD i 0 = kk at *
      generalize l.getD (i - 1) 0 = yy at *
      generalize holes.getD kk l0 = hk2 at *
      generalize a.leads ++ pick holes (sb l w i) = p at *
      obtain ⟨x, y⟩ := hk2
      unfold ldV at hg2
      dsimp only at hg2
      have hsn := ldsV_snoc p x y
      have hlv : (ldsV p).length = q := by rw [ldsV_length, hq]
      have hlt2 : (ldsV p).take q = ldsV p := List.take_of_length_le (by rw [hlv]; exact Nat.le_refl _)
      have hnE1 := fun (_ : Unit) => hnE
      have hnN1 := fun (_ : Unit) => hnN
      simp only [tiS, tiE, actT, winT, hq]
      rcases Nat.eq_zero_or_pos i with hi0 | hi0
      · have hg0 := hll
        simp only [List.map_cons, List.map_nil, TB.inst, TV.inst, tv_map, zipT, List.cons_append, List.nil_append, Nat.add_zero]
        (have FX := And.intro hll (And.intro hnl (And.intro hg1 (And.intro hg2 (And.intro hlv (And.intro hlt2 (And.intro hti hg0)))))); repeat' first | (first | (refine sx ?_ ?_ <;> intro h <;> first | (exfalso; omega) | skip) | (refine g_op ?_; refine g_call ?_; refine g_args ?_; (first | refine s_fn (bwithin_c _ _ _ _) ?_) <;> try first | omega | assumption) | refine ny ?_ | refine WA_block ?_ | (refine uH21_3_5 ?_; refine ⟨by kernel_rfl, ?_⟩) | (refine uH21_3_17 ?_; refine ⟨by kernel_rfl, ?_⟩) | (refine uH21_3_20 ?_; refine ⟨by kernel_rfl, ?_⟩) | (refine uH21_3_21 ?_; refine ⟨by kernel_rfl, ?_⟩) | ((first | refine grp_cons (fun _ => bwithin_c _ _ _ _) ?_) <;> try first | omega | assumption) | (refine g_d ?_; refine d_args ?_; (first | refine d_fn (bwithin_c _ _ _ _) ?_ | refine d_fnQ (fun _ => bwithin_c _ _ _ _) ?_) <;> try first | omega | assumption) | (refine g_d ?_; (first | refine d_fnY (bwithin_c _ _ _ _) ?_) <;> try first | omega | assumption)) | refine d_alt ?_ | refine wg_0 ?_ | refine wg_b ?_ | refine wg_c ?_ ?_ | refine wg_n ?_ | refine wm_cons ?_ ?_ | exact wm_nil | refine wg_op ?_)
        all_goals (try (exfalso; omega))
        all_goals first
          | (have hz := fun (_ : Unit) => hnE (by first | assumption | omega)
             (refine nextU_ hz (()) [0, 1, 2, 3] (hli) (by omega) ?_ (ht := ?_); (focus (simp only [tiE, actT, winT, hq, List.map_cons, List.map_nil, TB.inst, TV.inst, tv_map, List.cons_append, List.nil_append]; first | rfl | (simp [ptsV, ptV]; done) | (simp [hpsV, hpV]; done) | (simp [frsV, frV]; done) | (simp [txV]; done) | (simp [prtsV, prtV]; done))); (simp only [tiS, List.length_cons, List.map_cons, List.map_nil, TV.inst, List.getD_cons_zero, List.getD_cons_succ]; exact tv_)))
          | (have hz := fun (_ : Unit) => hnN (by first | assumption | omega)
             (refine nextU_ hz (()) [0, 1, 2, 5] (hli) (by omega) ?_ (ht := ?_); (focus (simp only [tiE, actT, winT, hsn, hq, List.length_append, List.length_cons, List.length_nil, Nat.zero_add, List.map_cons, List.map_nil, TB.inst, TV.inst, tv_map, List.cons_append, List.nil_append]; first | rfl | (simp [ptsV, ptV]; done) | (simp [hpsV, hpV]; done) | (simp [frsV, frV]; done) | (simp [txV]; done) | (simp [prtsV, prtV]; done))); (simp only [tiS, List.length_cons, List.map_cons, List.map_nil, TV.inst, List.getD_cons_zero, List.getD_cons_succ]; exact tv_)))
          | (have hz := fun (_ : Unit) => hnN (by first | assumption | omega)
             (refine nextU_ hz (()) [0, 1, 2, 4] (hli) (by omega) ?_ (ht := ?_); (focus (simp only [tiE, actT, winT, hsn, hq, List.length_append, List.length_cons, List.length_nil, Nat.zero_add, List.map_cons, List.map_nil, TB.inst, TV.inst, tv_map, List.cons_append, List.nil_append]; first | rfl | (simp [ptsV, ptV]; done) | (simp [hpsV, hpV]; done) | (simp [frsV, frV]; done) | (simp [txV]; done) | (simp [prtsV, prtV]; done))); (simp only [tiS, List.length_cons, List.map_cons, List.map_nil, TV.inst, List.getD_cons_zero, List.getD_cons_succ]; exact tv_)))
      · obtain ⟨hg0, hyx⟩ := hprev hi0
        simp only [List.map_cons, List.map_nil, TB.inst, TV.inst, tv_map, zipT, List.cons_append, List.nil_append, Nat.add_zero]
        (have FX := And.intro hll (And.intro hnl (And.intro hg1 (And.intro hg2 (And.intro hlv (And.intro hlt2 (And.intro hti hg0)))))); repeat' first | (first | (refine sx ?_ ?_ <;> intro h <;> first | (exfalso; omega) | skip) | (refine g_op ?_; refine g_call ?_; refine g_args ?_; (first | refine s_fn (bwithin_c _ _ _ _) ?_) <;> try first | omega | assumption) | refine ny ?_ | refine WA_block ?_ | (refine uH21_3_5 ?_; refine ⟨by kernel_rfl, ?_⟩) | (refine uH21_3_17 ?_; refine ⟨by kernel_rfl, ?_⟩) | (refine uH21_3_20 ?_; refine ⟨by kernel_rfl, ?_⟩) | (refine uH21_3_21 ?_; refine ⟨by kernel_rfl, ?_⟩) | ((first | refine grp_cons (fun _ => bwithin_c _ _ _ _) ?_) <;> try first | omega | assumption) | (refine g_d ?_; refine d_args ?_; (first | refine d_fn (bwithin_c _ _ _ _) ?_ | refine d_fnQ (fun _ => bwithin_c _ _ _ _) ?_) <;> try first | omega | assumption) | (refine g_d ?_; (first | refine d_fnY (bwithin_c _ _ _ _) ?_) <;> try first | omega | assumption)) | refine d_alt ?_ | refine wg_0 ?_ | refine wg_b ?_ | refine wg_c ?_ ?_ | refine wg_n ?_ | refine wm_cons ?_ ?_ | exact wm_nil | refine wg_op ?_)
        all_goals (try (exfalso; omega))
        all_goals first
          | (have hz := fun (_ : Unit) => hnE (by first | assumption | omega)
             (refine nextU_ hz (()) [0, 1, 2, 3] (hli) (by omega) ?_ (ht := ?_); (focus (simp only [tiE, actT, winT, hq, List.map_cons, List.map_nil, TB.inst, TV.inst, tv_map, List.cons_append, List.nil_append]; first | rfl | (simp [ptsV, ptV]; done) | (simp [hpsV, hpV]; done) | (simp [frsV, frV]; done) | (simp [txV]; done) | (simp [prtsV, prtV]; done))); (simp only [tiS, List.length_cons, List.map_cons, List.map_nil, TV.inst, List.getD_cons_zero, List.getD_cons_succ]; exact tv_)))
          | (have hz := fun (_ : Unit) => hnN (by first | assumption | omega)
             (refine nextU_ hz (()) [0, 1, 2, 5] (hli) (by omega) ?_ (ht := ?_); (focus (simp only [tiE, actT, winT, hsn, hq, List.length_append, List.length_cons, List.length_nil, Nat.zero_add, List.map_cons, List.map_nil, TB.inst, TV.inst, tv_map, List.cons_append, List.nil_append]; first | rfl | (simp [ptsV, ptV]; done) | (simp [hpsV, hpV]; done) | (simp [frsV, frV]; done) | (simp [txV]; done) | (simp [prtsV, prtV]; done))); (simp only [tiS, List.length_cons, List.map_cons, List.map_nil, TV.inst, List.getD_cons_zero, List.getD_cons_succ]; exact tv_)))
          | (have hz := fun (_ : Unit) => hnN (by first | assumption | omega)
             (refine nextU_ hz (()) [0, 1, 2, 4] (hli) (by omega) ?_ (ht := ?_); (focus (simp only [tiE, actT, winT, hsn, hq, List.length_append, List.length_cons, List.length_nil, Nat.zero_add, List.map_cons, List.map_nil, TB.inst, TV.inst, tv_map, List.cons_append, List.nil_append]; first | rfl | (simp [ptsV, ptV]; done) | (simp [hpsV, hpV]; done) | (simp [frsV, frV]; done) | (simp [txV]; done) | (simp [prtsV, prtV]; done))); (simp only [tiS, List.length_cons, List.map_cons, List.map_nil, TV.inst, List.getD_cons_zero, List.getD_cons_succ]; exact tv_)))
    · obtain rfl : i = l.length := by omega
      clear hK3
      have hm' : ∀ x ∈ sb l w l.length, x < holes.length := fun x hx => cm x (sb_mem (Nat.le_refl _) x hx)
      have h8' : a.leads.length + (sb l w l.length).length ≤ 8 := by omega
      have hct := fun m => achecktouch_c (addL a holes (sb l w l.length)) (add_lt hlt h8') dn up 0 1 (by unfold B64; omega) (by unfold B64; omega) m
      rw [ct_fit (add_err h0 cl hm' h8') cw] at hct
      have hfe : (w < 0 → fitE (addL a holes (sb l w l.length)) dn up 0 = 0) ∧ (0 ≤ w → fitE (addL a holes (sb l w l.length)) dn up 0 ≠ 0) := by
        constructor
        · intro h
          rw [sb_all (Nat.le_refl _) (.inl h), List.take_length]
          exact cf
        · intro h
          obtain ⟨j, hj⟩ : ∃ j : Nat, w = (j : Int) := ⟨w.toNat, by omega⟩
          rw [hj, sb_out (Nat.le_refl _) (by omega), List.take_length]
          exact cs j (by omega)
      generalize fitE (addL a holes (sb l w l.length)) dn up 0 = fe at *
      unfold actV at hct
      have hfj := fun m => Gives_w0 (hwk (a.leads ++ pick holes (sb l w l.length))) (hct m)
      clear hct
      have hnx3 := fun js t' m' (h : RoundEndT B3 [1, 3, 5, 7, 9] (twS holes l (w + 1)) (twE a dn up) js t' m') => hnx (js.map ((D2 ++ D3).length + ·)) t' m' (RoundEndT_up (by rw [hB3'] at h; exact h) twS_ok twE_ok)
      have hny3 := fun (_ : Unit) => hnx3
      clear hnx hnx3 hm' h8' cs cf ca cm hwk
      generalize a.leads ++ pick holes (sb l w l.length) = p at *
      have hlv : (ldsV p).length = q := by rw [ldsV_length, hq]
      have hlt2 : (ldsV p).take q = ldsV p := List.take_of_length_le (by rw [hlv]; exact Nat.le_refl _)
      have hne : ∀ (a c d : Nat), (a + c = a + d) = (c = d) := fun a c d => by simp
      have hn0 : ∀ (a d : Nat), (a = a + d) = (0 = d) := fun a d => by rw [eq_iff_iff]; omega
      simp only [tiS, tiE, actT, winT, hq]
      simp only [List.map_cons, List.map_nil, TB.inst, TV.inst, tv_map, zipT, List.cons_append, List.nil_append, Nat.add_zero]
      refine WA_fzM (j := 3) rfl ?_
      simp only [List.map_cons, List.map_nil, List.set_cons_succ, List.set_cons_zero, frzC, hpz]
      simp (decide := true) only [List.map_cons, List.map_nil, List.map_append, frzV, frzC, List.set_cons_succ, List.set_cons_zero, hne, hn0, Nat.reduceEqDiff, false_and, true_and, if_false, if_true, hlv, Nat.le_refl, hlt2]
      clear hne hn0
      (have FX := And.intro hll hnl; repeat' (first | (refine sx ?_ ?_ <;> intro h <;> first | (exfalso; omega) | skip) | (refine g_op ?_; refine g_call ?_; refine g_args ?_; (first | refine s_fn (rwhole_c _ _) ?_ | refine s_fn (hfj _) ?_) <;> try first | omega | assumption) | refine ny ?_ | refine WA_block ?_ | (refine uH21_3_5 ?_; refine ⟨by kernel_rfl, ?_⟩) | (refine uH21_3_17 ?_; refine ⟨by kernel_rfl, ?_⟩) | (refine uH21_3_20 ?_; refine ⟨by kernel_rfl, ?_⟩) | (refine uH21_3_21 ?_; refine ⟨by kernel_rfl, ?_⟩) | ((first | refine grp_cons (fun _ => rwhole_c _ _) ?_ | refine grp_cons (fun _ => hfj _) ?_) <;> try first | omega | assumption) | (refine g_d ?_; refine d_args ?_; (first | refine d_fn (rwhole_c _ _) ?_ | refine d_fn (hfj _) ?_ | refine d_fnQ (fun _ => rwhole_c _ _) ?_ | refine d_fnQ (fun _ => hfj _) ?_) <;> try first | omega | assumption) | (refine g_d ?_; (first | refine d_fnY (rwhole_c _ _) ?_ | refine d_fnY (hfj _) ?_) <;> try first | omega | assumption)))
      all_goals (try (exfalso; omega))
      all_goals ((refine nextU_ hny3 (()) [0, 1] (by omega) (by omega) ?_ (ht := ?_); (focus (simp only [twE, actT, winT, List.map_cons, List.map_nil, TB.inst, TV.inst, tv_map, List.cons_append, List.nil_append]; first | rfl | (simp [ptsV, ptV]; done) | (simp [hpsV, hpV]; done) | (simp [frsV, frV]; done) | (simp [txV]; done) | (simp [prtsV, prtV]; done))); (simp only [twS, List.length_cons, List.map_cons, List.map_nil, TV.inst, List.getD_cons_zero, List.getD_cons_succ]; exact tv_)))
end Go.Proofs.YtihbeoplchiikaaDoor
