/- contracts: refusals, of the reference -/
import Derived.Test.YtaoakololkcepaaB69
import Derived.Test.YtaoakololkcepaaYN
import Derived.Test.YtaoakololkcepaaB26
set_option linter.unusedSimpArgs false
set_option linter.unusedVariables false
namespace Go.Proofs.Ytaoakololkcepaa
open Go.RowKit
section
variable {P : Program} {N : Nat} {ops : Array Oper} {kd : Nat → Kd} {LL : Lim} {is : List El} {t : List (Nat × V)} {m : Mem} {Q : List (Nat × V) → Mem → Prop} {f : Operand} {l : List Operand} {ts : Array TypeId} {ty : TypeId} {pos : String} {af : Array Edge} {vs : List V} {i d : Nat} {g : FuncId}
/-- a call that hands over what it has made, as a step of a group -/
theorem wg_fnH {R : List (Nat × V) → Mem → Prop} {n T sz : Nat} {es : List (List V)} {v1 : V} {m1 : Mem} (hc : ∀ m, CallA P g vs m fun v mo => v = .sl (m.length + 1) n ∧ mo = some (m ++ [.dead, .cells .own T sz es])) (hes : es.all detL = true)
    (h : R ((d, v1) :: t) m1) (hv : V.sl m.length n = v1 := by first | (simp only [ml, List.length_cons, List.length_nil, Nat.add_assoc, Nat.reduceAdd, Nat.zero_add] <;> with_reducible exact rfl) | exact ev_ | fail) (hm : m ++ [.cells .own T sz es] = m1 := by first | exact ev_ | fail) (hi : ops[i]? = some ⟨some d, .call ⟨.value (.func g), l.toArray, ts⟩, ty, pos, af, none⟩ := by first | exact rfl | fail) (hd : dOkB N (some d) = true := by first | exact rfl | fail) (ha : l.map (evO t) = vs := by first | exact lk_ | fail) (hk : kd i = .a := by first | exact rfl | fail) : WGo P N ops kd LL i t m R := by
  subst ha; subst hv; subst hm
  refine ⟨_, hi, dOk_b hd, ?_⟩
  have hf : evO t (.func g) = .clo (.func g) [] [] := rfl
  simp only [hf, hk]
  refine .inr ⟨n, T, sz, es, [.dead], hes, ?_, h⟩
  have hlm : (lend m).length = m.length := by simp [lend]
  have hc := hc (lend m)
  rw [hlm] at hc
  simpa using hc
/-- a call of a function value that may change all there is, the last one of a region that draws its order -/
theorem d_dynA {cs : List V} {R : V → Option Mem → Prop} (hc : CallA P g vs m R) (h : ∀ v mo, R v mo → WDs P N ops kd LL is ((d, v) :: t) (mo.getD m) Q) (hi : ops[i]? = some ⟨some d, .call ⟨.value f, l.toArray, ts⟩, ty, pos, af, none⟩ := by first | exact rfl | fail) (hd : dOkB N (some d) = true := by first | exact rfl | fail)
    (hf : evO t f = .clo (.func g) [] cs := by first | exact lk_ | fail) (ha : l.map (evO t) ++ cs = vs := by first | exact ev_ | fail) (hk : kd i = .w := by first | exact rfl | fail) : DG P N ops kd LL i is t m Q := by
  subst ha
  unfold DG WDs
  simp only [hi]
  refine ⟨dOk_b hd, ?_⟩
  simp only [hf, hk]
  have hc : CallA P g ([] ++ l.toArray.toList.map (evO t) ++ cs) m R := by simpa using hc
  exact hc.mono fun v mo hr => h v mo hr
/-- a call that may change all there is, the last one of a region that draws its order -/
theorem d_fnAw {R : V → Option Mem → Prop} (hc : CallA P g vs m R) (h : ∀ v mo, R v mo → WDs P N ops kd LL is ((d, v) :: t) (mo.getD m) Q) (hk : kd i = .w) : DArgG P N ops kd LL i is t m Q d g vs := by
  intro l ts ty pos af hd hi ha
  subst ha
  unfold WDs
  simp only [hi]
  refine ⟨hd, ?_⟩
  have hf : evO t (.func g) = .clo (.func g) [] [] := rfl
  simp only [hf, hk]
  have hc : CallA P g ([] ++ l.toArray.toList.map (evO t) ++ []) m R := by simpa using hc
  exact hc.mono fun v mo hr => h v mo hr
/-- .. to which a whole slice of the call's own is lent; the slice is read alone from then on -/
theorem d_fzE {B X m' : Mem} {n : Nat} {st : Sta} {ty sz : Nat} {es : List (List V)} {vs' : List V} {v : V} (j p : Nat) (hc : Gives P g vs' m' v) (h : WDs P N ops kd LL is ((d, v) :: t) m' Q) (hn : es.length = n := by first | assumption | fail) (hm : m = B ++ X := by first | exact rfl | fail) (hX : X[j]? = some (.cells st ty sz es) := by first | exact rfl | fail)
    (hp : vs[p]? = some (.sl (B.length + j) n) := by first | exact rfl | fail) (hvs : vs.set p (.lst es) = vs' := by first | exact rfl | fail) (hm' : B ++ X.set j (.cells .ro ty sz es) = m' := by first | exact rfl | fail) (hk : kd i = .w := by first | exact rfl | fail) : DArgG P N ops kd LL i is t m Q d g vs := by
  subst hm; subst hvs; subst hm'; subst hn
  refine d_fnAw (CallA_fz1 hX hp (Nat.le_refl _) (by rw [List.take_length]; exact hc)) ?_ hk
  rintro v mo ⟨mo0, ⟨rfl, rfl⟩, rfl⟩
  exact h
end
theorem nsV_det (l : List Int) : (nsV l).all detL = true := by
  rw [List.all_eq_true]
  intro e he
  obtain ⟨n, _, rfl⟩ := List.mem_map.1 he
  rfl
def rJ (b : BnR) (k : Nat) (p : List Int) (more : Int) : Nat → List Int × Bool
  | 0 => ([], false)
  | r + 1 => if (rfO b k (p ++ [2 - ((r + 1 : Nat) : Int)]) (more - ((2 - ((r + 1 : Nat) : Int)).natAbs : Int))).2 = true then rfO b k (p ++ [2 - ((r + 1 : Nat) : Int)]) (more - ((2 - ((r + 1 : Nat) : Int)).natAbs : Int)) else rJ b k p more r
theorem rfO_succ (b : BnR) (k : Nat) (p : List Int) (more : Int) : rfO b (k + 1) p more = if more < 0 ∨ (k + 1 : Int) < more then ([], false) else rJ b k p more 3 := by
  have e1 : more - ((2 - ((2 + 1 : Nat) : Int)).natAbs : Int) = more - 1 := rfl
  have e2 : more - ((2 - ((1 + 1 : Nat) : Int)).natAbs : Int) = more := Int.sub_zero more
  have e3 : more - ((2 - ((0 + 1 : Nat) : Int)).natAbs : Int) = more - 1 := rfl
  simp only [rJ, e1, e2, e3]
  rfl
theorem wOk_one {p : List Int} (h : ∀ x ∈ p, -1 ≤ x ∧ x ≤ 1) : wOk p := fun k => by
  rcases Nat.lt_or_ge k p.length with hk | hk
  · have := h (p.getD k 0) (by rw [List.getD_eq_getElem?_getD, List.getElem?_eq_getElem hk]; exact List.getElem_mem hk)
    omega
  · rw [List.getD_eq_getElem?_getD, List.getElem?_eq_none hk]; decide
theorem fin_tpb {m0 D : Mem} {es : List (List V)} {c : Bool} {R : V → Option Mem → Prop} (h : plainLL es = true) (hR : R (.tup [.lst es, .bool c]) none) : Fin m0 R (.tup [.lst es, .bool c]) (lend m0 ++ D) := by
  refine .inr ⟨D, _, rfl, ?_, hR⟩
  show (frzs (frz _ _ 3) [_, _]).map V.tup = _
  rw [frzs_cons (frz_ls h) (frzs_cons (frz_bool _ _ _ _) rfl)]
  rfl
attribute [local irreducible] WA WOs WDs WAn qThen qBlock tput
set_option maxHeartbeats 1000000
set_option maxRecDepth 20000
set_option linter.unusedSimpArgs false
set_option linter.unusedVariables false
set_option maxHeartbeats 8000000
theorem uB70_93_9 {N : Nat} {l : List Oper} {t : List (Nat × V)} {m : Mem} {Q : Exit → List (Nat × V) → Mem → Prop} (h : RgN Try.prog N l t m Q (fun i => if i == 10 then .w else if i == 5 then .f else if i == 2 || i == 4 || i == 8 then .a else if i == 0 then .q else .p) [.one 0, .one 1, .one 3, .one 6, .one 7, .grp false [2] [4], .one 5, .one 8, .one 9, .one 10, .one 11, .one 12, .one 13, .one 14, .one 15]) : WA Try.prog N (.region 9 l.toArray true) t m Q := d_rgN h
theorem rrefusal_c (b : BnR) (hb : Bnd b) (hef : ∀ k, k < b.ads.length → (b.ads.getD k adz).effs.length ≤ 1000) : ∀ (k : Nat) (p : List Int) (more : Int), p.length + k = b.ms.length → (∀ x ∈ p, -1 ≤ x ∧ x ≤ 1) → (-1000 ≤ more ∧ more ≤ 1000) → ∀ m, Gives Try.prog 93 [.agg [.lst (mssV b.ms), .lst (adsV b.ads)], .lst (nsV p), .int .i64 more] m (.tup [.lst (nsV (rfO b k p more).1), .bool (rfO b k p more).2]) := by
  intro k
  induction k with
  | zero =>
    intro p more hpk hp1 hmo m
    have hlm := mssV_length (l := b.ms)
    have hlp := nsV_length (l := p)
    have hfm := hb.fm
    have hpr := fun m => rproves_c b hb hef p (by omega) (wOk_one hp1) m
    have hih := hlm
    suffices key : CallA Try.prog 93 [.agg [.lst (mssV b.ms), .lst (adsV b.ads)], .lst (nsV p), .int .i64 more] m (fun v mo => mo = none ∧ WkV v (.tup [.lst (nsV (rfO b 0 p more).1), .bool (rfO b 0 p more).2])) from Gives_of key fun v mo h => h
    refine CallA_in Try.func93 rfl Try.ntmps93 Try.results93 (by kernel_rfl) (by simp) fun Q hQ => ?_
    unfold rfO at hQ
    by_cases h0 : more < 0 ∨ 0 < more
    · rw [if_pos h0] at hQ
      (have FX := And.intro hlm hlp; repeat' (first | (refine sx ?_ ?_ <;> intro h <;> first | (exfalso; omega) | skip) | (refine g_op ?_; refine g_call ?_; refine g_args ?_; (first | refine s_fn (hpr _) ?_ | refine s_fn (babs_c _ (by omega) (by omega) _) ?_) <;> try first | omega | assumption) | refine ny ?_ | refine WA_block ?_ | (refine uB70_93_9 ?_; refine ⟨by kernel_rfl, ?_⟩) | ((first | refine grp_cons (fun _ => hpr _) ?_ | refine grp_cons (fun _ => babs_c _ (by omega) (by omega) _) ?_) <;> try first | omega | assumption) | (refine g_d ?_; refine d_args ?_; (first | refine d_fn (hpr _) ?_ | refine d_fn (babs_c _ (by omega) (by omega) _) ?_ | refine d_fnQ (fun _ => hpr _) ?_ | refine d_fnQ (fun _ => babs_c _ (by omega) (by omega) _) ?_) <;> try first | omega | assumption) | (refine g_d ?_; (first | refine d_fnY (hpr _) ?_ | refine d_fnY (babs_c _ (by omega) (by omega) _) ?_) <;> try first | omega | assumption)))
      all_goals (try (exfalso; omega))
      all_goals (refine r_esA hQ (.inl ⟨rfl, rfl, ?_⟩))
      all_goals (exact wk_tup ⟨wk_nil, WkV.refl _, trivial⟩)
    · rw [if_neg h0] at hQ
      generalize prvB b p = pv at *
      (have FX := And.intro hlm hlp; repeat' (first | (refine sx ?_ ?_ <;> intro h <;> first | (exfalso; omega) | skip) | (refine g_op ?_; refine g_call ?_; refine g_args ?_; (first | refine s_fn (hpr _) ?_ | refine s_fn (babs_c _ (by omega) (by omega) _) ?_) <;> try first | omega | assumption) | refine ny ?_ | refine WA_block ?_ | (refine uB70_93_9 ?_; refine ⟨by kernel_rfl, ?_⟩) | ((first | refine grp_cons (fun _ => hpr _) ?_ | refine grp_cons (fun _ => babs_c _ (by omega) (by omega) _) ?_) <;> try first | omega | assumption) | (refine g_d ?_; refine d_args ?_; (first | refine d_fn (hpr _) ?_ | refine d_fn (babs_c _ (by omega) (by omega) _) ?_ | refine d_fnQ (fun _ => hpr _) ?_ | refine d_fnQ (fun _ => babs_c _ (by omega) (by omega) _) ?_) <;> try first | omega | assumption) | (refine g_d ?_; (first | refine d_fnY (hpr _) ?_ | refine d_fnY (babs_c _ (by omega) (by omega) _) ?_) <;> try first | omega | assumption)))
      all_goals (try (exfalso; omega))
      all_goals (refine r_esA hQ (fin_tpb (nsV_plain _) ⟨rfl, WkV.refl _⟩))
  | succ k ih =>
    intro p more hpk hp1 hmo m
    have hlm := mssV_length (l := b.ms)
    have hlp := nsV_length (l := p)
    have hfm := hb.fm
    have hpr := hlm
    have hih := hlm
    have hsc := rfO_succ b k p more
    suffices key : CallA Try.prog 93 [.agg [.lst (mssV b.ms), .lst (adsV b.ads)], .lst (nsV p), .int .i64 more] m (fun v mo => mo = none ∧ WkV v (.tup [.lst (nsV (rfO b (k + 1) p more).1), .bool (rfO b (k + 1) p more).2])) from Gives_of key fun v mo h => h
    refine CallA_in Try.func93 rfl Try.ntmps93 Try.results93 (by kernel_rfl) (by simp) fun Q hQ => ?_
    generalize rfO b (k + 1) p more = RR at *
    by_cases h0 : more < 0 ∨ (k + 1 : Int) < more
    · rw [if_pos h0] at hsc
      subst hsc
      (have FX := And.intro hlm hlp; repeat' (first | (refine sx ?_ ?_ <;> intro h <;> first | (exfalso; omega) | skip) | (refine g_op ?_; refine g_call ?_; refine g_args ?_; (first | refine s_fn (hpr _) ?_ | refine s_fn (babs_c _ (by omega) (by omega) _) ?_) <;> try first | omega | assumption) | refine ny ?_ | refine WA_block ?_ | (refine uB70_93_9 ?_; refine ⟨by kernel_rfl, ?_⟩) | ((first | refine grp_cons (fun _ => hpr _) ?_ | refine grp_cons (fun _ => babs_c _ (by omega) (by omega) _) ?_) <;> try first | omega | assumption) | (refine g_d ?_; refine d_args ?_; (first | refine d_fn (hpr _) ?_ | refine d_fn (babs_c _ (by omega) (by omega) _) ?_ | refine d_fnQ (fun _ => hpr _) ?_ | refine d_fnQ (fun _ => babs_c _ (by omega) (by omega) _) ?_) <;> try first | omega | assumption) | (refine g_d ?_; (first | refine d_fnY (hpr _) ?_ | refine d_fnY (babs_c _ (by omega) (by omega) _) ?_) <;> try first | omega | assumption)))
      all_goals (try (exfalso; omega))
      all_goals (refine r_esA hQ (.inl ⟨rfl, rfl, ?_⟩))
      all_goals (exact wk_tup ⟨wk_nil, WkV.refl _, trivial⟩)
    · rw [if_neg h0] at hsc
      (have FX := And.intro hlm hlp; repeat' (first | (refine sx ?_ ?_ <;> intro h <;> first | (exfalso; omega) | skip) | (refine g_op ?_; refine g_call ?_; refine g_args ?_; (first | refine s_fn (hpr _) ?_ | refine s_fn (babs_c _ (by omega) (by omega) _) ?_) <;> try first | omega | assumption) | refine ny ?_ | refine WA_block ?_ | (refine uB70_93_9 ?_; refine ⟨by kernel_rfl, ?_⟩) | ((first | refine grp_cons (fun _ => hpr _) ?_ | refine grp_cons (fun _ => babs_c _ (by omega) (by omega) _) ?_) <;> try first | omega | assumption) | (refine g_d ?_; refine d_args ?_; (first | refine d_fn (hpr _) ?_ | refine d_fn (babs_c _ (by omega) (by omega) _) ?_ | refine d_fnQ (fun _ => hpr _) ?_ | refine d_fnQ (fun _ => babs_c _ (by omega) (by omega) _) ?_) <;> try first | omega | assumption) | (refine g_d ?_; (first | refine d_fnY (hpr _) ?_ | refine d_fnY (babs_c _ (by omega) (by omega) _) ?_) <;> try first | omega | assumption)))
      all_goals (try (exfalso; omega))
      refine WA_whileK (σ := Nat) (L := m) [1, 2, 3, 9] (fun r => [.lst (nsV p), .int .i64 more, .ptr (lend m).length 0 0, .int .i64 (2 - (r : Int))]) (fun _ => [.cells .own 25 2 [[.lst (mssV b.ms), .lst (adsV b.ads)]]]) 1 (fun r => r ≤ 3 ∧ RR = rJ b k p more r) (fun r => r) 3 ⟨Nat.le_refl _, hsc⟩ tv_ rfl (fun _ => rfl) (by intro s s' _ _; simp [conB, conS, V.keeps, V.plain, Blk.flat, flatL, plainL, V.flat]) (by intro s s' _ _; simp [conB, conS, V.keeps, V.plain, Blk.flat, flatL, plainL, V.flat]) ?_
      rintro r ⟨hr3, hrj⟩ K hK
      simp only [zipT]
      clear FX hih hsc
      cases r with
      | zero =>
        have hih := hlm
        unfold rJ at hrj
        subst hrj
        (have FX := And.intro hlm hlp; repeat' (first | (refine sx ?_ ?_ <;> intro h <;> first | (exfalso; omega) | skip) | (refine g_op ?_; refine g_call ?_; refine g_args ?_; (first | refine s_fn (hpr _) ?_ | refine s_fn (babs_c _ (by omega) (by omega) _) ?_) <;> try first | omega | assumption) | refine ny ?_ | refine WA_block ?_ | (refine uB70_93_9 ?_; refine ⟨by kernel_rfl, ?_⟩) | ((first | refine grp_cons (fun _ => hpr _) ?_ | refine grp_cons (fun _ => babs_c _ (by omega) (by omega) _) ?_) <;> try first | omega | assumption) | (refine g_d ?_; refine d_args ?_; (first | refine d_fn (hpr _) ?_ | refine d_fn (babs_c _ (by omega) (by omega) _) ?_ | refine d_fnQ (fun _ => hpr _) ?_ | refine d_fnQ (fun _ => babs_c _ (by omega) (by omega) _) ?_) <;> try first | omega | assumption) | (refine g_d ?_; (first | refine d_fnY (hpr _) ?_ | refine d_fnY (babs_c _ (by omega) (by omega) _) ?_) <;> try first | omega | assumption)))
        all_goals (try (exfalso; omega))
        all_goals (refine r_esA hQ (.inl ⟨rfl, rfl, ?_⟩))
        all_goals (exact wk_tup ⟨wk_nil, WkV.refl _, trivial⟩)
      | succ r =>
        unfold rJ at hrj
        obtain ⟨w, hw⟩ : ∃ w : Int, 2 - ((r + 1 : Nat) : Int) = w := ⟨_, rfl⟩
        have hw1 : -1 ≤ w ∧ w ≤ 1 := by omega
        have hwn : 2 - ((r : Nat) : Int) = w + 1 := by omega
        rw [hw] at hrj ⊢
        have hq := ih (p ++ [w]) (more - (w.natAbs : Int)) (by simp; omega) (fun x hx => by
          rcases List.mem_append.1 hx with hx | hx
          · exact hp1 x hx
          · rw [List.mem_singleton.1 hx]; exact hw1) (by omega)
        rw [nsV_snoc] at hq
        clear ih
        have hih := hlm
        generalize rfO b k (p ++ [w]) (more - (w.natAbs : Int)) = R1 at *
        obtain ⟨L1, o1⟩ := R1
        dsimp only at hrj hq
        have htk : (nsV p).take p.length = nsV p := List.take_of_length_le (by rw [hlp]; exact Nat.le_refl _)
        have hlp : (nsV p).length = p.length ∧ (nsV p).take p.length = nsV p := ⟨hlp, htk⟩
        (have FX := And.intro hlm hlp; repeat' first | (first | (refine sx ?_ ?_ <;> intro h <;> first | (exfalso; omega) | skip) | (refine g_op ?_; refine g_call ?_; refine g_args ?_; (first | refine s_fn (hpr _) ?_ | refine s_fn (babs_c _ (by omega) (by omega) _) ?_) <;> try first | omega | assumption) | refine ny ?_ | refine WA_block ?_ | (refine uB70_93_9 ?_; refine ⟨by kernel_rfl, ?_⟩) | ((first | refine grp_cons (fun _ => hpr _) ?_ | refine grp_cons (fun _ => babs_c _ (by omega) (by omega) _) ?_) <;> try first | omega | assumption) | (refine g_d ?_; refine d_args ?_; (first | refine d_fn (hpr _) ?_ | refine d_fn (babs_c _ (by omega) (by omega) _) ?_ | refine d_fnQ (fun _ => hpr _) ?_ | refine d_fnQ (fun _ => babs_c _ (by omega) (by omega) _) ?_) <;> try first | omega | assumption) | (refine g_d ?_; (first | refine d_fnY (hpr _) ?_ | refine d_fnY (babs_c _ (by omega) (by omega) _) ?_) <;> try first | omega | assumption)) | refine d_alt ?_ | refine wg_0 ?_ | refine wg_b ?_ | refine wg_c ?_ ?_ | refine wg_n ?_ | refine wm_cons ?_ ?_ | exact wm_nil | refine wg_op ?_)
        all_goals (try (exfalso; omega))
        all_goals (refine wg_fnH (fun m => bcopyints_o p (by omega) m) (nsV_det _) ?_)
        (have FX := And.intro hlm hlp; repeat' first | (first | (refine sx ?_ ?_ <;> intro h <;> first | (exfalso; omega) | skip) | (refine g_op ?_; refine g_call ?_; refine g_args ?_; (first | refine s_fn (hpr _) ?_ | refine s_fn (babs_c _ (by omega) (by omega) _) ?_) <;> try first | omega | assumption) | refine ny ?_ | refine WA_block ?_ | (refine uB70_93_9 ?_; refine ⟨by kernel_rfl, ?_⟩) | ((first | refine grp_cons (fun _ => hpr _) ?_ | refine grp_cons (fun _ => babs_c _ (by omega) (by omega) _) ?_) <;> try first | omega | assumption) | (refine g_d ?_; refine d_args ?_; (first | refine d_fn (hpr _) ?_ | refine d_fn (babs_c _ (by omega) (by omega) _) ?_ | refine d_fnQ (fun _ => hpr _) ?_ | refine d_fnQ (fun _ => babs_c _ (by omega) (by omega) _) ?_) <;> try first | omega | assumption) | (refine g_d ?_; (first | refine d_fnY (hpr _) ?_ | refine d_fnY (babs_c _ (by omega) (by omega) _) ?_) <;> try first | omega | assumption)) | refine d_alt ?_ | refine wg_0 ?_ | refine wg_b ?_ | refine wg_c ?_ ?_ | refine wg_n ?_ | refine wm_cons ?_ ?_ | exact wm_nil | refine wg_op ?_)
        all_goals (try (exfalso; omega))
        all_goals (refine g_d ?_; refine d_args ?_; refine d_fzE (B := lend m) (es := nsV p ++ [[V.int .i64 w]]) (n := p.length + 1) 3 1 (hq _) ?_ (hn := by rw [List.length_append, nsV_length]; rfl))
        all_goals (clear hpr)
        all_goals (have hpr := hlm)
        all_goals (cases o1)
        all_goals ((have FX := And.intro hlm hlp; repeat' (first | (refine sx ?_ ?_ <;> intro h <;> first | (exfalso; omega) | skip) | (refine g_op ?_; refine g_call ?_; refine g_args ?_; (first | refine s_fn (hpr _) ?_ | refine s_fn (babs_c _ (by omega) (by omega) _) ?_) <;> try first | omega | assumption) | refine ny ?_ | refine WA_block ?_ | (refine uB70_93_9 ?_; refine ⟨by kernel_rfl, ?_⟩) | ((first | refine grp_cons (fun _ => hpr _) ?_ | refine grp_cons (fun _ => babs_c _ (by omega) (by omega) _) ?_) <;> try first | omega | assumption) | (refine g_d ?_; refine d_args ?_; (first | refine d_fn (hpr _) ?_ | refine d_fn (babs_c _ (by omega) (by omega) _) ?_ | refine d_fnQ (fun _ => hpr _) ?_ | refine d_fnQ (fun _ => babs_c _ (by omega) (by omega) _) ?_) <;> try first | omega | assumption) | (refine g_d ?_; (first | refine d_fnY (hpr _) ?_ | refine d_fnY (babs_c _ (by omega) (by omega) _) ?_) <;> try first | omega | assumption))))
        all_goals (try (exfalso; omega))
        all_goals first
          | (rw [if_pos rfl] at hrj
             subst hrj
             refine r_esA hQ (fin_tpb (nsV_plain _) ⟨rfl, WkV.refl _⟩)
             done)
          | (rw [if_neg (by decide)] at hrj
             refine nextL_ hK r ⟨by omega, hrj⟩ (by omega) (ht := by rw [hwn]; exact tv_)
             done)
          | trace_state
theorem Gives_nil1 {P : Program} {f : FuncId} {a c : V} {m : Mem} {v : V} (h : Gives P f [a, .lst [], c] m v) : Gives P f [a, .nilsl, c] m v := by
  refine ⟨h.1, fun w ρ xs hM hA => h.2 w ρ xs hM ⟨by simpa using hA.1, fun i v x h1 h2 => ?_⟩⟩
  have hi : i < 3 := by
    have := (List.getElem?_eq_some_iff.1 h1).1
    simpa using this
  rcases i with _ | _ | _ | i
  · exact hA.2 0 v x h1 h2
  · have h3 := hA.2 1 .nilsl x rfl h2
    simp only [List.getElem?_cons_succ, List.getElem?_cons_zero, Option.some.injEq] at h1
    subst h1
    cases h3
    exact .lnil none 0 (by unfold maxLen; omega) (fun _ => rfl)
  · exact hA.2 2 v x h1 h2
  · omega
def reW (b : BnR) : Option (List Int) := refN b b.ms.length (b.ms.length + 1) 0
def reV (b : BnR) : V := match reW b with
  | some w => .tup [.lst (nsV w), .bool true]
  | none => .tup [.lst [], .bool false]

theorem rRefusal_c (b : BnR) (hb : Bnd b) (hef : ∀ k, k < b.ads.length → (b.ads.getD k adz).effs.length ≤ 1000) (m : Mem) : Gives Try.prog 44 [.agg [.lst (mssV b.ms), .lst (adsV b.ads)]] m (reV b) := by
  have hlm := mssV_length (l := b.ms)
  have hfm := hb.fm
  have hrf := hlm
  suffices key : CallA Try.prog 44 [.agg [.lst (mssV b.ms), .lst (adsV b.ads)]] m (fun v mo => mo = none ∧ WkV v (reV b)) from Gives_of key fun v mo h => h
  refine CallA_in Try.func44 rfl Try.ntmps44 Try.results44 (by kernel_rfl) (by simp) fun Q hQ => ?_
  unfold reV at hQ
  generalize hRW : reW b = RW at *
  (have FX := hlm; repeat' (first | (refine sx ?_ ?_ <;> intro h <;> first | (exfalso; omega) | skip) | (refine g_op ?_; refine g_call ?_; refine g_args ?_; (first | refine s_fn (hrf _) ?_) <;> try first | omega | assumption) | refine ny ?_ | refine WA_block ?_))
  refine WA_whileK (σ := Nat) (L := m) [1, 4] (fun n => [.ptr (lend m).length 0 0, .int .i64 n]) (fun _ => [.cells .own 25 2 [[.lst (mssV b.ms), .lst (adsV b.ads)]]]) 1 (fun n => n ≤ b.ms.length + 1 ∧ RW = refN b b.ms.length (b.ms.length + 1 - n) n) (fun n => b.ms.length + 1 - n) 0 ⟨Nat.zero_le _, hRW.symm⟩ tv_ rfl (fun _ => rfl) (by intro s s' _ _; simp [conB, conS, V.keeps, V.plain, Blk.flat, flatL, plainL, V.flat]) (by intro s s' _ _; simp [conB, conS, V.keeps, V.plain, Blk.flat, flatL, plainL, V.flat]) ?_
  rintro n ⟨hn1, hn2⟩ K hK
  simp only [zipT]
  clear FX hrf
  rcases Nat.lt_or_ge b.ms.length n with hn | hn
  · have hrf := hlm
    rw [show b.ms.length + 1 - n = 0 by omega] at hn2
    unfold refN at hn2
    subst hn2
    dsimp only at hQ
    (have FX := hlm; repeat' (first | (refine sx ?_ ?_ <;> intro h <;> first | (exfalso; omega) | skip) | (refine g_op ?_; refine g_call ?_; refine g_args ?_; (first | refine s_fn (hrf _) ?_) <;> try first | omega | assumption) | refine ny ?_ | refine WA_block ?_))
    all_goals (try (exfalso; omega))
    all_goals (refine r_esA hQ (.inl ⟨rfl, rfl, ?_⟩))
    all_goals (exact wk_tup ⟨wk_nil, WkV.refl _, trivial⟩)
  · have hrf := fun m => Gives_nil1 (rrefusal_c b hb hef b.ms.length [] n (by simp) (fun x hx => by cases hx) (by omega) m)
    rw [show b.ms.length + 1 - n = (b.ms.length - n) + 1 by omega] at hn2
    unfold refN at hn2
    generalize rfO b b.ms.length [] n = R1 at *
    obtain ⟨L1, o1⟩ := R1
    cases o1 with
    | true =>
      rw [if_pos rfl] at hn2
      subst hn2
      dsimp only at hQ hrf
      (have FX := hlm; repeat' (first | (refine sx ?_ ?_ <;> intro h <;> first | (exfalso; omega) | skip) | (refine g_op ?_; refine g_call ?_; refine g_args ?_; (first | refine s_fn (hrf _) ?_) <;> try first | omega | assumption) | refine ny ?_ | refine WA_block ?_))
      all_goals (try (exfalso; omega))
      all_goals (refine r_esA hQ (fin_tpb (nsV_plain _) ⟨rfl, WkV.refl _⟩))
    | false =>
      simp only [Bool.false_eq_true, if_false] at hn2
      dsimp only at hrf
      (have FX := hlm; repeat' (first | (refine sx ?_ ?_ <;> intro h <;> first | (exfalso; omega) | skip) | (refine g_op ?_; refine g_call ?_; refine g_args ?_; (first | refine s_fn (hrf _) ?_) <;> try first | omega | assumption) | refine ny ?_ | refine WA_block ?_))
      all_goals (try (exfalso; omega))
      all_goals (refine nextL_ hK (n + 1) ⟨by omega, by rw [hn2]; congr 1; omega⟩ (by omega))
end Go.Proofs.Ytaoakololkcepaa
