/- contracts: the reference's search for leads -/
import Derived.Test.YtihbeoplchiikaaGreatDoorC62
import Derived.Test.YtihbeoplchiikaaGreatDoorYE
set_option linter.unusedSimpArgs false
set_option linter.unusedVariables false
namespace Go.Proofs.YtihbeoplchiikaaGreatDoor
open Go.RowKit
section
variable {P : Program} {N : Nat} {ops : Array Oper} {kd : Nat → Kd} {LL : Lim} {is : List El} {t : List (Nat × V)} {m : Mem} {Q : List (Nat × V) → Mem → Prop} {f : Operand} {l : List Operand} {ts : Array TypeId} {ty : TypeId} {pos : String} {af : Array Edge} {vs : List V} {i d : Nat} {g : FuncId}
/-- a call that may change all there is, the last one of a region that draws its order -/
theorem d_fnAw {R : V → Option Mem → Prop} (hc : CallA P g vs m R) (h : ∀ v mo, R v mo → WDs P N ops kd LL is ((d, v) :: t) (mo.getD m) Q) (hk : kd i = .w) : DArgG P N ops kd LL i is t m Q d g vs := by
  intro l ts ty pos af hd hi ha
  subst ha
  unfold WDs
  simp only [hi]
  refine ⟨hd, ?_⟩
  have hf : evO t (.func g) = .clo (.func g) [] [] := rfl
  simp only [hf, hk]
  have hc : CallA P g ([] ++ l.toArray.toList.map (evO t) ++ []) m R := by simpa using hc
  exact hc.mono fun v mo hr => h v mo hr
/-- .. to which a whole slice of the call's own is lent; the slice is read alone from then on -/
theorem d_fzE {B X m' : Mem} {n : Nat} {st : Sta} {ty sz : Nat} {es : List (List V)} {vs' : List V} {v : V} (j p : Nat) (hc : Gives P g vs' m' v) (h : WDs P N ops kd LL is ((d, v) :: t) m' Q) (hn : es.length = n := by first | assumption | fail) (hm : m = B ++ X := by first | exact rfl | fail) (hX : X[j]? = some (.cells st ty sz es) := by first | exact rfl | fail)
    (hp : vs[p]? = some (.sl (B.length + j) n) := by first | exact rfl | fail) (hvs : vs.set p (.lst es) = vs' := by first | exact rfl | fail) (hm' : B ++ X.set j (.cells .ro ty sz es) = m' := by first | exact rfl | fail) (hk : kd i = .w := by first | exact rfl | fail) : DArgG P N ops kd LL i is t m Q d g vs := by
  subst hm; subst hvs; subst hm'; subst hn
  refine d_fnAw (CallA_fz1 hX hp (Nat.le_refl _) (by rw [List.take_length]; exact hc)) ?_ hk
  rintro v mo ⟨mo0, ⟨rfl, rfl⟩, rfl⟩
  exact h
end
theorem fin_tpb {m0 D : Mem} {l : List Nat} {c : Bool} {R : V → Option Mem → Prop} (hR : R (.tup [.lst (nlV l), .bool c]) none) : Fin m0 R (.tup [.lst (nlV l), .bool c]) (lend m0 ++ D) := by
  have h := nlV_plain l
  have hl : V.plain (.lst (nlV l)) = true := by simpa [V.plain] using h
  exact .inr ⟨D, _, rfl, by simp [frz, frzs, h, V.plain], hR⟩
attribute [local irreducible] WA WOs WDs WAn qThen qBlock tput
set_option maxHeartbeats 1000000
set_option maxRecDepth 20000
set_option linter.unusedSimpArgs false
set_option linter.unusedVariables false
set_option maxHeartbeats 8000000
attribute [local irreducible] smB cut sm
theorem uC63_38_9 {N : Nat} {l : List Oper} {t : List (Nat × V)} {m : Mem} {Q : Exit → List (Nat × V) → Mem → Prop} (h : RgN Tryz.prog N l t m Q (fun i => if i == 11 then .w else if i == 4 || i == 7 then .f else if i == 2 || i == 6 then .a else if i == 0 || i == 10 then .q else .p) [.one 0, .one 1, .one 3, .one 5, .one 8, .one 9, .one 10, .grp false [4, 7] [2, 6], .one 11, .one 12, .one 13, .one 14, .one 15, .one 16]) : WA Tryz.prog N (.region 9 l.toArray true) t m Q := d_rgN h
theorem rchoose_c (a : ActR) (ha : Lt a) (h : acErr a = 0) (holes : List (Int × Int)) (hh : ldsErr holes = 0) (hhl : holes.length ≤ 8) (dn up : Int) (hw : winErr dn up = 0) : ∀ (k : Nat) (set : List Nat), (∀ i ∈ set, i < holes.length) → set.length + k ≤ 100 → ∀ m, Gives Tryz.prog 38 [.agg (actV a), .lst (ldsV holes), .lst (nlV set), .int .i64 k, .agg [.int .i64 dn, .int .i64 up]] m (.tup [.lst (nlV (chO (accB a holes dn up) holes.length k set).1), .bool (chO (accB a holes dn up) holes.length k set).2]) := by
  intro k
  induction k with
  | zero =>
    intro set hs hsl m
    have hls := nlV_length (l := set)
    have hac := fun m => raccepted_c a ha h holes hh set hs (by omega) dn up hw m
    have hih := hls
    have hg := hls
    have hfz := hls
    have hti := hls
    unfold actV at hac ⊢
    unfold chO
    dsimp only
    suffices key : CallA Tryz.prog 38 [.agg [.int .i64 a.dip, .lst (prtsV a.parts), .lst (evsV a.evs), .lst (ldsV a.leads)], .lst (ldsV holes), .lst (nlV set), .int .i64 ((0 : Nat) : Int), .agg [.int .i64 dn, .int .i64 up]] m (fun v mo => mo = none ∧ WkV v (.tup [.lst (nlV set), .bool (accB a holes dn up set)])) from Gives_of key fun v mo h => h
    refine CallA_in Tryz.func38 rfl Tryz.ntmps38 Tryz.results38 (by kernel_rfl) (by simp) fun Q hQ => ?_
    (have FX := And.intro hls (And.intro hg (And.intro hfz hti)); repeat' (first | (refine sx ?_ ?_ <;> intro h <;> first | (exfalso; omega) | skip) | (refine g_op ?_; refine g_call ?_; refine g_args ?_; (first | refine s_fn (hac _) ?_ | refine s_fn (hih _) ?_) <;> try first | omega | assumption) | refine ny ?_ | refine WA_block ?_ | (refine uC63_38_9 ?_; refine ⟨by kernel_rfl, ?_⟩) | ((first | refine grp_cons (fun _ => hac _) ?_ | refine grp_cons (fun _ => hih _) ?_) <;> try first | omega | assumption) | (refine g_d ?_; refine d_args ?_; (first | refine d_fn (hac _) ?_ | refine d_fn (hih _) ?_ | refine d_fnQ (fun _ => hac _) ?_ | refine d_fnQ (fun _ => hih _) ?_) <;> try first | omega | assumption) | (refine g_d ?_; (first | refine d_fnY (hac _) ?_ | refine d_fnY (hih _) ?_) <;> try first | omega | assumption)))
    all_goals (try (exfalso; omega))
    all_goals (refine r_esA hQ (fin_tpb ⟨rfl, WkV.refl _⟩))
  | succ k ih =>
    intro set hs hsl m
    have hls := nlV_length (l := set)
    have hll := ldsV_length (l := holes)
    have hac := hls
    have hih := hls
    have hfl := frm_le hs
    have hchO : chO (accB a holes dn up) holes.length (k + 1) set = chJ (fun i => chO (accB a holes dn up) holes.length k (set ++ [i])) holes.length (holes.length - frm set) := rfl
    suffices key : CallA Tryz.prog 38 [.agg (actV a), .lst (ldsV holes), .lst (nlV set), .int .i64 ((k + 1 : Nat) : Int), .agg [.int .i64 dn, .int .i64 up]] m (fun v mo => mo = none ∧ WkV v (.tup [.lst (nlV (chO (accB a holes dn up) holes.length (k + 1) set).1), .bool (chO (accB a holes dn up) holes.length (k + 1) set).2])) from Gives_of key fun v mo h => ⟨h.1, h.2⟩
    refine CallA_in Tryz.func38 rfl Tryz.ntmps38 Tryz.results38 (by kernel_rfl) (by simp) fun Q hQ => ?_
    generalize hRR : chO (accB a holes dn up) holes.length (k + 1) set = RR at *
    have hfr : (set.length = 0 ∧ frm set = 0 ∧ (nlV set)[set.length - 1]? = (nlV set)[set.length - 1]?) ∨ (0 < set.length ∧ frm set = set.getD (set.length - 1) 0 + 1 ∧ (nlV set)[set.length - 1]? = some [V.int .i64 ((set.getD (set.length - 1) 0 : Nat) : Int)]) := by
      rcases Nat.eq_zero_or_pos set.length with h0 | h0
      · left
        rw [List.length_eq_zero_iff.1 h0]
        exact ⟨rfl, rfl, rfl⟩
      · exact .inr ⟨h0, frm_last (List.length_pos_iff.1 h0), nlV_get (by omega)⟩
    have hsl' : ∀ i, i < holes.length → holes.length - frm set ≤ holes.length := fun i _ => Nat.sub_le _ _
    generalize hfv : frm set = fr at *
    have hfz := hls
    have hti : ((set.length : Int) - 1).toNat = set.length - 1 := by omega
    unfold actV at *
    rcases hfr with ⟨h0, hf0, hg⟩ | ⟨h0, hf0, hg⟩
    all_goals (have FX := And.intro hls (And.intro hg (And.intro hfz hti)); repeat' (first | (refine sx ?_ ?_ <;> intro h <;> first | (exfalso; omega) | skip) | (refine g_op ?_; refine g_call ?_; refine g_args ?_; (first | refine s_fn (hac _) ?_ | refine s_fn (hih _) ?_) <;> try first | omega | assumption) | refine ny ?_ | refine WA_block ?_ | (refine uC63_38_9 ?_; refine ⟨by kernel_rfl, ?_⟩) | ((first | refine grp_cons (fun _ => hac _) ?_ | refine grp_cons (fun _ => hih _) ?_) <;> try first | omega | assumption) | (refine g_d ?_; refine d_args ?_; (first | refine d_fn (hac _) ?_ | refine d_fn (hih _) ?_ | refine d_fnQ (fun _ => hac _) ?_ | refine d_fnQ (fun _ => hih _) ?_) <;> try first | omega | assumption) | (refine g_d ?_; (first | refine d_fnY (hac _) ?_ | refine d_fnY (hih _) ?_) <;> try first | omega | assumption)))
    all_goals (try (exfalso; omega))
    all_goals refine WA_whileK (σ := Nat) (L := m) [1, 2, 3, 5, 9, 13] (fun i => [.lst (ldsV holes), .lst (nlV set), .int .i64 ((k + 1 : Nat) : Int), .ptr (lend m).length 0 0, .ptr ((lend m).length + 1) 0 0, .int .i64 i]) (fun _ => [.cells .own 26 4 [[.int .i64 a.dip, .lst (prtsV a.parts), .lst (evsV a.evs), .lst (ldsV a.leads)]], .cells .own 28 2 [[.int .i64 dn, .int .i64 up]]]) 2 (fun i => fr ≤ i ∧ i ≤ holes.length ∧ RR = chJ (fun i => chO (accB a holes dn up) holes.length k (set ++ [i])) holes.length (holes.length - i)) (fun i => holes.length - i) fr ⟨Nat.le_refl _, hfl, hchO⟩ ?_ rfl (fun _ => rfl) (by intro s s' _ _; simp [conB, conS, V.keeps, V.plain, Blk.flat, flatL, plainL, V.flat]) (by intro s s' _ _; simp [conB, conS, V.keeps, V.plain, Blk.flat, flatL, plainL, V.flat]) ?_
    all_goals first
      | (rw [hf0]; exact tv_)
      | skip
    all_goals (try exact tv_)
    all_goals
      rintro i ⟨hi1, hi2, hi3⟩ K hK
      simp only [zipT]
      clear FX hg hfz hti hac hih hchO hsl' hf0 h0
      have hg := hls
      have hti := hls
      have hac := hls
      have hal : ∀ n, n = 1 → (nlV set).all (fun e => e.length == n) = true := fun n hn => by subst hn; simp [nlV]
      have htk : (nlV set).take set.length = nlV set := List.take_of_length_le (by rw [hls]; exact Nat.le_refl _)
      have hfz : (∀ n, n = 1 → (nlV set).all (fun e => e.length == n) = true) ∧ (nlV set).take set.length = nlV set ∧ (ldsV holes).length = holes.length := ⟨hal, htk, hll⟩
      rcases Nat.lt_or_ge i holes.length with hlt | hge
      · have hq := ih (set ++ [i]) (fun j hj => by
          rcases List.mem_append.1 hj with hj | hj
          · exact hs j hj
          · rw [List.mem_singleton.1 hj]; exact hlt) (by simp; omega)
        rw [nlV_snoc, show (k : Int) = ((k + 1 : Nat) : Int) - 1 by omega] at hq
        have hstep : RR = if (chO (accB a holes dn up) holes.length k (set ++ [i])).2 = true then ((chO (accB a holes dn up) holes.length k (set ++ [i])).1, true) else chJ (fun i => chO (accB a holes dn up) holes.length k (set ++ [i])) holes.length (holes.length - (i + 1)) := by
          rw [hi3, show holes.length - i = (holes.length - (i + 1)) + 1 by omega, chJ, show holes.length - (holes.length - (i + 1) + 1) = i by omega]
        have hih := hls
        generalize chO (accB a holes dn up) holes.length k (set ++ [i]) = R1 at *
        obtain ⟨L1, o1⟩ := R1
        dsimp only at hstep hq
        (have FX := And.intro hls (And.intro hg (And.intro hfz hti)); repeat' first | (first | (refine sx ?_ ?_ <;> intro h <;> first | (exfalso; omega) | skip) | (refine g_op ?_; refine g_call ?_; refine g_args ?_; (first | refine s_fn (hac _) ?_ | refine s_fn (hih _) ?_) <;> try first | omega | assumption) | refine ny ?_ | refine WA_block ?_ | (refine uC63_38_9 ?_; refine ⟨by kernel_rfl, ?_⟩) | ((first | refine grp_cons (fun _ => hac _) ?_ | refine grp_cons (fun _ => hih _) ?_) <;> try first | omega | assumption) | (refine g_d ?_; refine d_args ?_; (first | refine d_fn (hac _) ?_ | refine d_fn (hih _) ?_ | refine d_fnQ (fun _ => hac _) ?_ | refine d_fnQ (fun _ => hih _) ?_) <;> try first | omega | assumption) | (refine g_d ?_; (first | refine d_fnY (hac _) ?_ | refine d_fnY (hih _) ?_) <;> try first | omega | assumption)) | refine d_alt ?_ | refine wg_0 ?_ | refine wg_b ?_ | refine wg_c ?_ ?_ | refine wg_n ?_ | refine wm_cons ?_ ?_ | exact wm_nil | refine wg_op ?_)
        all_goals (try (exfalso; omega))
        all_goals (refine g_d ?_; refine d_args ?_; first
          | (refine d_fzE (B := lend m) (es := nlV set ++ [[V.int .i64 (i : Int)]]) (n := set.length + 1) 5 2 (hq _) ?_ (hn := by rw [List.length_append, nlV_length]; rfl))
          | (refine d_fzE (B := lend m) (es := nlV set ++ [[V.int .i64 (i : Int)]]) (n := set.length + 1) 4 2 (hq _) ?_ (hn := by rw [List.length_append, nlV_length]; rfl))
          | (refine d_fzE (B := lend m) (es := nlV set ++ [[V.int .i64 (i : Int)]]) (n := set.length + 1) 3 2 (hq _) ?_ (hn := by rw [List.length_append, nlV_length]; rfl)))
        all_goals (cases o1)
        all_goals ((have FX := And.intro hls (And.intro hg (And.intro hfz hti)); repeat' (first | (refine sx ?_ ?_ <;> intro h <;> first | (exfalso; omega) | skip) | (refine g_op ?_; refine g_call ?_; refine g_args ?_; (first | refine s_fn (hac _) ?_ | refine s_fn (hih _) ?_) <;> try first | omega | assumption) | refine ny ?_ | refine WA_block ?_ | (refine uC63_38_9 ?_; refine ⟨by kernel_rfl, ?_⟩) | ((first | refine grp_cons (fun _ => hac _) ?_ | refine grp_cons (fun _ => hih _) ?_) <;> try first | omega | assumption) | (refine g_d ?_; refine d_args ?_; (first | refine d_fn (hac _) ?_ | refine d_fn (hih _) ?_ | refine d_fnQ (fun _ => hac _) ?_ | refine d_fnQ (fun _ => hih _) ?_) <;> try first | omega | assumption) | (refine g_d ?_; (first | refine d_fnY (hac _) ?_ | refine d_fnY (hih _) ?_) <;> try first | omega | assumption))))
        all_goals (try (exfalso; omega))
        all_goals first
          | (rw [if_pos rfl] at hstep
             subst hstep
             refine r_esA hQ (fin_tpb ⟨rfl, WkV.refl _⟩)
             done)
          | (rw [if_neg (by decide)] at hstep
             refine nextL_ hK (i + 1) ⟨by omega, hlt, hstep⟩ (by omega)
             done)
          | trace_state
      · have hih := hls
        rw [show holes.length - i = 0 by omega] at hi3
        unfold chJ at hi3
        subst hi3
        dsimp only at hQ
        (have FX := And.intro hls (And.intro hg (And.intro hfz hti)); repeat' (first | (refine sx ?_ ?_ <;> intro h <;> first | (exfalso; omega) | skip) | (refine g_op ?_; refine g_call ?_; refine g_args ?_; (first | refine s_fn (hac _) ?_ | refine s_fn (hih _) ?_) <;> try first | omega | assumption) | refine ny ?_ | refine WA_block ?_ | (refine uC63_38_9 ?_; refine ⟨by kernel_rfl, ?_⟩) | ((first | refine grp_cons (fun _ => hac _) ?_ | refine grp_cons (fun _ => hih _) ?_) <;> try first | omega | assumption) | (refine g_d ?_; refine d_args ?_; (first | refine d_fn (hac _) ?_ | refine d_fn (hih _) ?_ | refine d_fnQ (fun _ => hac _) ?_ | refine d_fnQ (fun _ => hih _) ?_) <;> try first | omega | assumption) | (refine g_d ?_; (first | refine d_fnY (hac _) ?_ | refine d_fnY (hih _) ?_) <;> try first | omega | assumption)))
        all_goals (try (exfalso; omega))
        all_goals (refine r_esA hQ (.inl ⟨rfl, rfl, ?_⟩))
        all_goals (exact wk_tup ⟨wk_nil, WkV.refl _, trivial⟩)
end Go.Proofs.YtihbeoplchiikaaGreatDoor
