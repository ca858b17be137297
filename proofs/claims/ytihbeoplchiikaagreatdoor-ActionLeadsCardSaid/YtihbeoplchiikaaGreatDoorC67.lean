/- contracts: the reference's choice of leads; lists of numbers that are equal -/
import Derived.Test.YtihbeoplchiikaaGreatDoorC63
import Derived.Test.YtihbeoplchiikaaGreatDoorC64
set_option linter.unusedSimpArgs false
set_option linter.unusedVariables false
namespace Go.Proofs.YtihbeoplchiikaaGreatDoor
open Go.RowKit
attribute [local irreducible] WA WOs WDs WAn qThen qBlock tput
set_option maxHeartbeats 1000000
set_option maxRecDepth 20000
set_option linter.unusedSimpArgs false
set_option linter.unusedVariables false
set_option maxHeartbeats 8000000
attribute [local irreducible] smB cut sm
theorem Gives_w2 {P : Program} {f : FuncId} {a b c c' d e : V} {m : Mem} {v : V} (hc : WkV c c') (h : Gives P f [a, b, c', d, e] m v) : Gives P f [a, b, c, d, e] m v := by
  refine ⟨h.1, fun w ρ xs hM hA => h.2 w ρ xs hM ⟨by simpa using hA.1, fun i v x h1 h2 => ?_⟩⟩
  rcases i with _ | _ | _ | i
  · exact hA.2 0 v x h1 h2
  · exact hA.2 1 v x h1 h2
  · simp only [List.getElem?_cons_succ, List.getElem?_cons_zero, Option.some.injEq] at h1
    subst h1
    exact hc _ _ _ _ (hA.2 2 c x rfl h2)
  · exact hA.2 (i + 3) v x (by simpa using h1) h2
theorem uC67_10_6 {N : Nat} {l : List Oper} {t : List (Nat × V)} {m : Mem} {Q : Exit → List (Nat × V) → Mem → Prop} (h : RgN Tryz.prog N l t m Q (fun i => if i == 3 || i == 7 then .q else .p) [.one 0, .one 1, .one 2, .one 3, .one 4, .one 5, .one 6, .one 7, .one 8]) : WA Tryz.prog N (.region 6 l.toArray true) t m Q := d_rgN h
theorem bints_c (l : List Nat) (hl : l.length ≤ 1000) (m : Mem) : Gives Tryz.prog 10 [.lst (nlV l), .lst (nlV l)] m (.bool true) := by
  have hnl := nlV_length (l := l)
  have hg := hnl
  refine Gives_in Tryz.func10 rfl Tryz.ntmps10 Tryz.results10 (by kernel_rfl) (by simp) rfl fun Q hQ => ?_
  (have FX := And.intro hnl hg; repeat' (first | (refine sx ?_ ?_ <;> intro h <;> first | (exfalso; omega) | skip) | refine ny ?_ | refine WA_block ?_ | (refine uC67_10_6 ?_; refine ⟨by kernel_rfl, ?_⟩)))
  all_goals (try (exfalso; omega))
  refine WA_while (σ := Nat) [0, 1, 5] (fun i => [.lst (nlV l), .lst (nlV l), .int .i64 i]) (fun _ => lend m ++ []) (fun i => i ≤ l.length) (fun i => l.length - i) 0 (Nat.zero_le _) tv_ rfl ?_
  rintro i hi L hL
  simp only [zipT]
  clear FX hg
  rcases Nat.lt_or_ge i l.length with hlt | hge
  · have hg := nlV_get hlt
    (have FX := And.intro hnl hg; repeat' (first | (refine sx ?_ ?_ <;> intro h <;> first | (exfalso; omega) | skip) | refine ny ?_ | refine WA_block ?_ | (refine uC67_10_6 ?_; refine ⟨by kernel_rfl, ?_⟩)))
    all_goals (try (exfalso; omega))
    all_goals (exact next_ hL (i + 1) hlt (by omega))
  · have hg := hnl
    (have FX := And.intro hnl hg; repeat' (first | (refine sx ?_ ?_ <;> intro h <;> first | (exfalso; omega) | skip) | refine ny ?_ | refine WA_block ?_ | (refine uC67_10_6 ?_; refine ⟨by kernel_rfl, ?_⟩)))
    all_goals (try (exfalso; omega))
    all_goals (refine r_es hQ ?_; try with_reducible rfl)
theorem uC67_9_12 {N : Nat} {l : List Oper} {t : List (Nat × V)} {m : Mem} {Q : Exit → List (Nat × V) → Mem → Prop} (h : RgN Tryz.prog N l t m Q (fun i => if i == 7 then .f else if i == 6 then .a else if i == 0 || i == 1 || i == 2 then .q else .p) [.one 0, .one 1, .one 2, .one 3, .one 4, .one 5, .one 6, .one 7, .one 8]) : WA Tryz.prog N (.region 12 l.toArray true) t m Q := d_rgN h
theorem rChooseLeads_c (a : ActR) (ha : Lt a) (hae : acErr a = 0) (holes : List (Int × Int)) (h5 : holes.length ≤ 5 ∨ 8 < holes.length) (hN : holes.length ≤ 1000) (dn up : Int) (m : Mem) : Gives Tryz.prog 9 [.agg (actV a), .lst (ldsV holes), .agg [.int .i64 dn, .int .i64 up]] m (chV (chL a holes dn up)) := by
  suffices key : CallA Tryz.prog 9 [.agg (actV a), .lst (ldsV holes), .agg [.int .i64 dn, .int .i64 up]] m (fun v mo => mo = none ∧ WkV v (chV (chL a holes dn up))) from Gives_of key fun v mo h => h
  have hll := ldsV_length (l := holes)
  have hcw := fun m => rcheckwin_c dn up m
  have hcl := fun m => rchecklead_c (0, 0) m
  unfold ldV at hcl
  have hg := hll
  have hrw := hll
  have hch := hll
  have wkn : ∀ e, WkV (.tup [.nilsl, .int .i64 e]) (chV ([], e)) := fun e => wk_tup ⟨wk_nil, WkV.refl _, trivial⟩
  refine CallA_in Tryz.func9 rfl Tryz.ntmps9 Tryz.results9 (by kernel_rfl) (by simp) fun Q hQ => ?_
  unfold chL at hQ
  rw [if_neg (show ¬ acErr a ≠ 0 by omega)] at hQ
  unfold actV at *
  rcases h5 with h5 | h5
  case inr =>
    have e8 : ldsErr holes = 8 := by unfold ldsErr; rw [if_pos h5]
    rw [if_pos (show ldsErr holes ≠ 0 by omega), e8] at hQ
    (have FX := And.intro hll hg; repeat' (first | (refine sx ?_ ?_ <;> intro h <;> first | (exfalso; omega) | skip) | (refine g_op ?_; refine g_call ?_; refine g_args ?_; (first | refine s_fn (hcl _) ?_ | refine s_fn (hcw _) ?_ | refine s_fn (rwhole_c _ _) ?_ | refine s_fn (hrw _) ?_ | refine s_fn (hch _) ?_) <;> try first | omega | assumption) | refine ny ?_ | refine WA_block ?_ | (refine uC67_9_12 ?_; refine ⟨by kernel_rfl, ?_⟩) | ((first | refine grp_cons (fun _ => hcl _) ?_ | refine grp_cons (fun _ => hcw _) ?_ | refine grp_cons (fun _ => rwhole_c _ _) ?_ | refine grp_cons (fun _ => hrw _) ?_ | refine grp_cons (fun _ => hch _) ?_) <;> try first | omega | assumption) | (refine g_d ?_; refine d_args ?_; (first | refine d_fn (hcl _) ?_ | refine d_fn (hcw _) ?_ | refine d_fn (rwhole_c _ _) ?_ | refine d_fn (hrw _) ?_ | refine d_fn (hch _) ?_ | refine d_fnQ (fun _ => hcl _) ?_ | refine d_fnQ (fun _ => hcw _) ?_ | refine d_fnQ (fun _ => rwhole_c _ _) ?_ | refine d_fnQ (fun _ => hrw _) ?_ | refine d_fnQ (fun _ => hch _) ?_) <;> try first | omega | assumption) | (refine g_d ?_; (first | refine d_fnY (hcl _) ?_ | refine d_fnY (hcw _) ?_ | refine d_fnY (rwhole_c _ _) ?_ | refine d_fnY (hrw _) ?_ | refine d_fnY (hch _) ?_) <;> try first | omega | assumption)))
    all_goals (try (exfalso; omega))
    all_goals (refine r_esA hQ (.inl ⟨rfl, rfl, wkn _⟩))
  (have FX := And.intro hll hg; repeat' (first | (refine sx ?_ ?_ <;> intro h <;> first | (exfalso; omega) | skip) | (refine g_op ?_; refine g_call ?_; refine g_args ?_; (first | refine s_fn (hcl _) ?_ | refine s_fn (hcw _) ?_ | refine s_fn (rwhole_c _ _) ?_ | refine s_fn (hrw _) ?_ | refine s_fn (hch _) ?_) <;> try first | omega | assumption) | refine ny ?_ | refine WA_block ?_ | (refine uC67_9_12 ?_; refine ⟨by kernel_rfl, ?_⟩) | ((first | refine grp_cons (fun _ => hcl _) ?_ | refine grp_cons (fun _ => hcw _) ?_ | refine grp_cons (fun _ => rwhole_c _ _) ?_ | refine grp_cons (fun _ => hrw _) ?_ | refine grp_cons (fun _ => hch _) ?_) <;> try first | omega | assumption) | (refine g_d ?_; refine d_args ?_; (first | refine d_fn (hcl _) ?_ | refine d_fn (hcw _) ?_ | refine d_fn (rwhole_c _ _) ?_ | refine d_fn (hrw _) ?_ | refine d_fn (hch _) ?_ | refine d_fnQ (fun _ => hcl _) ?_ | refine d_fnQ (fun _ => hcw _) ?_ | refine d_fnQ (fun _ => rwhole_c _ _) ?_ | refine d_fnQ (fun _ => hrw _) ?_ | refine d_fnQ (fun _ => hch _) ?_) <;> try first | omega | assumption) | (refine g_d ?_; (first | refine d_fnY (hcl _) ?_ | refine d_fnY (hcw _) ?_ | refine d_fnY (rwhole_c _ _) ?_ | refine d_fnY (hrw _) ?_ | refine d_fnY (hch _) ?_) <;> try first | omega | assumption)))
  all_goals (try (exfalso; omega))
  refine WA_whileK (σ := Nat) (L := m) [1, 3, 5, 8] (fun i => [.lst (ldsV holes), .ptr (lend m).length 0 0, .ptr ((lend m).length + 1) 0 0, .int .i64 i]) (fun _ => [.cells .own 26 4 [[.int .i64 a.dip, .lst (prtsV a.parts), .lst (evsV a.evs), .lst (ldsV a.leads)]], .cells .own 28 2 [[.int .i64 dn, .int .i64 up]]]) 2 (fun i => i ≤ holes.length ∧ ∀ j, j < i → ldErrAt holes j = 0) (fun i => holes.length - i) 0 ⟨Nat.zero_le _, fun j h => absurd h (Nat.not_lt_zero _)⟩ tv_ rfl (fun _ => rfl) (by intro s s' _ _; simp [conB, conS, V.keeps, V.plain, Blk.flat, flatL, plainL, V.flat]) (by intro s s' _ _; simp [conB, conS, V.keeps, V.plain, Blk.flat, flatL, plainL, V.flat]) ?_
  rintro i ⟨hi1, hi2⟩ K hK
  simp only [zipT]
  clear FX hg hcl
  rcases Nat.lt_or_ge i holes.length with hi | hi
  · have hg := ldsV_get hi
    have hcl := fun m => rchecklead_c (holes.getD i l0) m
    have hat : ldErrAt holes i = ldErr (holes.getD i l0) := rfl
    unfold ldV at hg hcl
    clear hcw hrw hch
    have hcw := hll
    have hrw := hll
    have hch := hll
    (have FX := And.intro hll hg; repeat' (first | (refine sx ?_ ?_ <;> intro h <;> first | (exfalso; omega) | skip) | (refine g_op ?_; refine g_call ?_; refine g_args ?_; (first | refine s_fn (hcl _) ?_ | refine s_fn (hcw _) ?_ | refine s_fn (rwhole_c _ _) ?_ | refine s_fn (hrw _) ?_ | refine s_fn (hch _) ?_) <;> try first | omega | assumption) | refine ny ?_ | refine WA_block ?_ | (refine uC67_9_12 ?_; refine ⟨by kernel_rfl, ?_⟩) | ((first | refine grp_cons (fun _ => hcl _) ?_ | refine grp_cons (fun _ => hcw _) ?_ | refine grp_cons (fun _ => rwhole_c _ _) ?_ | refine grp_cons (fun _ => hrw _) ?_ | refine grp_cons (fun _ => hch _) ?_) <;> try first | omega | assumption) | (refine g_d ?_; refine d_args ?_; (first | refine d_fn (hcl _) ?_ | refine d_fn (hcw _) ?_ | refine d_fn (rwhole_c _ _) ?_ | refine d_fn (hrw _) ?_ | refine d_fn (hch _) ?_ | refine d_fnQ (fun _ => hcl _) ?_ | refine d_fnQ (fun _ => hcw _) ?_ | refine d_fnQ (fun _ => rwhole_c _ _) ?_ | refine d_fnQ (fun _ => hrw _) ?_ | refine d_fnQ (fun _ => hch _) ?_) <;> try first | omega | assumption) | (refine g_d ?_; (first | refine d_fnY (hcl _) ?_ | refine d_fnY (hcw _) ?_ | refine d_fnY (rwhole_c _ _) ?_ | refine d_fnY (hrw _) ?_ | refine d_fnY (hch _) ?_) <;> try first | omega | assumption)))
    all_goals (try (exfalso; omega))
    all_goals try
      (have e8 : ldsErr holes = ldErr (holes.getD i l0) := by
         unfold ldsErr
         rw [if_neg (by omega), firstE_is hi hi2 hat (by assumption)]
       rw [if_pos (show ldsErr holes ≠ 0 by rw [e8]; assumption), e8] at hQ
       refine r_esA hQ (.inl ⟨rfl, rfl, wkn _⟩))
    all_goals (refine nextL_ hK (i + 1) ⟨hi, ext_zero hi2 (by rw [hat]; first | assumption | omega | grind)⟩ (by omega))
  · have hie : i = holes.length := by omega
    subst hie
    clear hK hi
    have hh : ldsErr holes = 0 := by unfold ldsErr; rw [if_neg (by omega), firstE_zero.2 hi2]
    rw [if_neg (show ¬ ldsErr holes ≠ 0 by omega)] at hQ
    have hg := hll
    have hcl := hll
    by_cases e3 : winErr dn up = 0
    case neg =>
      rw [if_pos e3] at hQ
      generalize winErr dn up = ae at *
      (have FX := And.intro hll hg; repeat' (first | (refine sx ?_ ?_ <;> intro h <;> first | (exfalso; omega) | skip) | (refine g_op ?_; refine g_call ?_; refine g_args ?_; (first | refine s_fn (hcl _) ?_ | refine s_fn (hcw _) ?_ | refine s_fn (rwhole_c _ _) ?_ | refine s_fn (hrw _) ?_ | refine s_fn (hch _) ?_) <;> try first | omega | assumption) | refine ny ?_ | refine WA_block ?_ | (refine uC67_9_12 ?_; refine ⟨by kernel_rfl, ?_⟩) | ((first | refine grp_cons (fun _ => hcl _) ?_ | refine grp_cons (fun _ => hcw _) ?_ | refine grp_cons (fun _ => rwhole_c _ _) ?_ | refine grp_cons (fun _ => hrw _) ?_ | refine grp_cons (fun _ => hch _) ?_) <;> try first | omega | assumption) | (refine g_d ?_; refine d_args ?_; (first | refine d_fn (hcl _) ?_ | refine d_fn (hcw _) ?_ | refine d_fn (rwhole_c _ _) ?_ | refine d_fn (hrw _) ?_ | refine d_fn (hch _) ?_ | refine d_fnQ (fun _ => hcl _) ?_ | refine d_fnQ (fun _ => hcw _) ?_ | refine d_fnQ (fun _ => rwhole_c _ _) ?_ | refine d_fnQ (fun _ => hrw _) ?_ | refine d_fnQ (fun _ => hch _) ?_) <;> try first | omega | assumption) | (refine g_d ?_; (first | refine d_fnY (hcl _) ?_ | refine d_fnY (hcw _) ?_ | refine d_fnY (rwhole_c _ _) ?_ | refine d_fnY (hrw _) ?_ | refine d_fnY (hch _) ?_) <;> try first | omega | assumption)))
      all_goals (try (exfalso; omega))
      all_goals (refine r_esA hQ (.inl ⟨rfl, rfl, wkn _⟩))
    rw [if_neg (show ¬ winErr dn up ≠ 0 by omega)] at hQ
    rw [e3] at hcw
    obtain ⟨x1, x2, x3, x4, o, hrw, ho, -⟩ := wt_cases a ha hae dn up e3
    rw [← ho] at hQ
    unfold actV at hrw
    clear ho
    cases o with
    | false =>
      rw [if_pos rfl] at hQ
      (have FX := And.intro hll hg; repeat' (first | (refine sx ?_ ?_ <;> intro h <;> first | (exfalso; omega) | skip) | (refine g_op ?_; refine g_call ?_; refine g_args ?_; (first | refine s_fn (hcl _) ?_ | refine s_fn (hcw _) ?_ | refine s_fn (rwhole_c _ _) ?_ | refine s_fn (hrw _) ?_ | refine s_fn (hch _) ?_) <;> try first | omega | assumption) | refine ny ?_ | refine WA_block ?_ | (refine uC67_9_12 ?_; refine ⟨by kernel_rfl, ?_⟩) | ((first | refine grp_cons (fun _ => hcl _) ?_ | refine grp_cons (fun _ => hcw _) ?_ | refine grp_cons (fun _ => rwhole_c _ _) ?_ | refine grp_cons (fun _ => hrw _) ?_ | refine grp_cons (fun _ => hch _) ?_) <;> try first | omega | assumption) | (refine g_d ?_; refine d_args ?_; (first | refine d_fn (hcl _) ?_ | refine d_fn (hcw _) ?_ | refine d_fn (rwhole_c _ _) ?_ | refine d_fn (hrw _) ?_ | refine d_fn (hch _) ?_ | refine d_fnQ (fun _ => hcl _) ?_ | refine d_fnQ (fun _ => hcw _) ?_ | refine d_fnQ (fun _ => rwhole_c _ _) ?_ | refine d_fnQ (fun _ => hrw _) ?_ | refine d_fnQ (fun _ => hch _) ?_) <;> try first | omega | assumption) | (refine g_d ?_; (first | refine d_fnY (hcl _) ?_ | refine d_fnY (hcw _) ?_ | refine d_fnY (rwhole_c _ _) ?_ | refine d_fnY (hrw _) ?_ | refine d_fnY (hch _) ?_) <;> try first | omega | assumption)))
      all_goals (try (exfalso; omega))
      all_goals (refine r_esA hQ (.inl ⟨rfl, rfl, wkn _⟩))
    | true =>
      rw [if_neg (show ¬ (true = false) by decide), bst_find _ (ord_ok h5), ← chK_find] at hQ
      generalize hF : (fun k => chO (accB a holes dn up) holes.length k []) = F at *
      generalize hRR : chJ F (holes.length + 1) (holes.length + 1) = RR at *
      have hFc : ∀ k, k ≤ holes.length → ∀ m, Gives Tryz.prog 38 [.agg [.int .i64 a.dip, .lst (prtsV a.parts), .lst (evsV a.evs), .lst (ldsV a.leads)], .lst (ldsV holes), .nilsl, .int .i64 k, .agg [.int .i64 dn, .int .i64 up]] m (.tup [.lst (nlV (F k).1), .bool (F k).2]) := fun k hk m => by
        subst hF
        exact Gives_w2 wk_nil (rchoose_c a ha hae holes hh (by omega) dn up e3 k [] (fun i hi => by cases hi) (by simp; omega) m)
      (have FX := And.intro hll hg; repeat' first | (first | (refine sx ?_ ?_ <;> intro h <;> first | (exfalso; omega) | skip) | (refine g_op ?_; refine g_call ?_; refine g_args ?_; (first | refine s_fn (hcl _) ?_ | refine s_fn (hcw _) ?_ | refine s_fn (rwhole_c _ _) ?_ | refine s_fn (hrw _) ?_ | refine s_fn (hch _) ?_) <;> try first | omega | assumption) | refine ny ?_ | refine WA_block ?_ | (refine uC67_9_12 ?_; refine ⟨by kernel_rfl, ?_⟩) | ((first | refine grp_cons (fun _ => hcl _) ?_ | refine grp_cons (fun _ => hcw _) ?_ | refine grp_cons (fun _ => rwhole_c _ _) ?_ | refine grp_cons (fun _ => hrw _) ?_ | refine grp_cons (fun _ => hch _) ?_) <;> try first | omega | assumption) | (refine g_d ?_; refine d_args ?_; (first | refine d_fn (hcl _) ?_ | refine d_fn (hcw _) ?_ | refine d_fn (rwhole_c _ _) ?_ | refine d_fn (hrw _) ?_ | refine d_fn (hch _) ?_ | refine d_fnQ (fun _ => hcl _) ?_ | refine d_fnQ (fun _ => hcw _) ?_ | refine d_fnQ (fun _ => rwhole_c _ _) ?_ | refine d_fnQ (fun _ => hrw _) ?_ | refine d_fnQ (fun _ => hch _) ?_) <;> try first | omega | assumption) | (refine g_d ?_; (first | refine d_fnY (hcl _) ?_ | refine d_fnY (hcw _) ?_ | refine d_fnY (rwhole_c _ _) ?_ | refine d_fnY (hrw _) ?_ | refine d_fnY (hch _) ?_) <;> try first | omega | assumption)) | refine d_alt ?_ | refine wg_0 ?_ | refine wg_b ?_ | refine wg_c ?_ ?_ | refine wg_n ?_ | refine wm_cons ?_ ?_ | exact wm_nil | refine wg_op ?_)
      all_goals (try (exfalso; omega))
      refine WA_whileK (σ := Nat) (L := m) [1, 3, 5, 13] (fun i => [.lst (ldsV holes), .ptr (lend m).length 0 0, .ptr ((lend m).length + 1) 0 0, .int .i64 i]) (fun _ => [.cells .own 26 4 [[.int .i64 a.dip, .lst (prtsV a.parts), .lst (evsV a.evs), .lst (ldsV a.leads)]], .cells .own 28 2 [[.int .i64 dn, .int .i64 up]], .cells .own 50 4 [[.int .i64 x1, .int .i64 x2, .int .i64 x3, .int .i64 x4]]]) 3 (fun i => i ≤ holes.length + 1 ∧ RR = chJ F (holes.length + 1) (holes.length + 1 - i)) (fun i => holes.length + 1 - i) 0 ⟨Nat.zero_le _, hRR.symm⟩ tv_ rfl (fun _ => rfl) (by intro s s' _ _; simp [conB, conS, V.keeps, V.plain, Blk.flat, flatL, plainL, V.flat]) (by intro s s' _ _; simp [conB, conS, V.keeps, V.plain, Blk.flat, flatL, plainL, V.flat]) ?_
      rintro i ⟨hj1, hj2⟩ K hK
      simp only [zipT]
      clear FX hch hrw
      have hrw := hll
      rcases Nat.lt_or_ge i (holes.length + 1) with hi | hi
      · have hch := fun m => hFc i (by omega) m
        have hstep : RR = if (F i).2 = true then ((F i).1, true) else chJ F (holes.length + 1) (holes.length + 1 - (i + 1)) := by
          rw [hj2, show holes.length + 1 - i = (holes.length + 1 - (i + 1)) + 1 by omega, chJ, show holes.length + 1 - (holes.length + 1 - (i + 1) + 1) = i by omega]
        generalize F i = R1 at *
        obtain ⟨L1, o1⟩ := R1
        dsimp only at hstep hch
        cases o1 with
        | true =>
          rw [if_pos rfl] at hstep
          rw [hstep] at hQ
          dsimp only [opt] at hQ
          rw [if_pos rfl] at hQ
          dsimp only at hQ
          (have FX := And.intro hll hg; repeat' (first | (refine sx ?_ ?_ <;> intro h <;> first | (exfalso; omega) | skip) | (refine g_op ?_; refine g_call ?_; refine g_args ?_; (first | refine s_fn (hcl _) ?_ | refine s_fn (hcw _) ?_ | refine s_fn (rwhole_c _ _) ?_ | refine s_fn (hrw _) ?_ | refine s_fn (hch _) ?_) <;> try first | omega | assumption) | refine ny ?_ | refine WA_block ?_ | (refine uC67_9_12 ?_; refine ⟨by kernel_rfl, ?_⟩) | ((first | refine grp_cons (fun _ => hcl _) ?_ | refine grp_cons (fun _ => hcw _) ?_ | refine grp_cons (fun _ => rwhole_c _ _) ?_ | refine grp_cons (fun _ => hrw _) ?_ | refine grp_cons (fun _ => hch _) ?_) <;> try first | omega | assumption) | (refine g_d ?_; refine d_args ?_; (first | refine d_fn (hcl _) ?_ | refine d_fn (hcw _) ?_ | refine d_fn (rwhole_c _ _) ?_ | refine d_fn (hrw _) ?_ | refine d_fn (hch _) ?_ | refine d_fnQ (fun _ => hcl _) ?_ | refine d_fnQ (fun _ => hcw _) ?_ | refine d_fnQ (fun _ => rwhole_c _ _) ?_ | refine d_fnQ (fun _ => hrw _) ?_ | refine d_fnQ (fun _ => hch _) ?_) <;> try first | omega | assumption) | (refine g_d ?_; (first | refine d_fnY (hcl _) ?_ | refine d_fnY (hcw _) ?_ | refine d_fnY (rwhole_c _ _) ?_ | refine d_fnY (hrw _) ?_ | refine d_fnY (hch _) ?_) <;> try first | omega | assumption)))
          all_goals (try (exfalso; omega))
          all_goals (refine r_esA hQ (fin_chV ⟨rfl, WkV.refl _⟩))
        | false =>
          rw [if_neg (by decide)] at hstep
          (have FX := And.intro hll hg; repeat' (first | (refine sx ?_ ?_ <;> intro h <;> first | (exfalso; omega) | skip) | (refine g_op ?_; refine g_call ?_; refine g_args ?_; (first | refine s_fn (hcl _) ?_ | refine s_fn (hcw _) ?_ | refine s_fn (rwhole_c _ _) ?_ | refine s_fn (hrw _) ?_ | refine s_fn (hch _) ?_) <;> try first | omega | assumption) | refine ny ?_ | refine WA_block ?_ | (refine uC67_9_12 ?_; refine ⟨by kernel_rfl, ?_⟩) | ((first | refine grp_cons (fun _ => hcl _) ?_ | refine grp_cons (fun _ => hcw _) ?_ | refine grp_cons (fun _ => rwhole_c _ _) ?_ | refine grp_cons (fun _ => hrw _) ?_ | refine grp_cons (fun _ => hch _) ?_) <;> try first | omega | assumption) | (refine g_d ?_; refine d_args ?_; (first | refine d_fn (hcl _) ?_ | refine d_fn (hcw _) ?_ | refine d_fn (rwhole_c _ _) ?_ | refine d_fn (hrw _) ?_ | refine d_fn (hch _) ?_ | refine d_fnQ (fun _ => hcl _) ?_ | refine d_fnQ (fun _ => hcw _) ?_ | refine d_fnQ (fun _ => rwhole_c _ _) ?_ | refine d_fnQ (fun _ => hrw _) ?_ | refine d_fnQ (fun _ => hch _) ?_) <;> try first | omega | assumption) | (refine g_d ?_; (first | refine d_fnY (hcl _) ?_ | refine d_fnY (hcw _) ?_ | refine d_fnY (rwhole_c _ _) ?_ | refine d_fnY (hrw _) ?_ | refine d_fnY (hch _) ?_) <;> try first | omega | assumption)))
          all_goals (try (exfalso; omega))
          all_goals (refine nextL_ hK (i + 1) ⟨hi, hstep⟩ (by omega))
      · have hch := hll
        rw [show holes.length + 1 - i = 0 by omega] at hj2
        unfold chJ at hj2
        rw [hj2] at hQ
        dsimp only [opt] at hQ
        rw [if_neg (by decide)] at hQ
        dsimp only at hQ
        (have FX := And.intro hll hg; repeat' (first | (refine sx ?_ ?_ <;> intro h <;> first | (exfalso; omega) | skip) | (refine g_op ?_; refine g_call ?_; refine g_args ?_; (first | refine s_fn (hcl _) ?_ | refine s_fn (hcw _) ?_ | refine s_fn (rwhole_c _ _) ?_ | refine s_fn (hrw _) ?_ | refine s_fn (hch _) ?_) <;> try first | omega | assumption) | refine ny ?_ | refine WA_block ?_ | (refine uC67_9_12 ?_; refine ⟨by kernel_rfl, ?_⟩) | ((first | refine grp_cons (fun _ => hcl _) ?_ | refine grp_cons (fun _ => hcw _) ?_ | refine grp_cons (fun _ => rwhole_c _ _) ?_ | refine grp_cons (fun _ => hrw _) ?_ | refine grp_cons (fun _ => hch _) ?_) <;> try first | omega | assumption) | (refine g_d ?_; refine d_args ?_; (first | refine d_fn (hcl _) ?_ | refine d_fn (hcw _) ?_ | refine d_fn (rwhole_c _ _) ?_ | refine d_fn (hrw _) ?_ | refine d_fn (hch _) ?_ | refine d_fnQ (fun _ => hcl _) ?_ | refine d_fnQ (fun _ => hcw _) ?_ | refine d_fnQ (fun _ => rwhole_c _ _) ?_ | refine d_fnQ (fun _ => hrw _) ?_ | refine d_fnQ (fun _ => hch _) ?_) <;> try first | omega | assumption) | (refine g_d ?_; (first | refine d_fnY (hcl _) ?_ | refine d_fnY (hcw _) ?_ | refine d_fnY (rwhole_c _ _) ?_ | refine d_fnY (hrw _) ?_ | refine d_fnY (hch _) ?_) <;> try first | omega | assumption)))
        all_goals (try (exfalso; omega))
        all_goals (refine r_esA hQ (.inl ⟨rfl, rfl, wkn _⟩))
end Go.Proofs.YtihbeoplchiikaaGreatDoor
