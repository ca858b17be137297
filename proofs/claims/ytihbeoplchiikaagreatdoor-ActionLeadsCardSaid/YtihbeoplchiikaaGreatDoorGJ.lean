import Derived.Test.YtihbeoplchiikaaGreatDoorC50
import Derived.Test.YtihbeoplchiikaaGreatDoorC33
import Derived.Test.YtihbeoplchiikaaGreatDoorC34
import Derived.Test.YtihbeoplchiikaaGreatDoorYE
set_option linter.unusedSimpArgs false
set_option linter.unusedVariables false
/- contracts: balance, friction and weights of the reference -/
namespace Go.Proofs.YtihbeoplchiikaaGreatDoor
open Go.RowKit
attribute [local irreducible] WA WOs WDs WAn qThen qBlock tput
set_option maxHeartbeats 1000000
set_option maxRecDepth 20000
set_option linter.unusedSimpArgs false
set_option linter.unusedVariables false
attribute [local irreducible] smB cut sm
theorem uC53_62_8 {N : Nat} {l : List Oper} {t : List (Nat × V)} {m : Mem} {Q : Exit → List (Nat × V) → Mem → Prop} (h : RgN Tryz.prog N l t m Q (fun i => if i == 15 then .f else if i == 14 then .a else if i == 1 || i == 5 || i == 6 || i == 7 || i == 8 || i == 9 || i == 10 then .q else .p) [.one 0, .one 1, .one 2, .one 3, .one 4, .one 5, .one 6, .one 7, .one 8, .one 9, .one 10, .one 11, .one 12, .one 13, .one 14, .one 15, .one 16]) : WA Tryz.prog N (.region 8 l.toArray true) t m Q := d_rgN h
theorem uC53_62_15 {N : Nat} {l : List Oper} {t : List (Nat × V)} {m : Mem} {Q : Exit → List (Nat × V) → Mem → Prop} (h : RgN Tryz.prog N l t m Q (fun i => if i == 20 then .f else if i == 19 then .a else if i == 1 || i == 5 || i == 7 || i == 11 || i == 13 || i == 14 || i == 15 then .q else .p) [.one 0, .one 1, .one 2, .one 3, .one 4, .one 5, .one 6, .one 7, .one 8, .one 9, .one 10, .one 11, .one 12, .one 13, .one 14, .one 15, .one 16, .one 17, .one 18, .one 19, .one 20, .one 21]) : WA Tryz.prog N (.region 15 l.toArray true) t m Q := d_rgN h
theorem rbalance_c (a : ActR) (ha : Lt a) (h : acErr a = 0) (x : Rat) (hx : sm x) (m : Mem) : Gives Tryz.prog 62 [.agg (actV a), .agg [.int .i64 (Rat.num (x)), .int .i64 ((Rat.den (x) : Nat) : Int)]] m (.tup [.agg [.int .i64 (Rat.num ((balRA a x).1)), .int .i64 ((Rat.den ((balRA a x).1) : Nat) : Int)], .bool (balRA a x).2]) := by
  have hp := acErr_pts h
  have hla := prtsV_length (l := a.parts)
  have hll := ldsV_length (l := a.leads)
  have hfew := hp.few
  obtain ⟨hl8, hlz⟩ := ldsErr_zero (acErr_evs h).2.2
  have hga := hla
  have hgb := hla
  have hRA : ∀ s, balR a x a.parts.length = s → balRA a x = ldR a s a.leads.length := fun s hs => by unfold balRA; rw [hs]
  unfold actV
  refine Gives_in Tryz.func62 rfl Tryz.ntmps62 Tryz.results62 (by kernel_rfl) (by simp) rfl fun Q hQ => ?_
  (have FX := And.intro hla (And.intro hll (And.intro hga hgb)); repeat' (first | (refine sx ?_ ?_ <;> intro h <;> first | (exfalso; omega) | skip) | (refine g_op ?_; refine g_call ?_; refine g_args ?_; (first | refine s_fn (rwhole_c _ _) ?_) <;> try first | omega | assumption) | refine ny ?_ | refine WA_block ?_ | (refine uC53_62_8 ?_; refine ⟨by kernel_rfl, ?_⟩) | (refine uC53_62_15 ?_; refine ⟨by kernel_rfl, ?_⟩) | ((first | refine grp_cons (fun _ => rwhole_c _ _) ?_) <;> try first | omega | assumption) | (refine g_d ?_; refine d_args ?_; (first | refine d_fn (rwhole_c _ _) ?_ | refine d_fnQ (fun _ => rwhole_c _ _) ?_) <;> try first | omega | assumption) | (refine g_d ?_; (first | refine d_fnY (rwhole_c _ _) ?_) <;> try first | omega | assumption)))
  refine WA_whileK (σ := Nat) [2, 3, 4, 6, 7, 8] (fun i => [.ptr (lend m).length 0 0, .ptr ((lend m).length + 1) 0 0, .ptr ((lend m).length + 2) 0 0, .ptr ((lend m).length + 3) 0 0, .bool (balR a x i).2, .int .i64 i]) (fun i => [actB a, .cells .own 42 2 [[.int .i64 x.num, .int .i64 (x.den : Int)]], .cells .own 42 2 [[.int .i64 0, .int .i64 0]], .cells .own 42 2 [[.int .i64 (balR a x i).1.num, .int .i64 ((balR a x i).1.den : Int)]]]) 4 (fun i => i ≤ a.parts.length) (fun i => a.parts.length - i) 0 (Nat.zero_le _) tv_ rfl (fun _ => rfl) (by intro s s' _ _; simp [conB, conS, V.keeps, V.plain, Blk.flat, flatL, plainL, V.flat]) (by intro s s' _ _; simp [conB, conS, V.keeps, V.plain, Blk.flat, flatL, plainL, V.flat]) ?_
  rintro i hi1 K hK
  simp only [zipT]
  clear FX hga hgb
  have hst := balR_stay (a := a) (x := x) (i := i)
  have hsm := balR_sm (a := a) (x := x) (i := i)
  have hno := balR_none' (a := a) (x := x) (i := i)
  have hso := fun h c => balR_some (a := a) (x := x) (i := i) h (c := c)
  have hnx := hK (i + 1)
  cases hgd : (balR a x i).2 with
  | false =>
    have e1 := hRA _ (hst hgd hi1)
    rw [ldR_stay (i := 0) hgd (Nat.zero_le _)] at e1
    have e2 : ldR a (balR a x i) 0 = balR a x i := rfl
    rw [e2] at e1
    rw [e1, hgd] at hQ
    generalize (balR a x i).1 = q at *
    have hga := hla
    have hgb := hla
    (have FX := And.intro hla (And.intro hll (And.intro hga hgb)); repeat' (first | (refine sx ?_ ?_ <;> intro h <;> first | (exfalso; omega) | skip) | refine ny ?_ | refine WA_block ?_ | (refine uC53_62_8 ?_; refine ⟨by kernel_rfl, ?_⟩) | (refine uC53_62_15 ?_; refine ⟨by kernel_rfl, ?_⟩)))
    all_goals (try (exfalso; omega))
    all_goals (refine WA_rounds 1 ?_)
    all_goals (have FX := And.intro hla (And.intro hll (And.intro hga hgb)); repeat' (first | (refine sx ?_ ?_ <;> intro h <;> first | (exfalso; omega) | skip) | refine ny ?_ | refine WA_block ?_ | (refine uC53_62_8 ?_; refine ⟨by kernel_rfl, ?_⟩) | (refine uC53_62_15 ?_; refine ⟨by kernel_rfl, ?_⟩)))
    all_goals (try (exfalso; omega))
    all_goals (refine r_es hQ ?_; try with_reducible rfl)
  | true =>
    have hsq := hsm hgd
    rcases Nat.lt_or_ge i a.parts.length with hi | hi
    · have hga := prtsV_get hi
      have hgb := hla
      have hw := (ptErr_zero (hp.pt i hi)).2.2.2.2.1
      obtain ⟨z, b, _, g2, g3, hcu⟩ := rcvof_c a ha h i hi
      unfold actV at hcu
      cases hc : cvP a i with
      | none =>
        obtain rfl := g3 hc
        have e0 := hno hgd hc
        have e1 := hRA _ (balR_stay (a := a) (x := x) (i := i + 1) (by rw [e0]) hi)
        rw [ldR_stay (i := 0) (by rw [e0]; rfl) (Nat.zero_le _)] at e1
        have e2 : ldR a (balR a x (i + 1)) 0 = balR a x (i + 1) := rfl
        rw [e2, e0] at e1
        rw [e1] at hQ
        generalize (balR a x i).1 = q at *
        unfold prtV at hga
        (have FX := And.intro hla (And.intro hll (And.intro hga hgb)); repeat' (first | (refine sx ?_ ?_ <;> intro h <;> first | (exfalso; omega) | skip) | (refine g_op ?_; refine g_call ?_; refine g_args ?_; (first | refine s_fn (rwhole_c _ _) ?_ | refine s_fn (hcu _) ?_) <;> try first | omega | assumption) | refine ny ?_ | refine WA_block ?_ | (refine uC53_62_8 ?_; refine ⟨by kernel_rfl, ?_⟩) | (refine uC53_62_15 ?_; refine ⟨by kernel_rfl, ?_⟩) | ((first | refine grp_cons (fun _ => rwhole_c _ _) ?_ | refine grp_cons (fun _ => hcu _) ?_) <;> try first | omega | assumption) | (refine g_d ?_; refine d_args ?_; (first | refine d_fn (rwhole_c _ _) ?_ | refine d_fn (hcu _) ?_ | refine d_fnQ (fun _ => rwhole_c _ _) ?_ | refine d_fnQ (fun _ => hcu _) ?_) <;> try first | omega | assumption) | (refine g_d ?_; (first | refine d_fnY (rwhole_c _ _) ?_ | refine d_fnY (hcu _) ?_) <;> try first | omega | assumption)))
        all_goals (try (exfalso; omega))
        all_goals (refine r_es hQ ?_; try with_reducible rfl)
      | some c =>
        obtain ⟨rfl, rfl⟩ := g2 c hc
        have hv := cvP_valid hp hi hc
        have hsl := fun m => rslopeat_c c x hv hx m
        have hss := sm_slopeE hv x
        have e0 := hso hgd c hc
        generalize (balR a x i).1 = q at *
        generalize a.parts.getD i p0 = pt at *
        generalize slopeE c x = f at *
        have hmu : ∀ m, Gives Tryz.prog 87 [.agg [.int .i64 pt.wt, .int .i64 1], .agg [.int .i64 (Rat.num (f)), .int .i64 ((Rat.den (f) : Nat) : Int)]] m (.tup [.agg [.int .i64 (Rat.num ((pt.wt : Rat) * f)), .int .i64 ((Rat.den ((pt.wt : Rat) * f) : Nat) : Int)], .bool (smB ((pt.wt : Rat) * f))]) := fun m => rmul_c (pt.wt : Rat) f (sm_int (by omega)) hss m
        unfold prtV at hga
        by_cases ho : sm ((pt.wt : Rat) * f)
        · rw [if_pos ho] at e0
          rw [smB_of ho] at hmu
          have had := fun m => radd_c q ((pt.wt : Rat) * f) hsq ho m
          rw [e0] at hnx
          have hny := fun (_ : Unit) => hnx
          (have FX := And.intro hla (And.intro hll (And.intro hga hgb)); repeat' (first | (refine sx ?_ ?_ <;> intro h <;> first | (exfalso; omega) | skip) | (refine g_op ?_; refine g_call ?_; refine g_args ?_; (first | refine s_fn (rwhole_c _ _) ?_ | refine s_fn (hcu _) ?_ | refine s_fn (hsl _) ?_ | refine s_fn (hmu _) ?_ | refine s_fn (had _) ?_) <;> try first | omega | assumption) | refine ny ?_ | refine WA_block ?_ | (refine uC53_62_8 ?_; refine ⟨by kernel_rfl, ?_⟩) | (refine uC53_62_15 ?_; refine ⟨by kernel_rfl, ?_⟩) | ((first | refine grp_cons (fun _ => rwhole_c _ _) ?_ | refine grp_cons (fun _ => hcu _) ?_ | refine grp_cons (fun _ => hsl _) ?_ | refine grp_cons (fun _ => hmu _) ?_ | refine grp_cons (fun _ => had _) ?_) <;> try first | omega | assumption) | (refine g_d ?_; refine d_args ?_; (first | refine d_fn (rwhole_c _ _) ?_ | refine d_fn (hcu _) ?_ | refine d_fn (hsl _) ?_ | refine d_fn (hmu _) ?_ | refine d_fn (had _) ?_ | refine d_fnQ (fun _ => rwhole_c _ _) ?_ | refine d_fnQ (fun _ => hcu _) ?_ | refine d_fnQ (fun _ => hsl _) ?_ | refine d_fnQ (fun _ => hmu _) ?_ | refine d_fnQ (fun _ => had _) ?_) <;> try first | omega | assumption) | (refine g_d ?_; (first | refine d_fnY (rwhole_c _ _) ?_ | refine d_fnY (hcu _) ?_ | refine d_fnY (hsl _) ?_ | refine d_fnY (hmu _) ?_ | refine d_fnY (had _) ?_) <;> try first | omega | assumption)))
          all_goals (try (exfalso; omega))
          all_goals (refine nextL_ hny () (by omega) (by omega))
        · rw [if_neg ho] at e0
          rw [smB_no ho] at hmu
          rw [e0] at hnx
          have hny := fun (_ : Unit) => hnx
          (have FX := And.intro hla (And.intro hll (And.intro hga hgb)); repeat' (first | (refine sx ?_ ?_ <;> intro h <;> first | (exfalso; omega) | skip) | (refine g_op ?_; refine g_call ?_; refine g_args ?_; (first | refine s_fn (rwhole_c _ _) ?_ | refine s_fn (hcu _) ?_ | refine s_fn (hsl _) ?_ | refine s_fn (hmu _) ?_) <;> try first | omega | assumption) | refine ny ?_ | refine WA_block ?_ | (refine uC53_62_8 ?_; refine ⟨by kernel_rfl, ?_⟩) | (refine uC53_62_15 ?_; refine ⟨by kernel_rfl, ?_⟩) | ((first | refine grp_cons (fun _ => rwhole_c _ _) ?_ | refine grp_cons (fun _ => hcu _) ?_ | refine grp_cons (fun _ => hsl _) ?_ | refine grp_cons (fun _ => hmu _) ?_) <;> try first | omega | assumption) | (refine g_d ?_; refine d_args ?_; (first | refine d_fn (rwhole_c _ _) ?_ | refine d_fn (hcu _) ?_ | refine d_fn (hsl _) ?_ | refine d_fn (hmu _) ?_ | refine d_fnQ (fun _ => rwhole_c _ _) ?_ | refine d_fnQ (fun _ => hcu _) ?_ | refine d_fnQ (fun _ => hsl _) ?_ | refine d_fnQ (fun _ => hmu _) ?_) <;> try first | omega | assumption) | (refine g_d ?_; (first | refine d_fnY (rwhole_c _ _) ?_ | refine d_fnY (hcu _) ?_ | refine d_fnY (hsl _) ?_ | refine d_fnY (hmu _) ?_) <;> try first | omega | assumption)))
          all_goals (try (exfalso; omega))
          all_goals (refine nextL_ hny () (by omega) (by omega))
    · have hie : i = a.parts.length := by omega
      subst hie
      rw [hRA _ rfl] at hQ
      generalize hs0 : balR a x a.parts.length = s0 at *
      have hga := hla
      have hgb := hla
      clear hnx hK
      obtain ⟨q0, b0⟩ := s0
      dsimp only at hgd hsq
      subst hgd
      (have FX := And.intro hla (And.intro hll (And.intro hga hgb)); repeat' (first | (refine sx ?_ ?_ <;> intro h <;> first | (exfalso; omega) | skip) | refine ny ?_ | refine WA_block ?_ | (refine uC53_62_8 ?_; refine ⟨by kernel_rfl, ?_⟩) | (refine uC53_62_15 ?_; refine ⟨by kernel_rfl, ?_⟩)))
      all_goals (try (exfalso; omega))
      refine WA_whileK (σ := Nat) [2, 3, 4, 6, 7, 13] (fun i => [.ptr (lend m).length 0 0, .ptr ((lend m).length + 1) 0 0, .ptr ((lend m).length + 2) 0 0, .ptr ((lend m).length + 3) 0 0, .bool (ldR a (q0, true) i).2, .int .i64 i]) (fun i => [actB a, .cells .own 42 2 [[.int .i64 x.num, .int .i64 (x.den : Int)]], .cells .own 42 2 [[.int .i64 0, .int .i64 0]], .cells .own 42 2 [[.int .i64 (ldR a (q0, true) i).1.num, .int .i64 ((ldR a (q0, true) i).1.den : Int)]]]) 4 (fun i => i ≤ a.leads.length) (fun i => a.leads.length - i) 0 (Nat.zero_le _) tv_ rfl (fun _ => rfl) (by intro s s' _ _; simp [conB, conS, V.keeps, V.plain, Blk.flat, flatL, plainL, V.flat]) (by intro s s' _ _; simp [conB, conS, V.keeps, V.plain, Blk.flat, flatL, plainL, V.flat]) ?_
      rintro i hj1 K hK
      simp only [zipT]
      clear FX hga hgb
      have hst := ldR_stay (a := a) (s := (q0, true)) (i := i)
      have hsm := ldR_sm (a := a) (s := (q0, true)) (fun _ => hsq) (i := i)
      have hso := ldR_some (a := a) (s := (q0, true)) (i := i)
      have hnx := hK (i + 1)
      cases hgd : (ldR a (q0, true) i).2 with
      | false =>
        rw [hst hgd hj1, hgd] at hQ
        generalize (ldR a (q0, true) i).1 = q at *
        have hga := hla
        have hgb := hla
        (have FX := And.intro hla (And.intro hll (And.intro hga hgb)); repeat' (first | (refine sx ?_ ?_ <;> intro h <;> first | (exfalso; omega) | skip) | refine ny ?_ | refine WA_block ?_ | (refine uC53_62_8 ?_; refine ⟨by kernel_rfl, ?_⟩) | (refine uC53_62_15 ?_; refine ⟨by kernel_rfl, ?_⟩)))
        all_goals (try (exfalso; omega))
        all_goals (refine r_es hQ ?_; try with_reducible rfl)
      | true =>
        have hsq := hsm hgd
        rcases Nat.lt_or_ge i a.leads.length with hj | hj
        · have hga := ldsV_get hj
          have hlw := ldErr_zero (hlz i hj)
          have hpq := ld_mul hlw
          have e0 := hso hgd
          generalize (ldR a (q0, true) i).1 = q at *
          obtain ⟨⟨w, p⟩, hwp⟩ : ∃ x, a.leads.getD i l0 = x := ⟨_, rfl⟩
          rw [hwp] at e0 hga hlw hpq
          dsimp only at hlw hpq
          unfold ldV at hga
          dsimp only at hga
          have hgb := hpq
          have hmu : ∀ m, Gives Tryz.prog 89 [.agg [.int .i64 (w * p), .int .i64 1], .agg [.int .i64 1000, .int .i64 1]] m (.tup [.agg [.int .i64 (Rat.num (ldQ (w, p))), .int .i64 ((Rat.den (ldQ (w, p)) : Nat) : Int)], .bool (smB (ldQ (w, p)))]) := fun m => rdiv_c ((w * p : Int) : Rat) ((1000 : Int) : Rat) (sm_int (by omega)) (sm_int (by omega)) k_ne m
          generalize ldQ (w, p) = f at *
          by_cases ho : sm f
          · rw [if_pos ho] at e0
            rw [smB_of ho] at hmu
            have had := fun m => rsub_c q f hsq ho m
            rw [e0] at hnx
            have hny := fun (_ : Unit) => hnx
            (have FX := And.intro hla (And.intro hll (And.intro hga hgb)); repeat' (first | (refine sx ?_ ?_ <;> intro h <;> first | (exfalso; omega) | skip) | (refine g_op ?_; refine g_call ?_; refine g_args ?_; (first | refine s_fn (rwhole_c _ _) ?_ | refine s_fn (hmu _) ?_ | refine s_fn (had _) ?_) <;> try first | omega | assumption) | refine ny ?_ | refine WA_block ?_ | (refine uC53_62_8 ?_; refine ⟨by kernel_rfl, ?_⟩) | (refine uC53_62_15 ?_; refine ⟨by kernel_rfl, ?_⟩) | ((first | refine grp_cons (fun _ => rwhole_c _ _) ?_ | refine grp_cons (fun _ => hmu _) ?_ | refine grp_cons (fun _ => had _) ?_) <;> try first | omega | assumption) | (refine g_d ?_; refine d_args ?_; (first | refine d_fn (rwhole_c _ _) ?_ | refine d_fn (hmu _) ?_ | refine d_fn (had _) ?_ | refine d_fnQ (fun _ => rwhole_c _ _) ?_ | refine d_fnQ (fun _ => hmu _) ?_ | refine d_fnQ (fun _ => had _) ?_) <;> try first | omega | assumption) | (refine g_d ?_; (first | refine d_fnY (rwhole_c _ _) ?_ | refine d_fnY (hmu _) ?_ | refine d_fnY (had _) ?_) <;> try first | omega | assumption)))
            all_goals (try (exfalso; omega))
            all_goals (refine nextL_ hny () (by omega) (by omega))
          · rw [if_neg ho] at e0
            rw [smB_no ho] at hmu
            rw [e0] at hnx
            have hny := fun (_ : Unit) => hnx
            (have FX := And.intro hla (And.intro hll (And.intro hga hgb)); repeat' (first | (refine sx ?_ ?_ <;> intro h <;> first | (exfalso; omega) | skip) | (refine g_op ?_; refine g_call ?_; refine g_args ?_; (first | refine s_fn (rwhole_c _ _) ?_ | refine s_fn (hmu _) ?_) <;> try first | omega | assumption) | refine ny ?_ | refine WA_block ?_ | (refine uC53_62_8 ?_; refine ⟨by kernel_rfl, ?_⟩) | (refine uC53_62_15 ?_; refine ⟨by kernel_rfl, ?_⟩) | ((first | refine grp_cons (fun _ => rwhole_c _ _) ?_ | refine grp_cons (fun _ => hmu _) ?_) <;> try first | omega | assumption) | (refine g_d ?_; refine d_args ?_; (first | refine d_fn (rwhole_c _ _) ?_ | refine d_fn (hmu _) ?_ | refine d_fnQ (fun _ => rwhole_c _ _) ?_ | refine d_fnQ (fun _ => hmu _) ?_) <;> try first | omega | assumption) | (refine g_d ?_; (first | refine d_fnY (rwhole_c _ _) ?_ | refine d_fnY (hmu _) ?_) <;> try first | omega | assumption)))
            all_goals (try (exfalso; omega))
            all_goals (refine nextL_ hny () (by omega) (by omega))
        · have hje : i = a.leads.length := by omega
          subst hje
          rw [hgd] at hQ
          generalize (ldR a (q0, true) a.leads.length).1 = q at *
          have hga := hla
          have hgb := hla
          (have FX := And.intro hla (And.intro hll (And.intro hga hgb)); repeat' (first | (refine sx ?_ ?_ <;> intro h <;> first | (exfalso; omega) | skip) | refine ny ?_ | refine WA_block ?_ | (refine uC53_62_8 ?_; refine ⟨by kernel_rfl, ?_⟩) | (refine uC53_62_15 ?_; refine ⟨by kernel_rfl, ?_⟩)))
          all_goals (try (exfalso; omega))
          all_goals (refine r_es hQ ?_; try with_reducible rfl)
theorem uC53_63_9 {N : Nat} {l : List Oper} {t : List (Nat × V)} {m : Mem} {Q : Exit → List (Nat × V) → Mem → Prop} (h : RgN Tryz.prog N l t m Q (fun i => if i == 18 then .f else if i == 17 then .a else if i == 1 || i == 5 || i == 6 || i == 8 || i == 9 || i == 11 || i == 13 then .q else .p) [.one 0, .one 1, .one 2, .one 3, .one 4, .one 5, .one 6, .one 7, .one 8, .one 9, .one 10, .one 11, .one 12, .one 13, .one 14, .one 15, .one 16, .one 17, .one 18, .one 19]) : WA Tryz.prog N (.region 9 l.toArray true) t m Q := d_rgN h
theorem rfriction_c (a : ActR) (ha : Lt a) (h : acErr a = 0) (x : Rat) (hx : sm x) (m : Mem) : Gives Tryz.prog 63 [.agg (actV a), .agg [.int .i64 (Rat.num (x)), .int .i64 ((Rat.den (x) : Nat) : Int)]] m (.tup [.agg [.int .i64 (Rat.num ((frcRA a x).1)), .int .i64 ((Rat.den ((frcRA a x).1) : Nat) : Int)], .bool (frcRA a x).2]) := by
  have hp := acErr_pts h
  have hla := prtsV_length (l := a.parts)
  have hfew := hp.few
  have hga := hla
  have hgb := hla
  unfold actV frcRA
  refine Gives_in Tryz.func63 rfl Tryz.ntmps63 Tryz.results63 (by kernel_rfl) (by simp) rfl fun Q hQ => ?_
  (have FX := And.intro hla (And.intro hga hgb); repeat' (first | (refine sx ?_ ?_ <;> intro h <;> first | (exfalso; omega) | skip) | (refine g_op ?_; refine g_call ?_; refine g_args ?_; (first | refine s_fn (rwhole_c _ _) ?_) <;> try first | omega | assumption) | refine ny ?_ | refine WA_block ?_ | (refine uC53_63_9 ?_; refine ⟨by kernel_rfl, ?_⟩) | ((first | refine grp_cons (fun _ => rwhole_c _ _) ?_) <;> try first | omega | assumption) | (refine g_d ?_; refine d_args ?_; (first | refine d_fn (rwhole_c _ _) ?_ | refine d_fnQ (fun _ => rwhole_c _ _) ?_) <;> try first | omega | assumption) | (refine g_d ?_; (first | refine d_fnY (rwhole_c _ _) ?_) <;> try first | omega | assumption)))
  refine WA_whileK (σ := Nat) [2, 3, 4, 6, 7, 8] (fun i => [.ptr (lend m).length 0 0, .ptr ((lend m).length + 1) 0 0, .ptr ((lend m).length + 2) 0 0, .ptr ((lend m).length + 3) 0 0, .bool (frcR a x i).2, .int .i64 i]) (fun i => [actB a, .cells .own 42 2 [[.int .i64 x.num, .int .i64 (x.den : Int)]], .cells .own 42 2 [[.int .i64 0, .int .i64 0]], .cells .own 42 2 [[.int .i64 (frcR a x i).1.num, .int .i64 ((frcR a x i).1.den : Int)]]]) 4 (fun i => i ≤ a.parts.length) (fun i => a.parts.length - i) 0 (Nat.zero_le _) tv_ rfl (fun _ => rfl) (by intro s s' _ _; simp [conB, conS, V.keeps, V.plain, Blk.flat, flatL, plainL, V.flat]) (by intro s s' _ _; simp [conB, conS, V.keeps, V.plain, Blk.flat, flatL, plainL, V.flat]) ?_
  rintro i hi1 K hK
  simp only [zipT]
  clear FX hga hgb
  have hst := frcR_stay (a := a) (x := x) (i := i)
  have hsm := frcR_sm (a := a) (x := x) (i := i)
  have hno := frcR_none' (a := a) (x := x) (i := i)
  have hso := fun h c => frcR_some (a := a) (x := x) (i := i) h (c := c)
  have hnx := hK (i + 1)
  cases hgd : (frcR a x i).2 with
  | false =>
    rw [hst hgd hi1, hgd] at hQ
    generalize (frcR a x i).1 = q at *
    have hga := hla
    have hgb := hla
    (have FX := And.intro hla (And.intro hga hgb); repeat' (first | (refine sx ?_ ?_ <;> intro h <;> first | (exfalso; omega) | skip) | refine ny ?_ | refine WA_block ?_ | (refine uC53_63_9 ?_; refine ⟨by kernel_rfl, ?_⟩)))
    all_goals (try (exfalso; omega))
    all_goals (refine r_es hQ ?_; try with_reducible rfl)
  | true =>
    have hsq := hsm hgd
    rcases Nat.lt_or_ge i a.parts.length with hi | hi
    · have hga := prtsV_get hi
      have hgb := hla
      have hw := (ptErr_zero (hp.pt i hi)).2.2.2.2.2
      obtain ⟨z, b, _, g2, g3, hcu⟩ := rcvof_c a ha h i hi
      unfold actV at hcu
      cases hc : cvP a i with
      | none =>
        obtain rfl := g3 hc
        have e0 := hno hgd hc
        have e1 := frcR_stay (a := a) (x := x) (i := i + 1) (by rw [e0]) hi
        rw [e1, e0] at hQ
        generalize (frcR a x i).1 = q at *
        unfold prtV at hga
        (have FX := And.intro hla (And.intro hga hgb); repeat' (first | (refine sx ?_ ?_ <;> intro h <;> first | (exfalso; omega) | skip) | (refine g_op ?_; refine g_call ?_; refine g_args ?_; (first | refine s_fn (rwhole_c _ _) ?_ | refine s_fn (hcu _) ?_) <;> try first | omega | assumption) | refine ny ?_ | refine WA_block ?_ | (refine uC53_63_9 ?_; refine ⟨by kernel_rfl, ?_⟩) | ((first | refine grp_cons (fun _ => rwhole_c _ _) ?_ | refine grp_cons (fun _ => hcu _) ?_) <;> try first | omega | assumption) | (refine g_d ?_; refine d_args ?_; (first | refine d_fn (rwhole_c _ _) ?_ | refine d_fn (hcu _) ?_ | refine d_fnQ (fun _ => rwhole_c _ _) ?_ | refine d_fnQ (fun _ => hcu _) ?_) <;> try first | omega | assumption) | (refine g_d ?_; (first | refine d_fnY (rwhole_c _ _) ?_ | refine d_fnY (hcu _) ?_) <;> try first | omega | assumption)))
        all_goals (try (exfalso; omega))
        all_goals (refine r_es hQ ?_; try with_reducible rfl)
      | some c =>
        obtain ⟨rfl, rfl⟩ := g2 c hc
        have hv := cvP_valid hp hi hc
        have hsl := fun m => rslopeat_c c x hv hx m
        have hss := sm_slopeE hv x
        have e0 := hso hgd c hc
        generalize (frcR a x i).1 = q at *
        generalize a.parts.getD i p0 = pt at *
        generalize slopeE c x = f at *
        have hfn := sm_num hss
        have hab := fun m => babs_c f.num (by omega) (by omega) m
        obtain ⟨n1, n2⟩ := absQ_num f
        have n3 : ((f.num.natAbs : Nat) : Int) = (absQ f).num := by rw [n1]; split <;> omega
        rw [n3] at hab
        have hsa := sm_abs hss
        have hmu : ∀ m, Gives Tryz.prog 87 [.agg [.int .i64 pt.fr, .int .i64 1], .agg [.int .i64 (absQ f).num, .int .i64 (f.den : Int)]] m (.tup [.agg [.int .i64 (Rat.num ((pt.fr : Rat) * absQ f)), .int .i64 ((Rat.den ((pt.fr : Rat) * absQ f) : Nat) : Int)], .bool (smB ((pt.fr : Rat) * absQ f))]) := fun m => by
          rw [← n2]
          exact rmul_c (pt.fr : Rat) (absQ f) (sm_int (by omega)) hsa m
        clear n1 n2 n3
        generalize absQ f = f2 at *
        unfold prtV at hga
        by_cases ho : sm ((pt.fr : Rat) * f2)
        · rw [if_pos ho] at e0
          rw [smB_of ho] at hmu
          have had := fun m => radd_c q ((pt.fr : Rat) * f2) hsq ho m
          rw [e0] at hnx
          have hny := fun (_ : Unit) => hnx
          (have FX := And.intro hla (And.intro hga hgb); repeat' (first | (refine sx ?_ ?_ <;> intro h <;> first | (exfalso; omega) | skip) | (refine g_op ?_; refine g_call ?_; refine g_args ?_; (first | refine s_fn (rwhole_c _ _) ?_ | refine s_fn (hcu _) ?_ | refine s_fn (hsl _) ?_ | refine s_fn (hmu _) ?_ | refine s_fn (had _) ?_ | refine s_fn (hab _) ?_) <;> try first | omega | assumption) | refine ny ?_ | refine WA_block ?_ | (refine uC53_63_9 ?_; refine ⟨by kernel_rfl, ?_⟩) | ((first | refine grp_cons (fun _ => rwhole_c _ _) ?_ | refine grp_cons (fun _ => hcu _) ?_ | refine grp_cons (fun _ => hsl _) ?_ | refine grp_cons (fun _ => hmu _) ?_ | refine grp_cons (fun _ => had _) ?_ | refine grp_cons (fun _ => hab _) ?_) <;> try first | omega | assumption) | (refine g_d ?_; refine d_args ?_; (first | refine d_fn (rwhole_c _ _) ?_ | refine d_fn (hcu _) ?_ | refine d_fn (hsl _) ?_ | refine d_fn (hmu _) ?_ | refine d_fn (had _) ?_ | refine d_fn (hab _) ?_ | refine d_fnQ (fun _ => rwhole_c _ _) ?_ | refine d_fnQ (fun _ => hcu _) ?_ | refine d_fnQ (fun _ => hsl _) ?_ | refine d_fnQ (fun _ => hmu _) ?_ | refine d_fnQ (fun _ => had _) ?_ | refine d_fnQ (fun _ => hab _) ?_) <;> try first | omega | assumption) | (refine g_d ?_; (first | refine d_fnY (rwhole_c _ _) ?_ | refine d_fnY (hcu _) ?_ | refine d_fnY (hsl _) ?_ | refine d_fnY (hmu _) ?_ | refine d_fnY (had _) ?_ | refine d_fnY (hab _) ?_) <;> try first | omega | assumption)))
          all_goals (try (exfalso; omega))
          all_goals (refine nextL_ hny () (by omega) (by omega))
        · rw [if_neg ho] at e0
          rw [smB_no ho] at hmu
          rw [e0] at hnx
          have hny := fun (_ : Unit) => hnx
          (have FX := And.intro hla (And.intro hga hgb); repeat' (first | (refine sx ?_ ?_ <;> intro h <;> first | (exfalso; omega) | skip) | (refine g_op ?_; refine g_call ?_; refine g_args ?_; (first | refine s_fn (rwhole_c _ _) ?_ | refine s_fn (hcu _) ?_ | refine s_fn (hsl _) ?_ | refine s_fn (hmu _) ?_ | refine s_fn (hab _) ?_) <;> try first | omega | assumption) | refine ny ?_ | refine WA_block ?_ | (refine uC53_63_9 ?_; refine ⟨by kernel_rfl, ?_⟩) | ((first | refine grp_cons (fun _ => rwhole_c _ _) ?_ | refine grp_cons (fun _ => hcu _) ?_ | refine grp_cons (fun _ => hsl _) ?_ | refine grp_cons (fun _ => hmu _) ?_ | refine grp_cons (fun _ => hab _) ?_) <;> try first | omega | assumption) | (refine g_d ?_; refine d_args ?_; (first | refine d_fn (rwhole_c _ _) ?_ | refine d_fn (hcu _) ?_ | refine d_fn (hsl _) ?_ | refine d_fn (hmu _) ?_ | refine d_fn (hab _) ?_ | refine d_fnQ (fun _ => rwhole_c _ _) ?_ | refine d_fnQ (fun _ => hcu _) ?_ | refine d_fnQ (fun _ => hsl _) ?_ | refine d_fnQ (fun _ => hmu _) ?_ | refine d_fnQ (fun _ => hab _) ?_) <;> try first | omega | assumption) | (refine g_d ?_; (first | refine d_fnY (rwhole_c _ _) ?_ | refine d_fnY (hcu _) ?_ | refine d_fnY (hsl _) ?_ | refine d_fnY (hmu _) ?_ | refine d_fnY (hab _) ?_) <;> try first | omega | assumption)))
          all_goals (try (exfalso; omega))
          all_goals (refine nextL_ hny () (by omega) (by omega))
    · have hie : i = a.parts.length := by omega
      subst hie
      rw [hgd] at hQ
      generalize (frcR a x a.parts.length).1 = q at *
      have hga := hla
      have hgb := hla
      (have FX := And.intro hla (And.intro hga hgb); repeat' (first | (refine sx ?_ ?_ <;> intro h <;> first | (exfalso; omega) | skip) | refine ny ?_ | refine WA_block ?_ | (refine uC53_63_9 ?_; refine ⟨by kernel_rfl, ?_⟩)))
      all_goals (try (exfalso; omega))
      all_goals (refine r_es hQ ?_; try with_reducible rfl)
end Go.Proofs.YtihbeoplchiikaaGreatDoor
/- contracts: weights and windows of the reference -/
namespace Go.Proofs.YtihbeoplchiikaaGreatDoor
open Go.RowKit
attribute [local irreducible] WA WOs WDs WAn qThen qBlock tput
set_option maxHeartbeats 1000000
set_option maxRecDepth 20000
set_option linter.unusedSimpArgs false
set_option linter.unusedVariables false
attribute [local irreducible] smB cut sm
def wtV (a : ActR) (x : Rat) : V := if (balRA a x).2 = true ∧ (frcRA a x).2 = true then .tup [.agg [.int .i64 ((balRA a x).1 + (frcRA a x).1).num, .int .i64 (((balRA a x).1 + (frcRA a x).1).den : Int), .int .i64 ((balRA a x).1 - (frcRA a x).1).num, .int .i64 (((balRA a x).1 - (frcRA a x).1).den : Int)], .bool (smB ((balRA a x).1 + (frcRA a x).1) && smB ((balRA a x).1 - (frcRA a x).1))] else .tup [.agg [.int .i64 0, .int .i64 0, .int .i64 0, .int .i64 0], .bool false]
theorem balRA_sm {a : ActR} {x : Rat} (h : (balRA a x).2 = true) : sm (balRA a x).1 := by
  unfold balRA at *
  exact ldR_sm (fun h => balR_sm h) h

theorem rweights_c (a : ActR) (ha : Lt a) (h : acErr a = 0) (x : Rat) (hx : sm x) (m : Mem) : Gives Tryz.prog 37 [.agg (actV a), .agg [.int .i64 (Rat.num (x)), .int .i64 ((Rat.den (x) : Nat) : Int)]] m (wtV a x) := by
  have hla := prtsV_length (l := a.parts)
  have hb := fun m => rbalance_c a ha h x hx m
  have hf := fun m => rfriction_c a ha h x hx m
  have hsb := balRA_sm (a := a) (x := x)
  have hsf := frcR_sm (a := a) (x := x) (i := a.parts.length)
  unfold wtV
  unfold frcRA at *
  generalize balRA a x = s at *
  generalize frcR a x a.parts.length = r at *
  obtain ⟨p, b⟩ := s
  obtain ⟨q, c⟩ := r
  dsimp only at *
  unfold actV at hb hf ⊢
  by_cases hg : b = true ∧ c = true
  · obtain ⟨rfl, rfl⟩ := hg
    rw [if_pos ⟨rfl, rfl⟩]
    have h1 := fun m => radd_c p q (hsb rfl) (hsf rfl) m
    have h2 := fun m => rsub_c p q (hsb rfl) (hsf rfl) m
    generalize smB (p + q) = b1 at *
    generalize smB (p - q) = b2 at *
    cases b1 <;> cases b2
    all_goals
      refine Gives_in Tryz.func37 rfl Tryz.ntmps37 Tryz.results37 (by kernel_rfl) (by simp) rfl fun Q hQ => ?_
      (have FX := hla; repeat' (first | (refine sx ?_ ?_ <;> intro h <;> first | (exfalso; omega) | skip) | (refine g_op ?_; refine g_call ?_; refine g_args ?_; (first | refine s_fn (hb _) ?_ | refine s_fn (hf _) ?_ | refine s_fn (h1 _) ?_ | refine s_fn (h2 _) ?_) <;> try first | omega | assumption) | refine ny ?_ | refine WA_block ?_))
      all_goals (try (exfalso; omega))
      all_goals (refine r_es hQ ?_; try with_reducible rfl)
      all_goals rfl
  · rw [if_neg hg]
    cases b <;> cases c
    all_goals try exact absurd ⟨rfl, rfl⟩ hg
    all_goals
      refine Gives_in Tryz.func37 rfl Tryz.ntmps37 Tryz.results37 (by kernel_rfl) (by simp) rfl fun Q hQ => ?_
      (have FX := hla; repeat' (first | (refine sx ?_ ?_ <;> intro h <;> first | (exfalso; omega) | skip) | (refine g_op ?_; refine g_call ?_; refine g_args ?_; (first | refine s_fn (hb _) ?_ | refine s_fn (hf _) ?_) <;> try first | omega | assumption) | refine ny ?_ | refine WA_block ?_))
      all_goals (try (exfalso; omega))
      all_goals (refine r_es hQ ?_; try with_reducible rfl)

theorem rcheckwin_c (dn up : Int) (m : Mem) : Gives Tryz.prog 36 [.agg [.int .i64 dn, .int .i64 up]] m (.int .i64 (winErr dn up)) := by
  have hla : winErr dn up = if ¬ (-100000 ≤ dn ∧ dn ≤ 100000) ∨ ¬ (-100000 ≤ up ∧ up ≤ 100000) then 2 else 0 := rfl
  rw [hla]
  have hla := True.intro
  refine Gives_in Tryz.func36 rfl Tryz.ntmps36 Tryz.results36 (by kernel_rfl) (by simp) rfl fun Q hQ => ?_
  (have FX := hla; repeat' (first | (refine sx ?_ ?_ <;> intro h <;> first | (exfalso; omega) | skip) | (refine g_op ?_; refine g_call ?_; refine g_args ?_; (first | refine s_fn (bwithin_c _ _ _ _) ?_) <;> try first | omega | assumption) | refine ny ?_ | refine WA_block ?_))
  all_goals (try (exfalso; omega))
  all_goals (refine r_es hQ ?_; try with_reducible rfl)
  all_goals (refine congrArg (V.int .i64) ?_; (repeat (first | rw [if_pos (by first | assumption | omega | grind)] | rw [if_neg (by first | assumption | omega | grind)])))
end Go.Proofs.YtihbeoplchiikaaGreatDoor
