/- the law TopLevelAndDip, over contracts -/
import Derived.Test.YtmigenmibohnkaaD14
import Derived.Test.YtmigenmibohnkaaC47
import Derived.Test.YtmigenmibohnkaaC18
import Derived.Test.YtmigenmibohnkaaC41
set_option linter.unusedSimpArgs false
set_option linter.unusedVariables false
namespace Go.Proofs.Ytmigenmibohnkaa
open Go.RowKit
attribute [local irreducible] WA WOs WDs WAn qThen qBlock tput
set_option maxHeartbeats 1000000
set_option maxRecDepth 20000
set_option linter.unusedSimpArgs false
set_option linter.unusedVariables false
set_option maxHeartbeats 8000000
attribute [local irreducible] smB cut sm

theorem tsound_c (q : Rat) (hs : sm q) (m : Mem) : Gives Try.prog 17 [.agg [.int .i64 (Rat.num (q)), .int .i64 ((Rat.den (q) : Nat) : Int)]] m (.bool true) := by
  have hcf := fun m => rcheckfrac_c q.num q.den (B64_num hs) (B64_den hs) m
  rw [frErr_sm hs] at hcf
  refine Gives_in Try.func17 rfl Try.ntmps17 Try.results17 (by kernel_rfl) (by simp) rfl fun Q hQ => ?_
  (repeat' (first | (refine sx ?_ ?_ <;> intro h <;> first | (exfalso; omega) | skip) | (refine g_op ?_; refine g_call ?_; refine g_args ?_; (first | refine s_fn (hcf _) ?_) <;> try first | omega | assumption) | refine ny ?_ | refine WA_block ?_))
  all_goals (refine r_es hQ ?_; try with_reducible rfl)
theorem uH10_3_9 {N : Nat} {l : List Oper} {t : List (Nat × V)} {m : Mem} {Q : Exit → List (Nat × V) → Mem → Prop} (h : RgN Try.prog N l t m Q (fun i => if i == 9 then .f else if i == 1 || i == 4 || i == 8 then .a else if i == 0 || i == 3 then .q else .p) [.one 0, .one 2, .one 3, .grp true [1, 4] [8], .one 5, .one 6, .one 7, .one 9, .one 10]) : WA Try.prog N (.region 9 l.toArray true) t m Q := d_rgN h
theorem uH10_3_19 {N : Nat} {l : List Oper} {t : List (Nat × V)} {m : Mem} {Q : Exit → List (Nat × V) → Mem → Prop} (h : RgN Try.prog N l t m Q (fun i => if i == 3 || i == 4 || i == 7 || i == 11 || i == 12 || i == 13 then .q else .p) [.one 0, .one 1, .one 2, .one 3, .one 4, .one 5, .one 6, .one 7, .one 8, .one 9, .one 10, .one 11, .one 12, .one 13, .one 14, .one 15, .one 16, .one 17]) : WA Try.prog N (.region 19 l.toArray true) t m Q := d_rgN h
theorem uH10_3_20 {N : Nat} {l : List Oper} {t : List (Nat × V)} {m : Mem} {Q : Exit → List (Nat × V) → Mem → Prop} (h : RgN Try.prog N l t m Q (fun i => if i == 15 then .f else if i == 1 || i == 10 || i == 14 then .a else if i == 0 || i == 3 || i == 5 || i == 9 then .q else .p) [.one 0, .one 2, .one 3, .one 4, .one 5, .one 6, .one 7, .one 8, .one 9, .grp true [1, 10] [14], .one 11, .one 12, .one 13, .one 15, .one 16]) : WA Try.prog N (.region 20 l.toArray true) t m Q := d_rgN h
theorem uH10_3_21 {N : Nat} {l : List Oper} {t : List (Nat × V)} {m : Mem} {Q : Exit → List (Nat × V) → Mem → Prop} (h : RgN Try.prog N l t m Q (fun i => if i == 3 || i == 5 || i == 9 || i == 10 then .q else .p) [.one 0, .one 1, .one 2, .one 3, .one 4, .one 5, .one 6, .one 7, .one 8, .one 9, .one 10, .one 11]) : WA Try.prog N (.region 21 l.toArray true) t m Q := d_rgN h
theorem uH10_3_30 {N : Nat} {l : List Oper} {t : List (Nat × V)} {m : Mem} {Q : Exit → List (Nat × V) → Mem → Prop} (h : RgN Try.prog N l t m Q (fun i => if i == 10 then .f else if i == 1 || i == 5 || i == 9 then .a else if i == 0 || i == 3 || i == 4 then .q else .p) [.one 0, .one 2, .one 3, .one 4, .grp true [1, 5] [9], .one 6, .one 7, .one 8, .one 10, .one 11]) : WA Try.prog N (.region 30 l.toArray true) t m Q := d_rgN h
theorem lad_out (a : ActR) (s : List UInt8) (hout : ¬ (light a ∧ ¬ 30 < (s.length : Int) ∧ acErr a = 0 ∧ ¬ enI a s < 0)) (m : Mem) : Gives Try.prog 3 [.agg (actV a), .str s] m (.bool true) := by
  have hlg := fun m => llight_c a m
  have hea := fun (h : light a) m => reventnumber_c a s m (light_lt h).ne
  have hac := fun (h : light a) m => rcheckaction_c a (light_lt h) m
  unfold enI at hout
  unfold actV at hlg hea hac ⊢
  refine Gives_in Try.func3 rfl Try.ntmps3 Try.results3 (by kernel_rfl) (by simp) rfl fun Q hQ => ?_
  (repeat' (first | (refine sx ?_ ?_ <;> intro h <;> first | (exfalso; omega) | skip) | (refine g_op ?_; refine g_call ?_; refine g_args ?_; (first | refine s_fn (tstruck_c _) ?_ | refine s_fn (hlg _) ?_ | refine s_fn (hac (by assumption) _) ?_ | refine s_fn (hea (by assumption) _) ?_) <;> try first | omega | assumption) | refine ny ?_ | refine WA_block ?_ | (refine uH10_3_9 ?_; refine ⟨by kernel_rfl, ?_⟩) | (refine uH10_3_19 ?_; refine ⟨by kernel_rfl, ?_⟩) | (refine uH10_3_20 ?_; refine ⟨by kernel_rfl, ?_⟩) | (refine uH10_3_21 ?_; refine ⟨by kernel_rfl, ?_⟩) | (refine uH10_3_30 ?_; refine ⟨by kernel_rfl, ?_⟩) | ((first | refine grp_cons (fun _ => tstruck_c _) ?_ | refine grp_cons (fun _ => hlg _) ?_ | refine grp_cons (fun _ => hac (by assumption) _) ?_ | refine grp_cons (fun _ => hea (by assumption) _) ?_) <;> try first | omega | assumption) | (refine g_d ?_; refine d_args ?_; (first | refine d_fn (tstruck_c _) ?_ | refine d_fn (hlg _) ?_ | refine d_fn (hac (by assumption) _) ?_ | refine d_fn (hea (by assumption) _) ?_ | refine d_fnQ (fun _ => tstruck_c _) ?_ | refine d_fnQ (fun _ => hlg _) ?_ | refine d_fnQ (fun _ => hac (by assumption) _) ?_ | refine d_fnQ (fun _ => hea (by assumption) _) ?_) <;> try first | omega | assumption) | (refine g_d ?_; (first | refine d_fnY (tstruck_c _) ?_ | refine d_fnY (hlg _) ?_ | refine d_fnY (hac (by assumption) _) ?_ | refine d_fnY (hea (by assumption) _) ?_) <;> try first | omega | assumption)))
  all_goals (try (exfalso; first | exact hout ⟨by assumption, by assumption, by assumption, by assumption⟩ | omega))
  all_goals (refine r_es hQ ?_; try with_reducible rfl)
theorem rchd_f {lv : Rat} {p : Pt} (h : rchd false lv p = false) : cmpQ p.2 lv < 0 := by
  unfold rchd at h
  simp only [Bool.false_eq_true, if_false, decide_eq_false_iff_not] at h
  exact cmpQ_lt.2 (Rat.not_le.1 h)
theorem rchd_t {lv : Rat} {p : Pt} (h : rchd true lv p = false) : 0 < cmpQ p.2 lv := by
  unfold rchd at h
  simp only [if_true, decide_eq_false_iff_not] at h
  exact cmpQ_gt.2 (Rat.not_le.1 h)
theorem rchd_fy {lv y x : Rat} (h : rchd false lv (x, y) = true) : 0 ≤ cmpQ y lv := by
  unfold rchd at h
  simp only [Bool.false_eq_true, if_false, decide_eq_true_eq] at h
  rcases Int.lt_or_le (cmpQ y lv) 0 with q | q
  · exact absurd (cmpQ_lt.1 q) (Rat.not_lt.2 h)
  · exact q
theorem rchd_ty {lv y x : Rat} (h : rchd true lv (x, y) = true) : cmpQ y lv ≤ 0 := by
  unfold rchd at h
  simp only [if_true, decide_eq_true_eq] at h
  rcases Int.lt_or_le 0 (cmpQ y lv) with q | q
  · exact absurd (cmpQ_gt.1 q) (Rat.not_lt.2 h)
  · exact q
theorem lad_q {a : ActR} (hac : acErr a = 0) {s : List UInt8} (hen : ¬ enI a s < 0) : prtN a (a.evs.getD (enN a s) e0) < a.parts.length ∧ prI a (a.evs.getD (enN a s) e0).part = (prtN a (a.evs.getD (enN a s) e0) : Int) ∧ ptE a (a.evs.getD (enN a s) e0).part = 0 ∧ enN a s < a.evs.length ∧ enI a s = (enN a s : Int) ∧ eatV a s = evtP a (enN a s) ∧ -10000 ≤ (a.evs.getD (enN a s) e0).lev ∧ (a.evs.getD (enN a s) e0).lev ≤ 10000 := by
  obtain ⟨h1, h2, _⟩ := enI_ok hen
  have hz := (acErr_evs hac).2.1 _ h2
  obtain ⟨h3, h4⟩ := prtN_lt hz
  obtain ⟨_, _, _, h5⟩ := evErrAt_zero hz
  refine ⟨h3, h4, ?_, h2, h1, ?_, h5⟩
  · unfold ptE prI
    rw [if_neg (by omega), if_neg (by omega)]
  · unfold eatV
    rw [if_neg (by omega), if_neg hen]
theorem lad_in (a : ActR) (s : List UInt8) (hL : light a) (hs : ¬ 30 < (s.length : Int)) (hac0 : acErr a = 0) (hen0 : ¬ enI a s < 0) (m : Mem) : Gives Try.prog 3 [.agg (actV a), .str s] m (.bool true) := by
  have hlt := light_lt hL
  obtain ⟨q1, q2, q3, q4, q5, q6, q7, q8⟩ := lad_q hac0 hen0
  have hlg := fun m => llight_c a m
  rw [decide_eq_true hL] at hlg
  have hac := fun m => rcheckaction_c a hlt m
  rw [hac0] at hac
  have hen := fun m => reventnumber_c a s m hlt.ne
  have hx0 := And.intro hs q5
  unfold enI at hx0
  rw [show fidx (isE s) a.evs = ((enN a s : Nat) : Int) from q5] at hen
  have hcp := fun m => lcopied_l a hL m
  have hcu := fun m => acurve_c a hlt (a.evs.getD (enN a s) e0).part m
  rw [if_neg (by omega), q2, Int.toNat_natCast] at hcu
  have hea := fun m => aeventat_c a hlt s m
  rw [q6] at hea
  unfold evtP at hea
  have hev := evsV_length (l := a.evs)
  have hge := evsV_get q4
  have hti : ((enN a s : Nat) : Int).toNat = enN a s := Int.toNat_natCast _
  have hp := acErr_pts hac0
  have hcv := fun c (hc : cvP a (prtN a (a.evs.getD (enN a s) e0)) = some c) => cvP_valid hp q1 hc
  have hdip := fun c k hc hk => cv_dip (c := c) (k := k) hac0 q1 hc hk
  have hp0 : 0 ≤ prI a (a.evs.getD (enN a s) e0).part := by omega
  have hpos : ∀ q : Rat, sm q → 0 ≤ q → q ≤ (a.dip : Rat) → ∀ c, cvP a (prtN a (a.evs.getD (enN a s) e0)) = some c → posR a (a.evs.getD (enN a s) e0).part q.num (q.den : Int) = if valOk c q then (some (valE c q), 0) else (none, 8) := fun q hq h0 h1 c hc => pos_at hac0 hp0 hq h0 h1 (by rw [q2, Int.toNat_natCast]; exact hc)
  have hapo := fun n d b1 b2 m => apos_r a hlt (a.evs.getD (enN a s) e0).part n d b1 b2 m
  have hlc := hev
  have hgc := hev
  unfold actV at hlg hac hen hcp hcu hea hapo ⊢
  generalize a.evs.getD (enN a s) e0 = ev at *
  unfold evV at hge
  cases hc : cvP a (prtN a ev) with
  | none =>
    rw [hc] at hcu hea
    simp only [crv, rchV, frO] at hcu hea
    refine Gives_in Try.func3 rfl Try.ntmps3 Try.results3 (by kernel_rfl) (by simp) rfl fun Q hQ => ?_
    (have FX := And.intro hx0 (And.intro hev (And.intro hge (And.intro hlc (And.intro hgc hti)))); repeat' (first | (refine sx ?_ ?_ <;> intro h <;> first | (exfalso; omega) | skip) | (refine g_op ?_; refine g_call ?_; refine g_args ?_; (first | refine s_fn (tstruck_c _) ?_ | refine s_fn (hlg _) ?_ | refine s_fn (hac _) ?_ | refine s_fn (hen _) ?_ | refine s_fn (hcp _) ?_ | refine s_fn (hcu _) ?_ | refine s_fn (hea _) ?_) <;> try first | omega | assumption) | refine ny ?_ | refine WA_block ?_ | (refine uH10_3_9 ?_; refine ⟨by kernel_rfl, ?_⟩) | (refine uH10_3_19 ?_; refine ⟨by kernel_rfl, ?_⟩) | (refine uH10_3_20 ?_; refine ⟨by kernel_rfl, ?_⟩) | (refine uH10_3_21 ?_; refine ⟨by kernel_rfl, ?_⟩) | (refine uH10_3_30 ?_; refine ⟨by kernel_rfl, ?_⟩) | ((first | refine grp_cons (fun _ => tstruck_c _) ?_ | refine grp_cons (fun _ => hlg _) ?_ | refine grp_cons (fun _ => hac _) ?_ | refine grp_cons (fun _ => hen _) ?_ | refine grp_cons (fun _ => hcp _) ?_ | refine grp_cons (fun _ => hcu _) ?_ | refine grp_cons (fun _ => hea _) ?_) <;> try first | omega | assumption) | (refine g_d ?_; refine d_args ?_; (first | refine d_fn (tstruck_c _) ?_ | refine d_fn (hlg _) ?_ | refine d_fn (hac _) ?_ | refine d_fn (hen _) ?_ | refine d_fn (hcp _) ?_ | refine d_fn (hcu _) ?_ | refine d_fn (hea _) ?_ | refine d_fnQ (fun _ => tstruck_c _) ?_ | refine d_fnQ (fun _ => hlg _) ?_ | refine d_fnQ (fun _ => hac _) ?_ | refine d_fnQ (fun _ => hen _) ?_ | refine d_fnQ (fun _ => hcp _) ?_ | refine d_fnQ (fun _ => hcu _) ?_ | refine d_fnQ (fun _ => hea _) ?_) <;> try first | omega | assumption) | (refine g_d ?_; (first | refine d_fnY (tstruck_c _) ?_ | refine d_fnY (hlg _) ?_ | refine d_fnY (hac _) ?_ | refine d_fnY (hen _) ?_ | refine d_fnY (hcp _) ?_ | refine d_fnY (hcu _) ?_ | refine d_fnY (hea _) ?_) <;> try first | omega | assumption)))
    all_goals (try (exfalso; omega))
    all_goals (refine r_es hQ ?_; try with_reducible rfl)
  | some c =>
    rw [hc] at hcu hea
    simp only [crv] at hcu hea
    have hv := hcv c hc
    have hf60 := hv.few
    have hpc := hv.pos
    have hlc := ptsV_length (c := c)
    have hslv : sm (ev.lev : Rat) := sm_int (by omega)
    obtain ⟨enm, eprt, lev, efl⟩ := ev
    dsimp only at *
    have hpk : ∀ k, k < c.length → ∀ m, Gives Try.prog 19 [.agg [.int .i64 a.dip, .lst (prtsV a.parts), .lst (evsV a.evs), .lst (ldsV a.leads)], .str eprt, .agg [.int .i64 (Rat.num ((at' c k).1)), .int .i64 ((Rat.den ((at' c k).1) : Nat) : Int)]] m (.tup [.agg [.int .i64 (Rat.num ((at' c k).2)), .int .i64 ((Rat.den ((at' c k).2) : Nat) : Int)], .int .i64 0]) := fun k hk m => by
      obtain ⟨w1, w2⟩ := val_at hv hk
      obtain ⟨w3, w4⟩ := hdip c k hc hk
      have hsk := hv.sm k hk
      have h := hapo (at' c k).1.num (at' c k).1.den (B64_num hsk.1) (B64_den hsk.1) m
      rw [hpos _ hsk.1 w3 w4 c hc, if_pos w1, w2] at h
      exact h
    rcases rch_code c (lev : Rat) efl with ⟨x, hx⟩ | hx | hx
    · obtain ⟨hsx0, _, hx1, hx2⟩ := sm_rch hv hx
      have hlast := hdip c (c.length - 1) hc (by omega)
      have hfirst := hdip c 0 hc hpc
      have hnr := fun k hk h => rch_befor hv hx (k := k) hk h
      have hval := rch_val hv hx
      have hpx : ∀ m, Gives Try.prog 19 [.agg [.int .i64 a.dip, .lst (prtsV a.parts), .lst (evsV a.evs), .lst (ldsV a.leads)], .str eprt, .agg [.int .i64 (Rat.num (x)), .int .i64 ((Rat.den (x) : Nat) : Int)]] m (rchV (if valOk c x then (some (valE c x), 0) else (none, 8))) := fun m => by
        have h := hapo x.num x.den (B64_num hsx0) (B64_den hsx0) m
        rw [hpos _ hsx0 (Rat.le_trans hfirst.1 hx1) (Rat.le_trans hx2 hlast.2) c hc] at h
        exact h
      rw [hx] at hea
      simp only [rchV, frO] at hea
      have hsa := fun m => tsound_c x hsx0 m
      have hsv := fun ho => sm_valE hv (x := x) ho
      clear hapo hpos hcv hx hdip
      cases efl with
      | false =>
        refine Gives_in Try.func3 rfl Try.ntmps3 Try.results3 (by kernel_rfl) (by simp) rfl fun Q hQ => ?_
        (have FX := And.intro hx0 (And.intro hev (And.intro hge (And.intro hlc hti))); repeat' (first | (refine sx ?_ ?_ <;> intro h <;> first | (exfalso; omega) | skip) | (refine g_op ?_; refine g_call ?_; refine g_args ?_; (first | refine s_fn (tstruck_c _) ?_ | refine s_fn (hlg _) ?_ | refine s_fn (hac _) ?_ | refine s_fn (hen _) ?_ | refine s_fn (hcp _) ?_ | refine s_fn (hcu _) ?_ | refine s_fn (hea _) ?_ | refine s_fn (rwhole_c _ _) ?_) <;> try first | omega | assumption) | refine ny ?_ | refine WA_block ?_ | (refine uH10_3_9 ?_; refine ⟨by kernel_rfl, ?_⟩) | (refine uH10_3_19 ?_; refine ⟨by kernel_rfl, ?_⟩) | (refine uH10_3_20 ?_; refine ⟨by kernel_rfl, ?_⟩) | (refine uH10_3_21 ?_; refine ⟨by kernel_rfl, ?_⟩) | (refine uH10_3_30 ?_; refine ⟨by kernel_rfl, ?_⟩) | ((first | refine grp_cons (fun _ => tstruck_c _) ?_ | refine grp_cons (fun _ => hlg _) ?_ | refine grp_cons (fun _ => hac _) ?_ | refine grp_cons (fun _ => hen _) ?_ | refine grp_cons (fun _ => hcp _) ?_ | refine grp_cons (fun _ => hcu _) ?_ | refine grp_cons (fun _ => hea _) ?_ | refine grp_cons (fun _ => rwhole_c _ _) ?_) <;> try first | omega | assumption) | (refine g_d ?_; refine d_args ?_; (first | refine d_fn (tstruck_c _) ?_ | refine d_fn (hlg _) ?_ | refine d_fn (hac _) ?_ | refine d_fn (hen _) ?_ | refine d_fn (hcp _) ?_ | refine d_fn (hcu _) ?_ | refine d_fn (hea _) ?_ | refine d_fn (rwhole_c _ _) ?_ | refine d_fnQ (fun _ => tstruck_c _) ?_ | refine d_fnQ (fun _ => hlg _) ?_ | refine d_fnQ (fun _ => hac _) ?_ | refine d_fnQ (fun _ => hen _) ?_ | refine d_fnQ (fun _ => hcp _) ?_ | refine d_fnQ (fun _ => hcu _) ?_ | refine d_fnQ (fun _ => hea _) ?_ | refine d_fnQ (fun _ => rwhole_c _ _) ?_) <;> try first | omega | assumption) | (refine g_d ?_; (first | refine d_fnY (tstruck_c _) ?_ | refine d_fnY (hlg _) ?_ | refine d_fnY (hac _) ?_ | refine d_fnY (hen _) ?_ | refine d_fnY (hcp _) ?_ | refine d_fnY (hcu _) ?_ | refine d_fnY (hea _) ?_ | refine d_fnY (rwhole_c _ _) ?_) <;> try first | omega | assumption)))
        all_goals (try (exfalso; omega))
        refine WA_whileK (σ := Nat) [2, 6, 7, 9, 10, 11, 12] (fun k => [.ptr (lend m).length 0 0, .ptr ((lend m).length + 1) 0 0, .ptr ((lend m).length + 3) 0 0, .ptr ((lend m).length + 4) 0 0, .int .i64 0, .ptr ((lend m).length + 5) 0 0, .int .i64 k]) (fun _ => [.cells .own 26 4 [[.int .i64 a.dip, .lst (prtsV a.parts), .lst (evsV a.evs), .lst (ldsV a.leads)]], .cells .own 32 4 [[.str enm, .str eprt, .int .i64 lev, .bool false]], .dead, .cells .own 35 1 [[.lst (ptsV c)]], .cells .own 41 2 [[.int .i64 x.num, .int .i64 (x.den : Int)]], .cells .own 41 2 [[.int .i64 lev, .int .i64 1]]]) 6 (fun k => k ≤ c.length) (fun k => c.length - k) 0 (Nat.zero_le _) tv_ rfl (fun _ => rfl) (by intro s s' _ _; simp [conB, conS, V.keeps, V.plain, Blk.flat, flatL, V.flat]) (by intro s s' _ _; simp [conB, conS, V.keeps, V.plain, Blk.flat, flatL, V.flat]) ?_
        rintro k hk1 K hK
        simp only [zipT]
        clear FX
        rcases Nat.lt_or_ge k c.length with hk | hk
        · have hgc := ptsV_get hk
          have hti : ((k : Nat) : Int).toNat = k := Int.toNat_natCast _
          have hsk := hv.sm k hk
          have hsx := fun m => tsound_c (at' c k).1 hsk.1 m
          have hsy := fun m => tsound_c (at' c k).2 hsk.2 m
          have hpo := hpk k hk
          have hcy := fun m => bcmp_c (at' c k).2 (lev : Rat) hsk.2 hslv m
          have hcy2 : ∀ m, Gives Try.prog 18 [.agg [.int .i64 (Rat.num ((at' c k).2)), .int .i64 ((Rat.den ((at' c k).2) : Nat) : Int)], .agg [.int .i64 lev, .int .i64 1]] m (.int .i64 (cmpQ (at' c k).2 (lev : Rat))) := hcy
          have hcx := fun m => bcmp_c (at' c k).1 x hsk.1 hsx0 m
          have hnf : cmpQ (at' c k).1 x < 0 → cmpQ (at' c k).2 (lev : Rat) < 0 := fun h => rchd_f (hnr k hk (cmpQ_lt.1 h))
          unfold ptV at hgc
          (have FX := And.intro hlc (And.intro hgc (And.intro hti hnf)); repeat' (first | (refine sx ?_ ?_ <;> intro h <;> first | (exfalso; omega) | skip) | (refine g_op ?_; refine g_call ?_; refine g_args ?_; (first | refine s_fn (tstruck_c _) ?_ | refine s_fn (hcp _) ?_ | refine s_fn (hsx _) ?_ | refine s_fn (hsy _) ?_ | refine s_fn (hpo _) ?_ | refine s_fn (hcy2 _) ?_ | refine s_fn (hsa _) ?_ | refine s_fn (hcx _) ?_) <;> try first | omega | assumption) | refine ny ?_ | refine WA_block ?_ | (refine uH10_3_9 ?_; refine ⟨by kernel_rfl, ?_⟩) | (refine uH10_3_19 ?_; refine ⟨by kernel_rfl, ?_⟩) | (refine uH10_3_20 ?_; refine ⟨by kernel_rfl, ?_⟩) | (refine uH10_3_21 ?_; refine ⟨by kernel_rfl, ?_⟩) | (refine uH10_3_30 ?_; refine ⟨by kernel_rfl, ?_⟩) | ((first | refine grp_cons (fun _ => tstruck_c _) ?_ | refine grp_cons (fun _ => hcp _) ?_ | refine grp_cons (fun _ => hsx _) ?_ | refine grp_cons (fun _ => hsy _) ?_ | refine grp_cons (fun _ => hpo _) ?_ | refine grp_cons (fun _ => hcy2 _) ?_ | refine grp_cons (fun _ => hsa _) ?_ | refine grp_cons (fun _ => hcx _) ?_) <;> try first | omega | assumption) | (refine g_d ?_; refine d_args ?_; (first | refine d_fn (tstruck_c _) ?_ | refine d_fn (hcp _) ?_ | refine d_fn (hsx _) ?_ | refine d_fn (hsy _) ?_ | refine d_fn (hpo _) ?_ | refine d_fn (hcy2 _) ?_ | refine d_fn (hsa _) ?_ | refine d_fn (hcx _) ?_ | refine d_fnQ (fun _ => tstruck_c _) ?_ | refine d_fnQ (fun _ => hcp _) ?_ | refine d_fnQ (fun _ => hsx _) ?_ | refine d_fnQ (fun _ => hsy _) ?_ | refine d_fnQ (fun _ => hpo _) ?_ | refine d_fnQ (fun _ => hcy2 _) ?_ | refine d_fnQ (fun _ => hsa _) ?_ | refine d_fnQ (fun _ => hcx _) ?_) <;> try first | omega | assumption) | (refine g_d ?_; (first | refine d_fnY (tstruck_c _) ?_ | refine d_fnY (hcp _) ?_ | refine d_fnY (hsx _) ?_ | refine d_fnY (hsy _) ?_ | refine d_fnY (hpo _) ?_ | refine d_fnY (hcy2 _) ?_ | refine d_fnY (hsa _) ?_ | refine d_fnY (hcx _) ?_) <;> try first | omega | assumption)))
          all_goals (try (exfalso; omega))
          all_goals (refine nextL_ hK (k + 1) hk (by omega))
        · have hke : k = c.length := by omega
          subst hke
          by_cases ho : valOk c x
          · rw [if_pos ho] at hpx
            simp only [rchV, frO] at hpx
            have hsv := hsv ho
            have hcz : ∀ m, Gives Try.prog 18 [.agg [.int .i64 (Rat.num ((valE c x))), .int .i64 ((Rat.den ((valE c x)) : Nat) : Int)], .agg [.int .i64 lev, .int .i64 1]] m (.int .i64 (cmpQ (valE c x) (lev : Rat))) := fun m => bcmp_c (valE c x) (lev : Rat) hsv hslv m
            have hvf := rchd_fy hval
            (have FX := And.intro hlc hvf; repeat' (first | (refine sx ?_ ?_ <;> intro h <;> first | (exfalso; omega) | skip) | (refine g_op ?_; refine g_call ?_; refine g_args ?_; (first | refine s_fn (hcp _) ?_ | refine s_fn (hpx _) ?_ | refine s_fn (hcz _) ?_) <;> try first | omega | assumption) | refine ny ?_ | refine WA_block ?_ | (refine uH10_3_9 ?_; refine ⟨by kernel_rfl, ?_⟩) | (refine uH10_3_19 ?_; refine ⟨by kernel_rfl, ?_⟩) | (refine uH10_3_20 ?_; refine ⟨by kernel_rfl, ?_⟩) | (refine uH10_3_21 ?_; refine ⟨by kernel_rfl, ?_⟩) | (refine uH10_3_30 ?_; refine ⟨by kernel_rfl, ?_⟩) | ((first | refine grp_cons (fun _ => hcp _) ?_ | refine grp_cons (fun _ => hpx _) ?_ | refine grp_cons (fun _ => hcz _) ?_) <;> try first | omega | assumption) | (refine g_d ?_; refine d_args ?_; (first | refine d_fn (hcp _) ?_ | refine d_fn (hpx _) ?_ | refine d_fn (hcz _) ?_ | refine d_fnQ (fun _ => hcp _) ?_ | refine d_fnQ (fun _ => hpx _) ?_ | refine d_fnQ (fun _ => hcz _) ?_) <;> try first | omega | assumption) | (refine g_d ?_; (first | refine d_fnY (hcp _) ?_ | refine d_fnY (hpx _) ?_ | refine d_fnY (hcz _) ?_) <;> try first | omega | assumption)))
            all_goals (try (exfalso; omega))
            all_goals (refine r_es hQ ?_; try with_reducible rfl)
          · rw [if_neg ho] at hpx
            simp only [rchV, frO] at hpx
            (have FX := hlc; repeat' (first | (refine sx ?_ ?_ <;> intro h <;> first | (exfalso; omega) | skip) | (refine g_op ?_; refine g_call ?_; refine g_args ?_; (first | refine s_fn (hcp _) ?_ | refine s_fn (hpx _) ?_) <;> try first | omega | assumption) | refine ny ?_ | refine WA_block ?_ | (refine uH10_3_9 ?_; refine ⟨by kernel_rfl, ?_⟩) | (refine uH10_3_19 ?_; refine ⟨by kernel_rfl, ?_⟩) | (refine uH10_3_20 ?_; refine ⟨by kernel_rfl, ?_⟩) | (refine uH10_3_21 ?_; refine ⟨by kernel_rfl, ?_⟩) | (refine uH10_3_30 ?_; refine ⟨by kernel_rfl, ?_⟩) | ((first | refine grp_cons (fun _ => hcp _) ?_ | refine grp_cons (fun _ => hpx _) ?_) <;> try first | omega | assumption) | (refine g_d ?_; refine d_args ?_; (first | refine d_fn (hcp _) ?_ | refine d_fn (hpx _) ?_ | refine d_fnQ (fun _ => hcp _) ?_ | refine d_fnQ (fun _ => hpx _) ?_) <;> try first | omega | assumption) | (refine g_d ?_; (first | refine d_fnY (hcp _) ?_ | refine d_fnY (hpx _) ?_) <;> try first | omega | assumption)))
            all_goals (try (exfalso; omega))
            all_goals (refine r_es hQ ?_; try with_reducible rfl)
      | true =>
        refine Gives_in Try.func3 rfl Try.ntmps3 Try.results3 (by kernel_rfl) (by simp) rfl fun Q hQ => ?_
        (have FX := And.intro hx0 (And.intro hev (And.intro hge (And.intro hlc hti))); repeat' (first | (refine sx ?_ ?_ <;> intro h <;> first | (exfalso; omega) | skip) | (refine g_op ?_; refine g_call ?_; refine g_args ?_; (first | refine s_fn (tstruck_c _) ?_ | refine s_fn (hlg _) ?_ | refine s_fn (hac _) ?_ | refine s_fn (hen _) ?_ | refine s_fn (hcp _) ?_ | refine s_fn (hcu _) ?_ | refine s_fn (hea _) ?_ | refine s_fn (rwhole_c _ _) ?_) <;> try first | omega | assumption) | refine ny ?_ | refine WA_block ?_ | (refine uH10_3_9 ?_; refine ⟨by kernel_rfl, ?_⟩) | (refine uH10_3_19 ?_; refine ⟨by kernel_rfl, ?_⟩) | (refine uH10_3_20 ?_; refine ⟨by kernel_rfl, ?_⟩) | (refine uH10_3_21 ?_; refine ⟨by kernel_rfl, ?_⟩) | (refine uH10_3_30 ?_; refine ⟨by kernel_rfl, ?_⟩) | ((first | refine grp_cons (fun _ => tstruck_c _) ?_ | refine grp_cons (fun _ => hlg _) ?_ | refine grp_cons (fun _ => hac _) ?_ | refine grp_cons (fun _ => hen _) ?_ | refine grp_cons (fun _ => hcp _) ?_ | refine grp_cons (fun _ => hcu _) ?_ | refine grp_cons (fun _ => hea _) ?_ | refine grp_cons (fun _ => rwhole_c _ _) ?_) <;> try first | omega | assumption) | (refine g_d ?_; refine d_args ?_; (first | refine d_fn (tstruck_c _) ?_ | refine d_fn (hlg _) ?_ | refine d_fn (hac _) ?_ | refine d_fn (hen _) ?_ | refine d_fn (hcp _) ?_ | refine d_fn (hcu _) ?_ | refine d_fn (hea _) ?_ | refine d_fn (rwhole_c _ _) ?_ | refine d_fnQ (fun _ => tstruck_c _) ?_ | refine d_fnQ (fun _ => hlg _) ?_ | refine d_fnQ (fun _ => hac _) ?_ | refine d_fnQ (fun _ => hen _) ?_ | refine d_fnQ (fun _ => hcp _) ?_ | refine d_fnQ (fun _ => hcu _) ?_ | refine d_fnQ (fun _ => hea _) ?_ | refine d_fnQ (fun _ => rwhole_c _ _) ?_) <;> try first | omega | assumption) | (refine g_d ?_; (first | refine d_fnY (tstruck_c _) ?_ | refine d_fnY (hlg _) ?_ | refine d_fnY (hac _) ?_ | refine d_fnY (hen _) ?_ | refine d_fnY (hcp _) ?_ | refine d_fnY (hcu _) ?_ | refine d_fnY (hea _) ?_ | refine d_fnY (rwhole_c _ _) ?_) <;> try first | omega | assumption)))
        all_goals (try (exfalso; omega))
        refine WA_whileK (σ := Nat) [2, 6, 7, 9, 10, 11, 12] (fun k => [.ptr (lend m).length 0 0, .ptr ((lend m).length + 1) 0 0, .ptr ((lend m).length + 3) 0 0, .ptr ((lend m).length + 4) 0 0, .int .i64 0, .ptr ((lend m).length + 5) 0 0, .int .i64 k]) (fun _ => [.cells .own 26 4 [[.int .i64 a.dip, .lst (prtsV a.parts), .lst (evsV a.evs), .lst (ldsV a.leads)]], .cells .own 32 4 [[.str enm, .str eprt, .int .i64 lev, .bool true]], .dead, .cells .own 35 1 [[.lst (ptsV c)]], .cells .own 41 2 [[.int .i64 x.num, .int .i64 (x.den : Int)]], .cells .own 41 2 [[.int .i64 lev, .int .i64 1]]]) 6 (fun k => k ≤ c.length) (fun k => c.length - k) 0 (Nat.zero_le _) tv_ rfl (fun _ => rfl) (by intro s s' _ _; simp [conB, conS, V.keeps, V.plain, Blk.flat, flatL, V.flat]) (by intro s s' _ _; simp [conB, conS, V.keeps, V.plain, Blk.flat, flatL, V.flat]) ?_
        rintro k hk1 K hK
        simp only [zipT]
        clear FX
        rcases Nat.lt_or_ge k c.length with hk | hk
        · have hgc := ptsV_get hk
          have hti : ((k : Nat) : Int).toNat = k := Int.toNat_natCast _
          have hsk := hv.sm k hk
          have hsx := fun m => tsound_c (at' c k).1 hsk.1 m
          have hsy := fun m => tsound_c (at' c k).2 hsk.2 m
          have hpo := hpk k hk
          have hcy := fun m => bcmp_c (at' c k).2 (lev : Rat) hsk.2 hslv m
          have hcy2 : ∀ m, Gives Try.prog 18 [.agg [.int .i64 (Rat.num ((at' c k).2)), .int .i64 ((Rat.den ((at' c k).2) : Nat) : Int)], .agg [.int .i64 lev, .int .i64 1]] m (.int .i64 (cmpQ (at' c k).2 (lev : Rat))) := hcy
          have hcx := fun m => bcmp_c (at' c k).1 x hsk.1 hsx0 m
          have hnf : cmpQ (at' c k).1 x < 0 → 0 < cmpQ (at' c k).2 (lev : Rat) := fun h => rchd_t (hnr k hk (cmpQ_lt.1 h))
          unfold ptV at hgc
          (have FX := And.intro hlc (And.intro hgc (And.intro hti hnf)); repeat' (first | (refine sx ?_ ?_ <;> intro h <;> first | (exfalso; omega) | skip) | (refine g_op ?_; refine g_call ?_; refine g_args ?_; (first | refine s_fn (tstruck_c _) ?_ | refine s_fn (hcp _) ?_ | refine s_fn (hsx _) ?_ | refine s_fn (hsy _) ?_ | refine s_fn (hpo _) ?_ | refine s_fn (hcy2 _) ?_ | refine s_fn (hsa _) ?_ | refine s_fn (hcx _) ?_) <;> try first | omega | assumption) | refine ny ?_ | refine WA_block ?_ | (refine uH10_3_9 ?_; refine ⟨by kernel_rfl, ?_⟩) | (refine uH10_3_19 ?_; refine ⟨by kernel_rfl, ?_⟩) | (refine uH10_3_20 ?_; refine ⟨by kernel_rfl, ?_⟩) | (refine uH10_3_21 ?_; refine ⟨by kernel_rfl, ?_⟩) | (refine uH10_3_30 ?_; refine ⟨by kernel_rfl, ?_⟩) | ((first | refine grp_cons (fun _ => tstruck_c _) ?_ | refine grp_cons (fun _ => hcp _) ?_ | refine grp_cons (fun _ => hsx _) ?_ | refine grp_cons (fun _ => hsy _) ?_ | refine grp_cons (fun _ => hpo _) ?_ | refine grp_cons (fun _ => hcy2 _) ?_ | refine grp_cons (fun _ => hsa _) ?_ | refine grp_cons (fun _ => hcx _) ?_) <;> try first | omega | assumption) | (refine g_d ?_; refine d_args ?_; (first | refine d_fn (tstruck_c _) ?_ | refine d_fn (hcp _) ?_ | refine d_fn (hsx _) ?_ | refine d_fn (hsy _) ?_ | refine d_fn (hpo _) ?_ | refine d_fn (hcy2 _) ?_ | refine d_fn (hsa _) ?_ | refine d_fn (hcx _) ?_ | refine d_fnQ (fun _ => tstruck_c _) ?_ | refine d_fnQ (fun _ => hcp _) ?_ | refine d_fnQ (fun _ => hsx _) ?_ | refine d_fnQ (fun _ => hsy _) ?_ | refine d_fnQ (fun _ => hpo _) ?_ | refine d_fnQ (fun _ => hcy2 _) ?_ | refine d_fnQ (fun _ => hsa _) ?_ | refine d_fnQ (fun _ => hcx _) ?_) <;> try first | omega | assumption) | (refine g_d ?_; (first | refine d_fnY (tstruck_c _) ?_ | refine d_fnY (hcp _) ?_ | refine d_fnY (hsx _) ?_ | refine d_fnY (hsy _) ?_ | refine d_fnY (hpo _) ?_ | refine d_fnY (hcy2 _) ?_ | refine d_fnY (hsa _) ?_ | refine d_fnY (hcx _) ?_) <;> try first | omega | assumption)))
          all_goals (try (exfalso; omega))
          all_goals (refine nextL_ hK (k + 1) hk (by omega))
        · have hke : k = c.length := by omega
          subst hke
          by_cases ho : valOk c x
          · rw [if_pos ho] at hpx
            simp only [rchV, frO] at hpx
            have hsv := hsv ho
            have hcz : ∀ m, Gives Try.prog 18 [.agg [.int .i64 (Rat.num ((valE c x))), .int .i64 ((Rat.den ((valE c x)) : Nat) : Int)], .agg [.int .i64 lev, .int .i64 1]] m (.int .i64 (cmpQ (valE c x) (lev : Rat))) := fun m => bcmp_c (valE c x) (lev : Rat) hsv hslv m
            have hvf := rchd_ty hval
            (have FX := And.intro hlc hvf; repeat' (first | (refine sx ?_ ?_ <;> intro h <;> first | (exfalso; omega) | skip) | (refine g_op ?_; refine g_call ?_; refine g_args ?_; (first | refine s_fn (hcp _) ?_ | refine s_fn (hpx _) ?_ | refine s_fn (hcz _) ?_) <;> try first | omega | assumption) | refine ny ?_ | refine WA_block ?_ | (refine uH10_3_9 ?_; refine ⟨by kernel_rfl, ?_⟩) | (refine uH10_3_19 ?_; refine ⟨by kernel_rfl, ?_⟩) | (refine uH10_3_20 ?_; refine ⟨by kernel_rfl, ?_⟩) | (refine uH10_3_21 ?_; refine ⟨by kernel_rfl, ?_⟩) | (refine uH10_3_30 ?_; refine ⟨by kernel_rfl, ?_⟩) | ((first | refine grp_cons (fun _ => hcp _) ?_ | refine grp_cons (fun _ => hpx _) ?_ | refine grp_cons (fun _ => hcz _) ?_) <;> try first | omega | assumption) | (refine g_d ?_; refine d_args ?_; (first | refine d_fn (hcp _) ?_ | refine d_fn (hpx _) ?_ | refine d_fn (hcz _) ?_ | refine d_fnQ (fun _ => hcp _) ?_ | refine d_fnQ (fun _ => hpx _) ?_ | refine d_fnQ (fun _ => hcz _) ?_) <;> try first | omega | assumption) | (refine g_d ?_; (first | refine d_fnY (hcp _) ?_ | refine d_fnY (hpx _) ?_ | refine d_fnY (hcz _) ?_) <;> try first | omega | assumption)))
            all_goals (try (exfalso; omega))
            all_goals (refine r_es hQ ?_; try with_reducible rfl)
          · rw [if_neg ho] at hpx
            simp only [rchV, frO] at hpx
            (have FX := hlc; repeat' (first | (refine sx ?_ ?_ <;> intro h <;> first | (exfalso; omega) | skip) | (refine g_op ?_; refine g_call ?_; refine g_args ?_; (first | refine s_fn (hcp _) ?_ | refine s_fn (hpx _) ?_) <;> try first | omega | assumption) | refine ny ?_ | refine WA_block ?_ | (refine uH10_3_9 ?_; refine ⟨by kernel_rfl, ?_⟩) | (refine uH10_3_19 ?_; refine ⟨by kernel_rfl, ?_⟩) | (refine uH10_3_20 ?_; refine ⟨by kernel_rfl, ?_⟩) | (refine uH10_3_21 ?_; refine ⟨by kernel_rfl, ?_⟩) | (refine uH10_3_30 ?_; refine ⟨by kernel_rfl, ?_⟩) | ((first | refine grp_cons (fun _ => hcp _) ?_ | refine grp_cons (fun _ => hpx _) ?_) <;> try first | omega | assumption) | (refine g_d ?_; refine d_args ?_; (first | refine d_fn (hcp _) ?_ | refine d_fn (hpx _) ?_ | refine d_fnQ (fun _ => hcp _) ?_ | refine d_fnQ (fun _ => hpx _) ?_) <;> try first | omega | assumption) | (refine g_d ?_; (first | refine d_fnY (hcp _) ?_ | refine d_fnY (hpx _) ?_) <;> try first | omega | assumption)))
            all_goals (try (exfalso; omega))
            all_goals (refine r_es hQ ?_; try with_reducible rfl)
    · rw [hx] at hea
      simp only [rchV, frO] at hea
      refine Gives_in Try.func3 rfl Try.ntmps3 Try.results3 (by kernel_rfl) (by simp) rfl fun Q hQ => ?_
      (have FX := And.intro hx0 (And.intro hev (And.intro hge (And.intro hlc hti))); repeat' (first | (refine sx ?_ ?_ <;> intro h <;> first | (exfalso; omega) | skip) | (refine g_op ?_; refine g_call ?_; refine g_args ?_; (first | refine s_fn (tstruck_c _) ?_ | refine s_fn (hlg _) ?_ | refine s_fn (hac _) ?_ | refine s_fn (hen _) ?_ | refine s_fn (hcp _) ?_ | refine s_fn (hcu _) ?_ | refine s_fn (hea _) ?_) <;> try first | omega | assumption) | refine ny ?_ | refine WA_block ?_ | (refine uH10_3_9 ?_; refine ⟨by kernel_rfl, ?_⟩) | (refine uH10_3_19 ?_; refine ⟨by kernel_rfl, ?_⟩) | (refine uH10_3_20 ?_; refine ⟨by kernel_rfl, ?_⟩) | (refine uH10_3_21 ?_; refine ⟨by kernel_rfl, ?_⟩) | (refine uH10_3_30 ?_; refine ⟨by kernel_rfl, ?_⟩) | ((first | refine grp_cons (fun _ => tstruck_c _) ?_ | refine grp_cons (fun _ => hlg _) ?_ | refine grp_cons (fun _ => hac _) ?_ | refine grp_cons (fun _ => hen _) ?_ | refine grp_cons (fun _ => hcp _) ?_ | refine grp_cons (fun _ => hcu _) ?_ | refine grp_cons (fun _ => hea _) ?_) <;> try first | omega | assumption) | (refine g_d ?_; refine d_args ?_; (first | refine d_fn (tstruck_c _) ?_ | refine d_fn (hlg _) ?_ | refine d_fn (hac _) ?_ | refine d_fn (hen _) ?_ | refine d_fn (hcp _) ?_ | refine d_fn (hcu _) ?_ | refine d_fn (hea _) ?_ | refine d_fnQ (fun _ => tstruck_c _) ?_ | refine d_fnQ (fun _ => hlg _) ?_ | refine d_fnQ (fun _ => hac _) ?_ | refine d_fnQ (fun _ => hen _) ?_ | refine d_fnQ (fun _ => hcp _) ?_ | refine d_fnQ (fun _ => hcu _) ?_ | refine d_fnQ (fun _ => hea _) ?_) <;> try first | omega | assumption) | (refine g_d ?_; (first | refine d_fnY (tstruck_c _) ?_ | refine d_fnY (hlg _) ?_ | refine d_fnY (hac _) ?_ | refine d_fnY (hen _) ?_ | refine d_fnY (hcp _) ?_ | refine d_fnY (hcu _) ?_ | refine d_fnY (hea _) ?_) <;> try first | omega | assumption)))
      all_goals (try (exfalso; omega))
      all_goals (refine r_es hQ ?_; try with_reducible rfl)
    · have hnr := fun k hk => rch_no (c := c) hx (k := k) hk
      rw [hx] at hea
      simp only [rchV, frO] at hea
      clear hapo hpos hcv hx hdip
      cases efl with
      | false =>
        refine Gives_in Try.func3 rfl Try.ntmps3 Try.results3 (by kernel_rfl) (by simp) rfl fun Q hQ => ?_
        (have FX := And.intro hx0 (And.intro hev (And.intro hge (And.intro hlc hti))); repeat' (first | (refine sx ?_ ?_ <;> intro h <;> first | (exfalso; omega) | skip) | (refine g_op ?_; refine g_call ?_; refine g_args ?_; (first | refine s_fn (tstruck_c _) ?_ | refine s_fn (hlg _) ?_ | refine s_fn (hac _) ?_ | refine s_fn (hen _) ?_ | refine s_fn (hcp _) ?_ | refine s_fn (hcu _) ?_ | refine s_fn (hea _) ?_ | refine s_fn (rwhole_c _ _) ?_) <;> try first | omega | assumption) | refine ny ?_ | refine WA_block ?_ | (refine uH10_3_9 ?_; refine ⟨by kernel_rfl, ?_⟩) | (refine uH10_3_19 ?_; refine ⟨by kernel_rfl, ?_⟩) | (refine uH10_3_20 ?_; refine ⟨by kernel_rfl, ?_⟩) | (refine uH10_3_21 ?_; refine ⟨by kernel_rfl, ?_⟩) | (refine uH10_3_30 ?_; refine ⟨by kernel_rfl, ?_⟩) | ((first | refine grp_cons (fun _ => tstruck_c _) ?_ | refine grp_cons (fun _ => hlg _) ?_ | refine grp_cons (fun _ => hac _) ?_ | refine grp_cons (fun _ => hen _) ?_ | refine grp_cons (fun _ => hcp _) ?_ | refine grp_cons (fun _ => hcu _) ?_ | refine grp_cons (fun _ => hea _) ?_ | refine grp_cons (fun _ => rwhole_c _ _) ?_) <;> try first | omega | assumption) | (refine g_d ?_; refine d_args ?_; (first | refine d_fn (tstruck_c _) ?_ | refine d_fn (hlg _) ?_ | refine d_fn (hac _) ?_ | refine d_fn (hen _) ?_ | refine d_fn (hcp _) ?_ | refine d_fn (hcu _) ?_ | refine d_fn (hea _) ?_ | refine d_fn (rwhole_c _ _) ?_ | refine d_fnQ (fun _ => tstruck_c _) ?_ | refine d_fnQ (fun _ => hlg _) ?_ | refine d_fnQ (fun _ => hac _) ?_ | refine d_fnQ (fun _ => hen _) ?_ | refine d_fnQ (fun _ => hcp _) ?_ | refine d_fnQ (fun _ => hcu _) ?_ | refine d_fnQ (fun _ => hea _) ?_ | refine d_fnQ (fun _ => rwhole_c _ _) ?_) <;> try first | omega | assumption) | (refine g_d ?_; (first | refine d_fnY (tstruck_c _) ?_ | refine d_fnY (hlg _) ?_ | refine d_fnY (hac _) ?_ | refine d_fnY (hen _) ?_ | refine d_fnY (hcp _) ?_ | refine d_fnY (hcu _) ?_ | refine d_fnY (hea _) ?_ | refine d_fnY (rwhole_c _ _) ?_) <;> try first | omega | assumption)))
        all_goals (try (exfalso; omega))
        refine WA_whileK (σ := Nat) [2, 6, 7, 9, 10, 11, 12] (fun k => [.ptr (lend m).length 0 0, .ptr ((lend m).length + 1) 0 0, .ptr ((lend m).length + 3) 0 0, .ptr ((lend m).length + 4) 0 0, .int .i64 12, .ptr ((lend m).length + 5) 0 0, .int .i64 k]) (fun _ => [.cells .own 26 4 [[.int .i64 a.dip, .lst (prtsV a.parts), .lst (evsV a.evs), .lst (ldsV a.leads)]], .cells .own 32 4 [[.str enm, .str eprt, .int .i64 lev, .bool false]], .dead, .cells .own 35 1 [[.lst (ptsV c)]], .cells .own 41 2 [[.int .i64 0, .int .i64 0]], .cells .own 41 2 [[.int .i64 lev, .int .i64 1]]]) 6 (fun k => k ≤ c.length) (fun k => c.length - k) 0 (Nat.zero_le _) tv_ rfl (fun _ => rfl) (by intro s s' _ _; simp [conB, conS, V.keeps, V.plain, Blk.flat, flatL, V.flat]) (by intro s s' _ _; simp [conB, conS, V.keeps, V.plain, Blk.flat, flatL, V.flat]) ?_
        rintro k hk1 K hK
        simp only [zipT]
        clear FX
        rcases Nat.lt_or_ge k c.length with hk | hk
        · have hgc := ptsV_get hk
          have hti : ((k : Nat) : Int).toNat = k := Int.toNat_natCast _
          have hsk := hv.sm k hk
          have hsx := fun m => tsound_c (at' c k).1 hsk.1 m
          have hsy := fun m => tsound_c (at' c k).2 hsk.2 m
          have hpo := hpk k hk
          have hcy := fun m => bcmp_c (at' c k).2 (lev : Rat) hsk.2 hslv m
          have hcy2 : ∀ m, Gives Try.prog 18 [.agg [.int .i64 (Rat.num ((at' c k).2)), .int .i64 ((Rat.den ((at' c k).2) : Nat) : Int)], .agg [.int .i64 lev, .int .i64 1]] m (.int .i64 (cmpQ (at' c k).2 (lev : Rat))) := hcy
          have hnf := rchd_f (hnr k hk)
          unfold ptV at hgc
          (have FX := And.intro hlc (And.intro hgc (And.intro hti hnf)); repeat' (first | (refine sx ?_ ?_ <;> intro h <;> first | (exfalso; omega) | skip) | (refine g_op ?_; refine g_call ?_; refine g_args ?_; (first | refine s_fn (tstruck_c _) ?_ | refine s_fn (hcp _) ?_ | refine s_fn (hsx _) ?_ | refine s_fn (hsy _) ?_ | refine s_fn (hpo _) ?_ | refine s_fn (hcy2 _) ?_) <;> try first | omega | assumption) | refine ny ?_ | refine WA_block ?_ | (refine uH10_3_9 ?_; refine ⟨by kernel_rfl, ?_⟩) | (refine uH10_3_19 ?_; refine ⟨by kernel_rfl, ?_⟩) | (refine uH10_3_20 ?_; refine ⟨by kernel_rfl, ?_⟩) | (refine uH10_3_21 ?_; refine ⟨by kernel_rfl, ?_⟩) | (refine uH10_3_30 ?_; refine ⟨by kernel_rfl, ?_⟩) | ((first | refine grp_cons (fun _ => tstruck_c _) ?_ | refine grp_cons (fun _ => hcp _) ?_ | refine grp_cons (fun _ => hsx _) ?_ | refine grp_cons (fun _ => hsy _) ?_ | refine grp_cons (fun _ => hpo _) ?_ | refine grp_cons (fun _ => hcy2 _) ?_) <;> try first | omega | assumption) | (refine g_d ?_; refine d_args ?_; (first | refine d_fn (tstruck_c _) ?_ | refine d_fn (hcp _) ?_ | refine d_fn (hsx _) ?_ | refine d_fn (hsy _) ?_ | refine d_fn (hpo _) ?_ | refine d_fn (hcy2 _) ?_ | refine d_fnQ (fun _ => tstruck_c _) ?_ | refine d_fnQ (fun _ => hcp _) ?_ | refine d_fnQ (fun _ => hsx _) ?_ | refine d_fnQ (fun _ => hsy _) ?_ | refine d_fnQ (fun _ => hpo _) ?_ | refine d_fnQ (fun _ => hcy2 _) ?_) <;> try first | omega | assumption) | (refine g_d ?_; (first | refine d_fnY (tstruck_c _) ?_ | refine d_fnY (hcp _) ?_ | refine d_fnY (hsx _) ?_ | refine d_fnY (hsy _) ?_ | refine d_fnY (hpo _) ?_ | refine d_fnY (hcy2 _) ?_) <;> try first | omega | assumption)))
          all_goals (try (exfalso; omega))
          all_goals (refine nextL_ hK (k + 1) hk (by omega))
        · have hke : k = c.length := by omega
          subst hke
          (have FX := hlc; repeat' (first | (refine sx ?_ ?_ <;> intro h <;> first | (exfalso; omega) | skip) | refine ny ?_ | refine WA_block ?_ | (refine uH10_3_9 ?_; refine ⟨by kernel_rfl, ?_⟩) | (refine uH10_3_19 ?_; refine ⟨by kernel_rfl, ?_⟩) | (refine uH10_3_20 ?_; refine ⟨by kernel_rfl, ?_⟩) | (refine uH10_3_21 ?_; refine ⟨by kernel_rfl, ?_⟩) | (refine uH10_3_30 ?_; refine ⟨by kernel_rfl, ?_⟩)))
          all_goals (try (exfalso; omega))
          all_goals (refine r_es hQ ?_; try with_reducible rfl)
      | true =>
        refine Gives_in Try.func3 rfl Try.ntmps3 Try.results3 (by kernel_rfl) (by simp) rfl fun Q hQ => ?_
        (have FX := And.intro hx0 (And.intro hev (And.intro hge (And.intro hlc hti))); repeat' (first | (refine sx ?_ ?_ <;> intro h <;> first | (exfalso; omega) | skip) | (refine g_op ?_; refine g_call ?_; refine g_args ?_; (first | refine s_fn (tstruck_c _) ?_ | refine s_fn (hlg _) ?_ | refine s_fn (hac _) ?_ | refine s_fn (hen _) ?_ | refine s_fn (hcp _) ?_ | refine s_fn (hcu _) ?_ | refine s_fn (hea _) ?_ | refine s_fn (rwhole_c _ _) ?_) <;> try first | omega | assumption) | refine ny ?_ | refine WA_block ?_ | (refine uH10_3_9 ?_; refine ⟨by kernel_rfl, ?_⟩) | (refine uH10_3_19 ?_; refine ⟨by kernel_rfl, ?_⟩) | (refine uH10_3_20 ?_; refine ⟨by kernel_rfl, ?_⟩) | (refine uH10_3_21 ?_; refine ⟨by kernel_rfl, ?_⟩) | (refine uH10_3_30 ?_; refine ⟨by kernel_rfl, ?_⟩) | ((first | refine grp_cons (fun _ => tstruck_c _) ?_ | refine grp_cons (fun _ => hlg _) ?_ | refine grp_cons (fun _ => hac _) ?_ | refine grp_cons (fun _ => hen _) ?_ | refine grp_cons (fun _ => hcp _) ?_ | refine grp_cons (fun _ => hcu _) ?_ | refine grp_cons (fun _ => hea _) ?_ | refine grp_cons (fun _ => rwhole_c _ _) ?_) <;> try first | omega | assumption) | (refine g_d ?_; refine d_args ?_; (first | refine d_fn (tstruck_c _) ?_ | refine d_fn (hlg _) ?_ | refine d_fn (hac _) ?_ | refine d_fn (hen _) ?_ | refine d_fn (hcp _) ?_ | refine d_fn (hcu _) ?_ | refine d_fn (hea _) ?_ | refine d_fn (rwhole_c _ _) ?_ | refine d_fnQ (fun _ => tstruck_c _) ?_ | refine d_fnQ (fun _ => hlg _) ?_ | refine d_fnQ (fun _ => hac _) ?_ | refine d_fnQ (fun _ => hen _) ?_ | refine d_fnQ (fun _ => hcp _) ?_ | refine d_fnQ (fun _ => hcu _) ?_ | refine d_fnQ (fun _ => hea _) ?_ | refine d_fnQ (fun _ => rwhole_c _ _) ?_) <;> try first | omega | assumption) | (refine g_d ?_; (first | refine d_fnY (tstruck_c _) ?_ | refine d_fnY (hlg _) ?_ | refine d_fnY (hac _) ?_ | refine d_fnY (hen _) ?_ | refine d_fnY (hcp _) ?_ | refine d_fnY (hcu _) ?_ | refine d_fnY (hea _) ?_ | refine d_fnY (rwhole_c _ _) ?_) <;> try first | omega | assumption)))
        all_goals (try (exfalso; omega))
        refine WA_whileK (σ := Nat) [2, 6, 7, 9, 10, 11, 12] (fun k => [.ptr (lend m).length 0 0, .ptr ((lend m).length + 1) 0 0, .ptr ((lend m).length + 3) 0 0, .ptr ((lend m).length + 4) 0 0, .int .i64 12, .ptr ((lend m).length + 5) 0 0, .int .i64 k]) (fun _ => [.cells .own 26 4 [[.int .i64 a.dip, .lst (prtsV a.parts), .lst (evsV a.evs), .lst (ldsV a.leads)]], .cells .own 32 4 [[.str enm, .str eprt, .int .i64 lev, .bool true]], .dead, .cells .own 35 1 [[.lst (ptsV c)]], .cells .own 41 2 [[.int .i64 0, .int .i64 0]], .cells .own 41 2 [[.int .i64 lev, .int .i64 1]]]) 6 (fun k => k ≤ c.length) (fun k => c.length - k) 0 (Nat.zero_le _) tv_ rfl (fun _ => rfl) (by intro s s' _ _; simp [conB, conS, V.keeps, V.plain, Blk.flat, flatL, V.flat]) (by intro s s' _ _; simp [conB, conS, V.keeps, V.plain, Blk.flat, flatL, V.flat]) ?_
        rintro k hk1 K hK
        simp only [zipT]
        clear FX
        rcases Nat.lt_or_ge k c.length with hk | hk
        · have hgc := ptsV_get hk
          have hti : ((k : Nat) : Int).toNat = k := Int.toNat_natCast _
          have hsk := hv.sm k hk
          have hsx := fun m => tsound_c (at' c k).1 hsk.1 m
          have hsy := fun m => tsound_c (at' c k).2 hsk.2 m
          have hpo := hpk k hk
          have hcy := fun m => bcmp_c (at' c k).2 (lev : Rat) hsk.2 hslv m
          have hcy2 : ∀ m, Gives Try.prog 18 [.agg [.int .i64 (Rat.num ((at' c k).2)), .int .i64 ((Rat.den ((at' c k).2) : Nat) : Int)], .agg [.int .i64 lev, .int .i64 1]] m (.int .i64 (cmpQ (at' c k).2 (lev : Rat))) := hcy
          have hnf := rchd_t (hnr k hk)
          unfold ptV at hgc
          (have FX := And.intro hlc (And.intro hgc (And.intro hti hnf)); repeat' (first | (refine sx ?_ ?_ <;> intro h <;> first | (exfalso; omega) | skip) | (refine g_op ?_; refine g_call ?_; refine g_args ?_; (first | refine s_fn (tstruck_c _) ?_ | refine s_fn (hcp _) ?_ | refine s_fn (hsx _) ?_ | refine s_fn (hsy _) ?_ | refine s_fn (hpo _) ?_ | refine s_fn (hcy2 _) ?_) <;> try first | omega | assumption) | refine ny ?_ | refine WA_block ?_ | (refine uH10_3_9 ?_; refine ⟨by kernel_rfl, ?_⟩) | (refine uH10_3_19 ?_; refine ⟨by kernel_rfl, ?_⟩) | (refine uH10_3_20 ?_; refine ⟨by kernel_rfl, ?_⟩) | (refine uH10_3_21 ?_; refine ⟨by kernel_rfl, ?_⟩) | (refine uH10_3_30 ?_; refine ⟨by kernel_rfl, ?_⟩) | ((first | refine grp_cons (fun _ => tstruck_c _) ?_ | refine grp_cons (fun _ => hcp _) ?_ | refine grp_cons (fun _ => hsx _) ?_ | refine grp_cons (fun _ => hsy _) ?_ | refine grp_cons (fun _ => hpo _) ?_ | refine grp_cons (fun _ => hcy2 _) ?_) <;> try first | omega | assumption) | (refine g_d ?_; refine d_args ?_; (first | refine d_fn (tstruck_c _) ?_ | refine d_fn (hcp _) ?_ | refine d_fn (hsx _) ?_ | refine d_fn (hsy _) ?_ | refine d_fn (hpo _) ?_ | refine d_fn (hcy2 _) ?_ | refine d_fnQ (fun _ => tstruck_c _) ?_ | refine d_fnQ (fun _ => hcp _) ?_ | refine d_fnQ (fun _ => hsx _) ?_ | refine d_fnQ (fun _ => hsy _) ?_ | refine d_fnQ (fun _ => hpo _) ?_ | refine d_fnQ (fun _ => hcy2 _) ?_) <;> try first | omega | assumption) | (refine g_d ?_; (first | refine d_fnY (tstruck_c _) ?_ | refine d_fnY (hcp _) ?_ | refine d_fnY (hsx _) ?_ | refine d_fnY (hsy _) ?_ | refine d_fnY (hpo _) ?_ | refine d_fnY (hcy2 _) ?_) <;> try first | omega | assumption)))
          all_goals (try (exfalso; omega))
          all_goals (refine nextL_ hK (k + 1) hk (by omega))
        · have hke : k = c.length := by omega
          subst hke
          (have FX := hlc; repeat' (first | (refine sx ?_ ?_ <;> intro h <;> first | (exfalso; omega) | skip) | refine ny ?_ | refine WA_block ?_ | (refine uH10_3_9 ?_; refine ⟨by kernel_rfl, ?_⟩) | (refine uH10_3_19 ?_; refine ⟨by kernel_rfl, ?_⟩) | (refine uH10_3_20 ?_; refine ⟨by kernel_rfl, ?_⟩) | (refine uH10_3_21 ?_; refine ⟨by kernel_rfl, ?_⟩) | (refine uH10_3_30 ?_; refine ⟨by kernel_rfl, ?_⟩)))
          all_goals (try (exfalso; omega))
          all_goals (refine r_es hQ ?_; try with_reducible rfl)
theorem lad_law (a : ActR) (s : List UInt8) (m : Mem) : Gives Try.prog 3 [.agg (actV a), .str s] m (.bool true) := by
  by_cases h : light a ∧ ¬ 30 < (s.length : Int) ∧ acErr a = 0 ∧ ¬ enI a s < 0
  · exact lad_in a s h.1 h.2.1 h.2.2.1 h.2.2.2 m
  · exact lad_out a s h m
end Go.Proofs.Ytmigenmibohnkaa
