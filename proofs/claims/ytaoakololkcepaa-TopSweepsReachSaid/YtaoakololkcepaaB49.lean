/- contracts: the plan of steps, of the reference; plans compared -/
import Derived.Test.YtaoakololkcepaaB48
import Derived.Test.YtaoakololkcepaaB24
set_option linter.unusedSimpArgs false
set_option linter.unusedVariables false
namespace Go.Proofs.Ytaoakololkcepaa
open Go.RowKit
attribute [local irreducible] WA WOs WDs WAn qThen qBlock tput
set_option maxHeartbeats 1000000
set_option maxRecDepth 20000
set_option linter.unusedSimpArgs false
set_option linter.unusedVariables false
set_option maxHeartbeats 8000000

theorem gPlanOf_nil (b : BnR) (hb : Bl b) (hm : mkE b [] = 0) (m : Mem) : Gives Try.prog 54 [.agg (bnV b), .lst (nsV [])] m (.tup [.lst (plV (plO b [] (pasK b.ads [] b.ads.length).toNat)), .int .i64 0]) := by
  obtain ⟨h0, h2, hst, hp1, hp2⟩ := mk_ok hm
  have hlm := mssV_length (l := b.ms)
  have hpn := fun m => gplanned_ok b hb [] hm m
  have hcl := fun m => gclone_v [] (by simp) m
  have e : pasK b.ads [] b.ads.length = 0 := by rw [← hst.1]; rfl
  rw [e] at hpn ⊢
  suffices key : CallA Try.prog 54 [.agg (bnV b), .lst (nsV [])] m (fun v mo => mo = none ∧ WkV v (.tup [.lst (plV (plO b [] (0 : Int).toNat)), .int .i64 0])) from Gives_of key fun v mo h => h
  unfold bnV at hpn ⊢
  refine CallA_in Try.func54 rfl Try.ntmps54 Try.results54 (by kernel_rfl) (by simp) fun Q hQ => ?_
  (have FX := hlm; repeat' (first | (refine sx ?_ ?_ <;> intro h <;> first | (exfalso; omega) | skip) | (refine g_op ?_; refine g_call ?_; refine g_args ?_; (first | refine s_fn (hpn _) ?_ | refine s_fn (hcl _) ?_) <;> try first | omega | assumption) | refine ny ?_ | refine WA_block ?_))
  all_goals (try (exfalso; omega))
  refine WA_rounds 1 ?_
  (have FX := hlm; repeat' (first | (refine sx ?_ ?_ <;> intro h <;> first | (exfalso; omega) | skip) | (refine g_op ?_; refine g_call ?_; refine g_args ?_; (first | refine s_fn (hpn _) ?_ | refine s_fn (hcl _) ?_) <;> try first | omega | assumption) | refine ny ?_ | refine WA_block ?_))
  all_goals (try (exfalso; omega))
  refine r_esA hQ (.inl ⟨rfl, rfl, ?_⟩)
  exact wk_tup ⟨wk_nil, WkV.refl _, trivial⟩
theorem gPlanOf_ok (b : BnR) (hb : Bl b) (l : List Int) (hm : mkE b l = 0) (m : Mem) : Gives Try.prog 54 [.agg (bnV b), .lst (nsV l)] m (.tup [.lst (plV (plO b l (pasK b.ads l b.ads.length).toNat)), .int .i64 0]) := by
  cases l with
  | nil => exact gPlanOf_nil b hb hm m
  | cons a r => exact gPlanOf_cons b hb a r hm m
theorem fl_ng {n d : Int} (hd : 0 < d) (h : n.tmod d < 0) : n.tdiv d - 1 = n / d := by
  have h1 := Int.tmod_add_mul_tdiv n d
  have h2 := Int.natAbs_tmod n d
  have h3 : n.natAbs % d.natAbs < d.natAbs := Nat.mod_lt _ (by omega)
  have h4 : n / d = n.tdiv d - 1 := by
    apply Int.le_antisymm
    · apply Int.le_sub_one_of_lt
      apply Int.ediv_lt_of_lt_mul hd
      rw [Int.mul_comm]; omega
    · apply Int.le_ediv_of_mul_le hd
      rw [Int.sub_mul, Int.mul_comm]; omega
  exact h4.symm
theorem fl_ps {n d : Int} (hd : 0 < d) (h : 0 ≤ n.tmod d) : n.tdiv d = n / d := by
  have h1 := Int.tmod_add_mul_tdiv n d
  have h2 := Int.natAbs_tmod n d
  have h3 : n.natAbs % d.natAbs < d.natAbs := Nat.mod_lt _ (by omega)
  have h4 : n / d = n.tdiv d := by
    apply Int.le_antisymm
    · apply Int.le_of_lt_add_one
      apply Int.ediv_lt_of_lt_mul hd
      rw [Int.add_mul, Int.mul_comm]; omega
    · apply Int.le_ediv_of_mul_le hd
      rw [Int.mul_comm]; omega
  exact h4.symm
theorem tdiv_bd3 (n d : Int) (hd : 1 ≤ d) (hn : -2000 ≤ n ∧ n ≤ 2000) : -2000 ≤ n.tdiv d ∧ n.tdiv d ≤ 2000 := by
  have := Int.natAbs_tdiv_le_natAbs n d
  omega

theorem bfloor_c (n d : Int) (hd : 1 ≤ d) (hn : -2000 ≤ n ∧ n ≤ 2000) (m : Mem) : Gives Try.prog 130 [.int .i64 n, .int .i64 d] m (.int .i64 (n / d)) := by
  have hb := tdiv_bd3 n d hd hn
  have h2 := fun h => fl_ng (n := n) (d := d) (by omega) h
  have h3 := fun h => fl_ps (n := n) (d := d) (by omega) h
  refine Gives_in Try.func130 rfl Try.ntmps130 Try.results130 (by kernel_rfl) (by simp) rfl fun Q hQ => ?_
  (repeat' (first | (refine sx ?_ ?_ <;> intro h <;> first | (exfalso; omega) | skip) | refine ny ?_ | refine WA_block ?_))
  all_goals (try (exfalso; omega))
  all_goals ((refine r_es hQ ?_; try with_reducible rfl))
  all_goals (exact congrArg (V.int .i64) (by first | exact h2 (by omega) | exact h3 (by omega)))
theorem ceil_eq {n d : Int} (hd : 1 ≤ d) : -((-n) / d) = (n + d - 1) / d := by
  have h1 := Int.mul_ediv_add_emod (-n) d
  have h2 := Int.emod_nonneg (-n) (show d ≠ 0 by omega)
  have h3 := Int.emod_lt_of_pos (-n) (show 0 < d by omega)
  apply Int.le_antisymm
  · apply Int.le_ediv_of_mul_le (by omega)
    rw [Int.neg_mul, Int.mul_comm]; omega
  · apply Int.le_of_lt_add_one
    apply Int.ediv_lt_of_lt_mul (by omega)
    rw [Int.add_mul, Int.neg_mul, Int.mul_comm]; omega

theorem bceil_c (s d : Int) (hd : 1 ≤ d ∧ d ≤ 1000) (hn : -1000 ≤ s ∧ s ≤ 1000) (m : Mem) : Gives Try.prog 98 [.int .i64 (s.natAbs : Int), .int .i64 d] m (.int .i64 (pasA s d)) := by
  have hx0 := hd
  have hfl := fun m => bfloor_c (-(s.natAbs : Int)) d hd.1 (by omega) m
  have hb := pasA_bd hn hd
  have e : pasA s d = -((-(s.natAbs : Int)) / d) := by unfold pasA; exact (ceil_eq hd.1).symm
  rw [e] at hb ⊢
  generalize (-(s.natAbs : Int)) / d = q at *
  refine Gives_in Try.func98 rfl Try.ntmps98 Try.results98 (by kernel_rfl) (by simp) rfl fun Q hQ => ?_
  (have FX := hx0; repeat' (first | (refine sx ?_ ?_ <;> intro h <;> first | (exfalso; omega) | skip) | (refine g_op ?_; refine g_call ?_; refine g_args ?_; (first | refine s_fn (hfl _) ?_) <;> try first | omega | assumption) | refine ny ?_ | refine WA_block ?_))
  all_goals (try (exfalso; omega))
  all_goals ((refine r_es hQ ?_; try with_reducible rfl))
theorem uB49_55_5 {N : Nat} {l : List Oper} {t : List (Nat × V)} {m : Mem} {Q : Exit → List (Nat × V) → Mem → Prop} (h : RgN Try.prog N l t m Q (fun i => if i == 4 || i == 5 || i == 7 || i == 11 || i == 12 || i == 13 then .q else .p) [.one 0, .one 1, .one 2, .one 3, .one 4, .one 5, .one 6, .one 7, .one 8, .one 9, .one 10, .one 11, .one 12, .one 13, .one 14]) : WA Try.prog N (.region 5 l.toArray true) t m Q := d_rgN h
theorem rpasses_c (b : BnR) (hb : Bnd b) (l : List Int) (hl : l.length = b.ads.length) (hs : ∀ k, k < b.ads.length → -1000 ≤ l.getD k 0 ∧ l.getD k 0 ≤ 1000) (m : Mem) : Gives Try.prog 55 [.agg [.lst (mssV b.ms), .lst (adsV b.ads)], .lst (nsV l)] m (.int .i64 (pasK b.ads l b.ads.length)) := by
  have hla := adsV_length (l := b.ads)
  have hln := nsV_length (l := l)
  have hga := hla
  have hgb := hla
  have hab := hla
  have hce := hla
  have hix := imx
  have hfa := hb.fa
  refine Gives_in Try.func55 rfl Try.ntmps55 Try.results55 (by kernel_rfl) (by simp) rfl fun Q hQ => ?_
  (have FX := And.intro hla (And.intro hln (And.intro hga (And.intro hgb hix))); repeat' (first | (refine sx ?_ ?_ <;> intro h <;> first | (exfalso; omega) | skip) | (refine g_op ?_; refine g_call ?_; refine g_args ?_; (first | refine s_fn (hab _) ?_ | refine s_fn (hce _) ?_) <;> try first | omega | assumption) | refine ny ?_ | refine WA_block ?_ | (refine uB49_55_5 ?_; refine ⟨by kernel_rfl, ?_⟩) | ((first | refine grp_cons (fun _ => hab _) ?_ | refine grp_cons (fun _ => hce _) ?_) <;> try first | omega | assumption) | (refine g_d ?_; refine d_args ?_; (first | refine d_fn (hab _) ?_ | refine d_fn (hce _) ?_ | refine d_fnQ (fun _ => hab _) ?_ | refine d_fnQ (fun _ => hce _) ?_) <;> try first | omega | assumption) | (refine g_d ?_; (first | refine d_fnY (hab _) ?_ | refine d_fnY (hce _) ?_) <;> try first | omega | assumption)))
  refine WA_whileK (σ := Nat) [1, 2, 5, 6] (fun i => [.lst (nsV l), .ptr (lend m).length 0 0, .int .i64 (pasK b.ads l i), .int .i64 i]) (fun _ => [.cells .own 25 2 [[.lst (mssV b.ms), .lst (adsV b.ads)]]]) 1 (fun i => i ≤ b.ads.length) (fun i => b.ads.length - i) 0 (Nat.zero_le _) tv_ rfl (fun _ => rfl) (by intro s s' _ _; simp [conB, conS, V.keeps, V.plain, Blk.flat, flatL, plainL, V.flat]) (by intro s s' _ _; simp [conB, conS, V.keeps, V.plain, Blk.flat, flatL, plainL, V.flat]) ?_
  rintro i hi1 K hK
  simp only [zipT]
  clear FX hga hgb hab hce
  rcases Nat.lt_or_ge i b.ads.length with hi | hi
  · have hga := adsV_get hi
    have hgb := nsV_get (l := l) (i := i) (by omega)
    have hpa := hb.pa i hi
    have hsi := hs i hi
    have hsu : pasK b.ads l (i + 1) = if pasA (l.getD i 0) (b.ads.getD i adz).pass > pasK b.ads l i then pasA (l.getD i 0) (b.ads.getD i adz).pass else pasK b.ads l i := rfl
    generalize l.getD i 0 = x at *
    generalize b.ads.getD i adz = y at *
    obtain ⟨yn, ye, yl, ym, yp, ya⟩ := y
    unfold adV at hga
    dsimp only at hga hpa hsu
    have hab := fun m => babs_c x (by omega) (by omega) m
    have hce := fun m => bceil_c x yp hpa hsi m
    rw [imx] at hsu
    generalize pasA x yp = pz at *
    generalize pasK b.ads l i = pk at *
    (have FX := And.intro hla (And.intro hln (And.intro hga (And.intro hgb hix))); repeat' (first | (refine sx ?_ ?_ <;> intro h <;> first | (exfalso; omega) | skip) | (refine g_op ?_; refine g_call ?_; refine g_args ?_; (first | refine s_fn (hab _) ?_ | refine s_fn (hce _) ?_) <;> try first | omega | assumption) | refine ny ?_ | refine WA_block ?_ | (refine uB49_55_5 ?_; refine ⟨by kernel_rfl, ?_⟩) | ((first | refine grp_cons (fun _ => hab _) ?_ | refine grp_cons (fun _ => hce _) ?_) <;> try first | omega | assumption) | (refine g_d ?_; refine d_args ?_; (first | refine d_fn (hab _) ?_ | refine d_fn (hce _) ?_ | refine d_fnQ (fun _ => hab _) ?_ | refine d_fnQ (fun _ => hce _) ?_) <;> try first | omega | assumption) | (refine g_d ?_; (first | refine d_fnY (hab _) ?_ | refine d_fnY (hce _) ?_) <;> try first | omega | assumption)))
    all_goals (try (exfalso; omega))
    all_goals (refine nextL_ hK (i + 1) hi (by omega) (ht := by rw [hsu]; exact tv_))
  · obtain rfl : i = b.ads.length := by omega
    have hga := hla
    have hgb := hla
    have hab := hla
    have hce := hla
    (have FX := And.intro hla (And.intro hln (And.intro hga (And.intro hgb hix))); repeat' (first | (refine sx ?_ ?_ <;> intro h <;> first | (exfalso; omega) | skip) | (refine g_op ?_; refine g_call ?_; refine g_args ?_; (first | refine s_fn (hab _) ?_ | refine s_fn (hce _) ?_) <;> try first | omega | assumption) | refine ny ?_ | refine WA_block ?_ | (refine uB49_55_5 ?_; refine ⟨by kernel_rfl, ?_⟩) | ((first | refine grp_cons (fun _ => hab _) ?_ | refine grp_cons (fun _ => hce _) ?_) <;> try first | omega | assumption) | (refine g_d ?_; refine d_args ?_; (first | refine d_fn (hab _) ?_ | refine d_fn (hce _) ?_ | refine d_fnQ (fun _ => hab _) ?_ | refine d_fnQ (fun _ => hce _) ?_) <;> try first | omega | assumption) | (refine g_d ?_; (first | refine d_fnY (hab _) ?_ | refine d_fnY (hce _) ?_) <;> try first | omega | assumption)))
    all_goals (try (exfalso; omega))
    all_goals ((refine r_es hQ ?_; try with_reducible rfl))
end Go.Proofs.Ytaoakololkcepaa
