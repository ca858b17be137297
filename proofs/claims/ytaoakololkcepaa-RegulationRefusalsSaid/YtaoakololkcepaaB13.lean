/- contracts: what is broken, by a range over a function -/
import Derived.Test.YtaoakololkcepaaYP
set_option linter.unusedSimpArgs false
set_option linter.unusedVariables false
namespace Go.Proofs.Ytaoakololkcepaa
open Go.RowKit
attribute [local irreducible] WA WOs WDs WAn qThen qBlock tput
set_option maxHeartbeats 1000000
set_option maxRecDepth 20000
set_option linter.unusedSimpArgs false
set_option linter.unusedVariables false
theorem bxC_plain (b : BnR) : plainL (bxC b) = true := by
  simp [bxC, plainL, V.plain, mssV_plain, adsV_plain, nuV_plain, rwV_plain, nsV_plain]
theorem frz_clo2 {m0 : Mem} {fn : Fn} {s1 s2 : Sta} {t1 t2 z1 z2 : Nat} {cs : List V} {es : List (List V)} (h1 : plainL cs = true) (h2 : plainLL es = true) : frz (lend m0 ++ [.cells s1 t1 z1 [[.bp cs 0]], .cells s2 t2 z2 [[.lst es]]]) m0.length 4 (.clo fn [] [.ptr (lend m0).length 0 0, .ptr ((lend m0).length + 1) 0 0]) = some (.clo fn [] [.bp [.bp cs 0] 0, .bp [.lst es] 0]) := by
  have hl : (lend m0).length = m0.length := by simp [lend]
  have g1 : ¬ (lend m0).length < m0.length := by omega
  have g2 : ¬ (lend m0).length + 1 < m0.length := by omega
  have e1 : (lend m0 ++ [Blk.cells s1 t1 z1 [[.bp cs 0]], .cells s2 t2 z2 [[.lst es]]])[(lend m0).length]? = some (.cells s1 t1 z1 [[.bp cs 0]]) := by
    rw [List.getElem?_append_right (Nat.le_refl _), Nat.sub_self]; rfl
  have e2 : (lend m0 ++ [Blk.cells s1 t1 z1 [[.bp cs 0]], .cells s2 t2 z2 [[.lst es]]])[(lend m0).length + 1]? = some (.cells s2 t2 z2 [[.lst es]]) := by
    rw [List.getElem?_append_right (by omega), Nat.add_sub_cancel_left]; rfl
  simp only [frz, V.plain, plainL, Bool.false_and, Bool.and_false, Bool.false_eq_true, if_false, frzs, g1, g2, e1, e2, List.getElem?_cons_zero, h1, h2, if_true, Option.map_some]

theorem gbroken_c (b : BnR) (l : List Int) (m : Mem) : Gives Try.prog 89 [.bp (bxC b) 0, .lst (nsV l)] m (.clo (.func 122) [] [.bp [.bp (bxC b) 0] 0, .bp [.lst (nsV l)] 0]) := by
  refine CallA_in Try.func89 rfl Try.ntmps89 Try.results89 (by kernel_rfl) (by simp) fun Q hQ => ?_
  (repeat' (first | (refine sx ?_ ?_ <;> intro h <;> first | (exfalso; omega) | skip) | refine ny ?_ | refine WA_block ?_))
  all_goals (refine r_esA hQ (.inr ⟨_, _, rfl, frz_clo2 (bxC_plain b) (nsV_plain l), ⟨rfl, rfl⟩⟩))
theorem uB13_122_3 {N : Nat} {l : List Oper} {t : List (Nat × V)} {m : Mem} {Q : Exit → List (Nat × V) → Mem → Prop} (h : RgN Try.prog N l t m Q (fun i => if i == 13 then .w else if i == 14 then .a else if i == 0 || i == 2 || i == 3 || i == 5 || i == 7 || i == 8 || i == 9 then .q else .p) [.one 0, .one 1, .one 2, .one 3, .one 4, .one 5, .one 6, .one 7, .one 8, .one 9, .one 10, .one 11, .one 12, .one 13, .one 14, .one 15]) : WA Try.prog N (.region 3 l.toArray true) t m Q := d_rgN h
/-- .. told to one who does not go on behind the first -/
theorem gbroken1_stop (b : BnR) (hb : Bnd b) (l : List Int) (hl : l.length = b.ads.length) (hs : ∀ k, k < b.ads.length → -1000 ≤ l.getD k 0 ∧ l.getD k 0 ≤ 1000) (lp : Nat) (M : Mem) (R : V → Option Mem → Prop)
    (hn : brkP b l b.ms.length = [] → R (.tup []) (some (M ++ [])))
    (hy : ∀ i, i < b.ms.length → brkP b l i = [] → brkB b l i = true → ∀ x, YieldA Try.prog lp [.int .i64 i] (M ++ [x]) (fun v mo => v = .bool false ∧ ∃ m', mo = some m' ∧ R (.tup []) (some m'))) :
    CallA Try.prog 122 [.clo (.yield lp) [] [], .bp [.bp (bxC b) 0] 0, .bp [.lst (nsV l)] 0] M R := by
  have hlm := mssV_length (l := b.ms)
  have hga := hlm
  have hval := hlm
  have hms := hb.fm
  refine CallA_inD Try.func122 rfl Try.ntmps122 Try.results122 (by kernel_rfl) (by simp) fun Q hQ => ?_
  have hbx : bxC b = [.lst (mssV b.ms), .lst (adsV b.ads), .lst (nuV (ordB b.ads)), .lst (rwV (rowsB b.ms b.ads)), .lst (nsV (mnsB b.ms b.ads))] := rfl
  have hval0 := fun (i : Nat) (hi : i < b.ms.length) m => gvalue_c b hb l hl hs i hi m
  rw [hbx] at hval0 ⊢
  generalize nuV (ordB b.ads) = O at *
  generalize rwV (rowsB b.ms b.ads) = RW at *
  generalize nsV (mnsB b.ms b.ads) = MN at *
  (have FX := And.intro hlm hga; repeat' (first | (refine sx ?_ ?_ <;> intro h <;> first | (exfalso; omega) | skip) | (refine g_op ?_; refine g_call ?_; refine g_args ?_; (first | refine s_fn (hval _) ?_ | refine s_fn (gwithin_c _ _ _ _) ?_) <;> try first | omega | assumption) | refine ny ?_ | refine WA_block ?_ | (refine uB13_122_3 ?_; refine ⟨by kernel_rfl, ?_⟩) | ((first | refine grp_cons (fun _ => hval _) ?_ | refine grp_cons (fun _ => gwithin_c _ _ _ _) ?_) <;> try first | omega | assumption) | (refine g_d ?_; refine d_args ?_; (first | refine d_fn (hval _) ?_ | refine d_fn (gwithin_c _ _ _ _) ?_ | refine d_fnQ (fun _ => hval _) ?_ | refine d_fnQ (fun _ => gwithin_c _ _ _ _) ?_) <;> try first | omega | assumption) | (refine g_d ?_; (first | refine d_fnY (hval _) ?_ | refine d_fnY (gwithin_c _ _ _ _) ?_) <;> try first | omega | assumption)))
  all_goals (try (exfalso; omega))
  refine WA_whileP (σ := Nat) (M := M) [0, 1, 2, 10, 11, 12] (fun i => [.clo (.yield lp) [] [], .bp [.bp [.lst (mssV b.ms), .lst (adsV b.ads), .lst O, .lst RW, .lst MN] 0] 0, .bp [.lst (nsV l)] 0, .lst (mssV b.ms), .int .i64 b.ms.length, .int .i64 i]) (fun _ => []) 0 (fun i => i ≤ b.ms.length ∧ brkP b l i = []) (fun i => b.ms.length - i) 0 ⟨Nat.zero_le _, rfl⟩ tv_ (by simp) (fun _ => rfl) (by intro s s' _ _; simp [conB, conS, V.keeps, V.plain, Blk.flat, flatL, plainL, V.flat]) (by intro s s' _ _; simp [conB, conS, V.keeps, V.plain, Blk.flat, flatL, plainL, V.flat]) ?_
  rintro i ⟨hi1, hi2⟩ K hK
  simp only [zipT]
  clear FX hga hval
  rcases Nat.lt_or_ge i b.ms.length with hi | hi
  · have hga := mssV_get hi
    have hval := hval0 i hi
    have hbr : brkB b l i = !decide ((b.ms.getD i msz).low ≤ valP b l i ∧ valP b l i ≤ (b.ms.getD i msz).high) := rfl
    have hsu : brkB b l i = false → brkP b l (i + 1) = [] := fun h => by rw [brkP_succ, if_neg (by rw [h]; decide)]; exact hi2
    have hyi := hy i hi hi2
    generalize valP b l i = vi at *
    generalize b.ms.getD i msz = x at *
    obtain ⟨nm, va, lo, hg⟩ := x
    unfold msV at hga
    dsimp only at hga hbr
    (have FX := And.intro hlm hga; repeat' (first | (refine sx ?_ ?_ <;> intro h <;> first | (exfalso; omega) | skip) | (refine g_op ?_; refine g_call ?_; refine g_args ?_; (first | refine s_fn (hval _) ?_ | refine s_fn (gwithin_c _ _ _ _) ?_) <;> try first | omega | assumption) | refine ny ?_ | refine WA_block ?_ | (refine uB13_122_3 ?_; refine ⟨by kernel_rfl, ?_⟩) | ((first | refine grp_cons (fun _ => hval _) ?_ | refine grp_cons (fun _ => gwithin_c _ _ _ _) ?_) <;> try first | omega | assumption) | (refine g_d ?_; refine d_args ?_; (first | refine d_fn (hval _) ?_ | refine d_fn (gwithin_c _ _ _ _) ?_ | refine d_fnQ (fun _ => hval _) ?_ | refine d_fnQ (fun _ => gwithin_c _ _ _ _) ?_) <;> try first | omega | assumption) | (refine g_d ?_; (first | refine d_fnY (hval _) ?_ | refine d_fnY (gwithin_c _ _ _ _) ?_) <;> try first | omega | assumption)))
    all_goals (try (exfalso; omega))
    all_goals try
      (refine nextP_ hK (i + 1) ⟨hi, hsu (by rw [hbr, decide_eq_true (by assumption)]; rfl)⟩ (by omega)
       done)
    refine g_d ?_
    refine d_yldY ((hyi (by rw [hbr, decide_eq_false (by assumption)]; rfl) _).mono ?_)
    rintro v mo ⟨rfl, m', rfl, hR⟩
    simp only [Option.getD_some]
    (have FX := And.intro hlm hga; repeat' (first | (refine sx ?_ ?_ <;> intro h <;> first | (exfalso; omega) | skip) | (refine g_op ?_; refine g_call ?_; refine g_args ?_; (first | refine s_fn (hval _) ?_ | refine s_fn (gwithin_c _ _ _ _) ?_) <;> try first | omega | assumption) | refine ny ?_ | refine WA_block ?_ | (refine uB13_122_3 ?_; refine ⟨by kernel_rfl, ?_⟩) | ((first | refine grp_cons (fun _ => hval _) ?_ | refine grp_cons (fun _ => gwithin_c _ _ _ _) ?_) <;> try first | omega | assumption) | (refine g_d ?_; refine d_args ?_; (first | refine d_fn (hval _) ?_ | refine d_fn (gwithin_c _ _ _ _) ?_ | refine d_fnQ (fun _ => hval _) ?_ | refine d_fnQ (fun _ => gwithin_c _ _ _ _) ?_) <;> try first | omega | assumption) | (refine g_d ?_; (first | refine d_fnY (hval _) ?_ | refine d_fnY (gwithin_c _ _ _ _) ?_) <;> try first | omega | assumption)))
    all_goals (exact hQ _ _ _ (.inr rfl) _ rfl hR)
  · obtain rfl : i = b.ms.length := by omega
    have hga := hlm
    have hval := hlm
    (have FX := And.intro hlm hga; repeat' (first | (refine sx ?_ ?_ <;> intro h <;> first | (exfalso; omega) | skip) | (refine g_op ?_; refine g_call ?_; refine g_args ?_; (first | refine s_fn (hval _) ?_ | refine s_fn (gwithin_c _ _ _ _) ?_) <;> try first | omega | assumption) | refine ny ?_ | refine WA_block ?_ | (refine uB13_122_3 ?_; refine ⟨by kernel_rfl, ?_⟩) | ((first | refine grp_cons (fun _ => hval _) ?_ | refine grp_cons (fun _ => gwithin_c _ _ _ _) ?_) <;> try first | omega | assumption) | (refine g_d ?_; refine d_args ?_; (first | refine d_fn (hval _) ?_ | refine d_fn (gwithin_c _ _ _ _) ?_ | refine d_fnQ (fun _ => hval _) ?_ | refine d_fnQ (fun _ => gwithin_c _ _ _ _) ?_) <;> try first | omega | assumption) | (refine g_d ?_; (first | refine d_fnY (hval _) ?_ | refine d_fnY (gwithin_c _ _ _ _) ?_) <;> try first | omega | assumption)))
    all_goals (try (exfalso; omega))
    all_goals (exact hQ _ _ _ (by first | exact .inl rfl | exact .inr rfl) _ rfl (hn hi2))
theorem at_mid {A X : Mem} {x : Blk} : (A ++ x :: X)[A.length]? = some x := by simp
theorem app_mid {A : Mem} {x y : Blk} : A ++ [y] ++ [x] = A ++ y :: [x] := by simp
theorem brk_ne {b : BnR} {l : List Int} {n i : Nat} (hi : i < n) (h : brkB b l i = true) : brkP b l n ≠ [] := by
  intro e
  have : i ∈ brkP b l n := List.mem_filter.2 ⟨List.mem_range.2 hi, h⟩
  rw [e] at this
  cases this

theorem gholds_c (b : BnR) (hb : Bnd b) (l : List Int) (hl : l.length = b.ads.length) (hs : ∀ k, k < b.ads.length → -1000 ≤ l.getD k 0 ∧ l.getD k 0 ≤ 1000) (m : Mem) : Gives Try.prog 71 [.bp (bxC b) 0, .lst (nsV l)] m (.bool (decide (brkP b l b.ms.length = []))) := by
  have FX := hl
  refine Gives_in Try.func71 rfl Try.ntmps71 Try.results71 (by kernel_rfl) (by simp) rfl fun Q hQ => ?_
  (repeat' (first | (refine sx ?_ ?_ <;> intro h <;> first | (exfalso; omega) | skip) | (refine g_op ?_; refine g_call ?_; refine g_args ?_; (first | refine s_fn (gbroken_c b l _) ?_) <;> try first | omega | assumption) | refine ny ?_ | refine WA_block ?_))
  refine WA_rf (fun m' => brkP b l b.ms.length = [] ∧ m' = lend m ++ [.cells .own 4 1 [[.bool false]], .dead]) (fun c m' => c = .ret ∧ brkP b l b.ms.length ≠ [] ∧ ∃ x, m' = lend m ++ [.cells .own 4 1 [[.bool false]], .dead, x]) (fun lp => ?_) (fun m' hm => ?_) (fun c m' hm => ?_)
  · refine gbroken1_stop b hb l hl hs lp _ _ ?_ ?_
    · intro h
      exact ⟨.ready, none, _, rfl, by simp, by decide, fun _ => ⟨h, by simp⟩, fun c hc => by cases hc⟩
    · intro i hi h0 h1 x
      have hne : brkP b l b.ms.length ≠ [] := brk_ne hi h1
      rw [app_mid]
      refine YieldA_in rfl (by simp) rfl ?_
      refine WA_skip ⟨rfl, at_mid, ?_⟩
      simp only [setPs, List.append_assoc, List.cons_append, List.nil_append]
      (repeat' (first | (refine sx ?_ ?_ <;> intro h <;> first | (exfalso; omega) | skip) | (refine g_op ?_; refine g_call ?_; refine g_args ?_; (first | refine s_fn (gbroken_c b l _) ?_) <;> try first | omega | assumption) | refine ny ?_ | refine WA_block ?_))
      refine roundQ_ret (A := lend m ++ [.cells .own 4 1 [[.bool false]]]) (X := [x]) (by simp only [List.append_assoc, List.cons_append, List.nil_append]; rfl) (by simp) ?_
      exact ⟨rfl, _, rfl, .done, some .ret, _, rfl, by simp, by decide, (fun h => by cases h), fun c hc => ⟨(by cases hc; rfl), hne, x, by simp⟩⟩
  · obtain ⟨h0, rfl⟩ := hm
    rw [decide_eq_true h0] at hQ
    (repeat' (first | (refine sx ?_ ?_ <;> intro h <;> first | (exfalso; omega) | skip) | (refine g_op ?_; refine g_call ?_; refine g_args ?_; (first | refine s_fn (gbroken_c b l _) ?_) <;> try first | omega | assumption) | refine ny ?_ | refine WA_block ?_))
    all_goals (refine r_es hQ ?_; try with_reducible rfl)
  · obtain ⟨rfl, h0, x, rfl⟩ := hm
    rw [decide_eq_false h0] at hQ
    (repeat' (first | (refine sx ?_ ?_ <;> intro h <;> first | (exfalso; omega) | skip) | (refine g_op ?_; refine g_call ?_; refine g_args ?_; (first | refine s_fn (gbroken_c b l _) ?_) <;> try first | omega | assumption) | refine ny ?_ | refine WA_block ?_))
    all_goals (refine r_es hQ ?_; try with_reducible rfl)
end Go.Proofs.Ytaoakololkcepaa
