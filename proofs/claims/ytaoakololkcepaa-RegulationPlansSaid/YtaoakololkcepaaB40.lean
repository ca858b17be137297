/- contracts: sums of plans, of the reference -/
import Derived.Test.YtaoakololkcepaaB39
import Derived.Test.YtaoakololkcepaaB38
set_option linter.unusedSimpArgs false
set_option linter.unusedVariables false
namespace Go.Proofs.Ytaoakololkcepaa
open Go.RowKit
attribute [local irreducible] WA WOs WDs WAn qThen qBlock tput
set_option maxHeartbeats 1000000
set_option maxRecDepth 20000
set_option linter.unusedSimpArgs false
set_option linter.unusedVariables false
set_option maxHeartbeats 4000000
theorem rchecksteps_s (b : BnR) (hfa : b.ads.length ≤ 1000) (l : List Int) (n : Nat) (hn : n = l.length) (m : Mem) (k : Nat) {st : Sta} (hk : m[k]? = some (.cells st 3 1 (nsV l)) := by first | exact ev_ | fail) : Gives Try.prog 32 [.agg [.lst (mssV b.ms), .lst (adsV b.ads)], .sl k n] m (.int .i64 (stErr b.ads l)) := by
  subst hn
  refine Gives_fz hk (by simp [V.flat]) ?_
  have e : ([.agg [.lst (mssV b.ms), .lst (adsV b.ads)], .sl k l.length] : List V).map (frzV k (nsV l)) = [.agg [.lst (mssV b.ms), .lst (adsV b.ads)], .lst (nsV l)] := by
    simp only [List.map_cons, List.map_nil, fz_nsV]
    rfl
  rw [e]
  exact rchecksteps_c b hfa l _
theorem stErr_two {ads : List AdR} {l : List Int} (hl : l.length = ads.length) (h : stErr ads l ≠ 0) : stErr ads l = 2 := by
  unfold stErr at h ⊢
  rw [if_neg (by omega)] at h ⊢
  have : ∀ n, fE (stErrAt ads l) n = 0 ∨ fE (stErrAt ads l) n = 2 := by
    intro n
    induction n with
    | zero => exact .inl rfl
    | succ n ih =>
      have h2 : stErrAt ads l n = 0 ∨ stErrAt ads l n = 2 := by unfold stErrAt; split <;> simp
      simp only [fE]
      split <;> omega
  rcases this ads.length with h1 | h1
  · exact absurd h1 h
  · exact h1
theorem uB40_49_7 {N : Nat} {l : List Oper} {t : List (Nat × V)} {m : Mem} {Q : Exit → List (Nat × V) → Mem → Prop} (h : RgN Try.prog N l t m Q (fun i => if i == 0 || i == 4 || i == 5 then .q else .p) [.one 0, .one 1, .one 2, .one 3, .one 4, .one 5, .one 6, .one 7, .one 8, .one 9, .one 10]) : WA Try.prog N (.region 7 l.toArray true) t m Q := d_rgN h
theorem uB40_49_14 {N : Nat} {l : List Oper} {t : List (Nat × V)} {m : Mem} {Q : Exit → List (Nat × V) → Mem → Prop} (h : RgN Try.prog N l t m Q (fun i => if i == 16 then .w else if i == 5 || i == 9 || i == 13 then .q else .p) [.one 0, .one 1, .one 2, .one 3, .one 4, .one 5, .one 6, .one 7, .one 8, .one 9, .one 10, .one 11, .one 12, .one 13, .one 14, .one 15, .one 16]) : WA Try.prog N (.region 14 l.toArray true) t m Q := d_rgN h
theorem rsums_c (b : BnR) (hb : Bnd b) (hA : Aln b.ads) (l : List (List StR)) (m : Mem) : Gives Try.prog 49 [.agg [.lst (mssV b.ms), .lst (adsV b.ads)], .lst (plV l)] m (.tup [.lst (nsV (smS b l)), .int .i64 (smN b l), .int .i64 (smE b l)]) := by
  have hla := adsV_length (l := b.ads)
  have hlp := plV_length (l := l)
  have hre : ∀ k, k = b.ads.length → List.replicate k [V.int .i64 0] = nsV (smK b l 0) := fun k h => by rw [h]; simp [nsV, smK]
  have hga := hla
  have hgb := hla
  have hgc := hla
  have hls := hla
  have hcp := hla
  have hcs := hla
  have hfa := hb.fa
  suffices key : CallA Try.prog 49 [.agg [.lst (mssV b.ms), .lst (adsV b.ads)], .lst (plV l)] m (fun v mo => mo = none ∧ WkV v (.tup [.lst (nsV (smS b l)), .int .i64 (smN b l), .int .i64 (smE b l)])) from Gives_of key fun v mo h => h
  by_cases h50 : 50 < l.length
  · obtain ⟨e1, e2, e3⟩ := sm_big (b := b) h50
    rw [e1, e2, e3]
    refine CallA_in Try.func49 rfl Try.ntmps49 Try.results49 (by kernel_rfl) (by simp) fun Q hQ => ?_
    (have FX := And.intro hla (And.intro hlp (And.intro hls (And.intro hre (And.intro hga (And.intro hgb hgc))))); repeat' (first | (refine sx ?_ ?_ <;> intro h <;> first | (exfalso; omega) | skip) | (refine g_op ?_; refine g_call ?_; refine g_args ?_; (first | refine s_fn (hcp _) ?_ | refine s_fn (hcs _ _ ?_) ?_) <;> try first | omega | assumption) | refine ny ?_ | refine WA_block ?_ | (refine uB40_49_7 ?_; refine ⟨by kernel_rfl, ?_⟩) | (refine uB40_49_14 ?_; refine ⟨by kernel_rfl, ?_⟩) | ((first | refine grp_cons (fun _ => hcp _) ?_ | refine grp_cons (fun _ => hcs _ _ ?_) ?_) <;> try first | omega | assumption) | (refine g_d ?_; refine d_args ?_; (first | refine d_fn (hcp _) ?_ | refine d_fn (hcs _ _ ?_) ?_ | refine d_fnQ (fun _ => hcp _) ?_ | refine d_fnQ (fun _ => hcs _ _ ?_) ?_) <;> try first | omega | assumption) | (refine g_d ?_; (first | refine d_fnY (hcp _) ?_ | refine d_fnY (hcs _ _ ?_) ?_) <;> try first | omega | assumption)))
    all_goals (try (exfalso; omega))
    all_goals
      refine r_esA hQ (.inl ⟨rfl, rfl, ?_⟩)
      exact wk_tup ⟨wk_nil, WkV.refl _, WkV.refl _, trivial⟩
  refine CallA_in Try.func49 rfl Try.ntmps49 Try.results49 (by kernel_rfl) (by simp) fun Q hQ => ?_
  (have FX := And.intro hla (And.intro hlp (And.intro hls (And.intro hre (And.intro hga (And.intro hgb hgc))))); repeat' (first | (refine sx ?_ ?_ <;> intro h <;> first | (exfalso; omega) | skip) | (refine g_op ?_; refine g_call ?_; refine g_args ?_; (first | refine s_fn (hcp _) ?_ | refine s_fn (hcs _ _ ?_) ?_) <;> try first | omega | assumption) | refine ny ?_ | refine WA_block ?_ | (refine uB40_49_7 ?_; refine ⟨by kernel_rfl, ?_⟩) | (refine uB40_49_14 ?_; refine ⟨by kernel_rfl, ?_⟩) | ((first | refine grp_cons (fun _ => hcp _) ?_ | refine grp_cons (fun _ => hcs _ _ ?_) ?_) <;> try first | omega | assumption) | (refine g_d ?_; refine d_args ?_; (first | refine d_fn (hcp _) ?_ | refine d_fn (hcs _ _ ?_) ?_ | refine d_fnQ (fun _ => hcp _) ?_ | refine d_fnQ (fun _ => hcs _ _ ?_) ?_) <;> try first | omega | assumption) | (refine g_d ?_; (first | refine d_fnY (hcp _) ?_ | refine d_fnY (hcs _ _ ?_) ?_) <;> try first | omega | assumption)))
  all_goals (try (exfalso; omega))
  refine WA_whileK (σ := Nat) (L := m) [1, 2, 7, 8] (fun i => [.lst (plV l), .ptr (lend m).length 0 0, .sl ((lend m).length + 1) b.ads.length, .int .i64 i]) (fun i => [.cells .own 25 2 [[.lst (mssV b.ms), .lst (adsV b.ads)]], .cells .own 3 1 (nsV (smK b l i))]) 2 (fun i => i ≤ l.length ∧ ∀ j, j < i → plErrAt b l j = 0) (fun i => l.length - i) 0 ⟨Nat.zero_le _, fun j h => absurd h (Nat.not_lt_zero _)⟩ tv_ rfl (fun _ => rfl) (by intro s s' _ _; simp [conB, conS, V.keeps, V.plain, Blk.flat, flatL, plainL, V.flat]) (fun _ _ _ _ => ⟨.inr rfl, .inl (cI_flat _), trivial⟩) ?_
  rintro i ⟨hi1, hi2⟩ K hK
  simp only [zipT]
  clear FX hga hgb hgc hre hcp hcs hls
  have hre := hla
  have hsl := smK_length b l i
  rcases Nat.lt_or_ge i l.length with hi | hi
  · have hga := plV_get hi
    have hat : plErrAt b l i = if (psV b.ads (l.getD i [])).2 ≠ 0 then (psV b.ads (l.getD i [])).2 else stErr b.ads (smK b l (i + 1)) := rfl
    have hps := fun c h hc => sm_at (b := b) (c := c) (by omega) hi hi2 h hc
    have hcp := fun m => rcheckpass_c b hb hA (l.getD i []) m
    have hz := psV_zero (ads := b.ads) (p := l.getD i [])
    have hbd := smK_bd hb hi2
    have hsu : smK b l (i + 1) = addS (l.getD i []) (smK b l i) (l.getD i []).length := rfl
    have hsl2 := smK_length b l (i + 1)
    generalize l.getD i [] = p at *
    generalize smK b l i = s at *
    generalize hs2 : smK b l (i + 1) = s2 at *
    generalize (psV b.ads p).1 = pn at *
    generalize (psV b.ads p).2 = pe at *
    have hls := stsV_length (l := p)
    have hgb := hla
    have hgc := hla
    have hcs := hla
    by_cases hpe : pe = 0
    · have hok := hz.1 hpe
      rw [if_neg (by omega)] at hat
      (have FX := And.intro hla (And.intro hlp (And.intro hls (And.intro hre (And.intro hga (And.intro hgb hgc))))); repeat' (first | (refine sx ?_ ?_ <;> intro h <;> first | (exfalso; omega) | skip) | (refine g_op ?_; refine g_call ?_; refine g_args ?_; (first | refine s_fn (hcp _) ?_ | refine s_fn (hcs _ _ ?_) ?_) <;> try first | omega | assumption) | refine ny ?_ | refine WA_block ?_ | (refine uB40_49_7 ?_; refine ⟨by kernel_rfl, ?_⟩) | (refine uB40_49_14 ?_; refine ⟨by kernel_rfl, ?_⟩) | ((first | refine grp_cons (fun _ => hcp _) ?_ | refine grp_cons (fun _ => hcs _ _ ?_) ?_) <;> try first | omega | assumption) | (refine g_d ?_; refine d_args ?_; (first | refine d_fn (hcp _) ?_ | refine d_fn (hcs _ _ ?_) ?_ | refine d_fnQ (fun _ => hcp _) ?_ | refine d_fnQ (fun _ => hcs _ _ ?_) ?_) <;> try first | omega | assumption) | (refine g_d ?_; (first | refine d_fnY (hcp _) ?_ | refine d_fnY (hcs _ _ ?_) ?_) <;> try first | omega | assumption)))
      all_goals (try (exfalso; omega))
      refine WA_whileP (σ := Nat) (M := lend m) [1, 2, 7, 8, 11] (fun k => [.lst (plV l), .ptr (lend m).length 0 0, .sl ((lend m).length + 1) b.ads.length, .int .i64 i, .int .i64 k]) (fun k => [.cells .own 25 2 [[.lst (mssV b.ms), .lst (adsV b.ads)]], .cells .own 3 1 (nsV (addS p s k))]) 2 (fun k => k ≤ p.length) (fun k => p.length - k) 0 (Nat.zero_le _) tv_ (by simp only [addS]) (fun _ => rfl) (by intro s s' _ _; simp [conB, conS, V.keeps, V.plain, Blk.flat, flatL, plainL, V.flat]) (fun _ _ _ _ => ⟨.inr rfl, .inl (cI_flat _), trivial⟩) ?_
      rintro k hk1 K2 hK2
      simp only [zipT]
      clear FX hgb hgc hcs
      have hal := addS_length p s k
      rcases Nat.lt_or_ge k p.length with hk | hk
      · have hgb := stsV_get hk
        have hst := psOk_st hb hok hk
        have hab := addS_bd hb hok (c := 1000) (by decide) hbd k hk1
        have hp12 := hok.1
        have hcs := hla
        have hsu2 : addS p s (k + 1) = (addS p s k).set (p.getD k stz).ad.toNat ((addS p s k).getD (p.getD k stz).ad.toNat 0 + (p.getD k stz).n) := rfl
        generalize p.getD k stz = x at *
        obtain ⟨xa, xn⟩ := x
        unfold stV at hgb
        dsimp only at hgb hst hsu2
        obtain ⟨q, rfl⟩ : ∃ q : Nat, xa = (q : Int) := ⟨xa.toNat, by omega⟩
        rw [Int.toNat_natCast] at hsu2
        have hab := hab q
        generalize addS p s k = s3 at *
        have hgc := nsV_get (l := s3) (i := q) (by omega)
        have hgc : (nsV s3)[q]? = some [V.int .i64 (s3.getD q 0)] ∧ (nsV s3).length = b.ads.length := ⟨hgc, by rw [nsV_length]; omega⟩
        generalize s3.getD q 0 = sv at *
        (have FX := And.intro hla (And.intro hlp (And.intro hls (And.intro hre (And.intro hga (And.intro hgb hgc))))); repeat' (first | (refine sx ?_ ?_ <;> intro h <;> first | (exfalso; omega) | skip) | (refine g_op ?_; refine g_call ?_; refine g_args ?_; (first | refine s_fn (hcp _) ?_ | refine s_fn (hcs _ _ ?_) ?_) <;> try first | omega | assumption) | refine ny ?_ | refine WA_block ?_ | (refine uB40_49_7 ?_; refine ⟨by kernel_rfl, ?_⟩) | (refine uB40_49_14 ?_; refine ⟨by kernel_rfl, ?_⟩) | ((first | refine grp_cons (fun _ => hcp _) ?_ | refine grp_cons (fun _ => hcs _ _ ?_) ?_) <;> try first | omega | assumption) | (refine g_d ?_; refine d_args ?_; (first | refine d_fn (hcp _) ?_ | refine d_fn (hcs _ _ ?_) ?_ | refine d_fnQ (fun _ => hcp _) ?_ | refine d_fnQ (fun _ => hcs _ _ ?_) ?_) <;> try first | omega | assumption) | (refine g_d ?_; (first | refine d_fnY (hcp _) ?_ | refine d_fnY (hcs _ _ ?_) ?_) <;> try first | omega | assumption)))
        all_goals (try (exfalso; omega))
        all_goals (refine nextP_ hK2 (k + 1) hk (by omega) (hm := by rw [hsu2, nsV_set]; rfl))
      · obtain rfl : k = p.length := by omega
        have hgb := hla
        have hgc := hla
        rw [← hsu] at *
        have h2 := fun h => stErr_two (ads := b.ads) (l := s2) hsl2 h
        have hcs := fun (m : Mem) (k : Nat) (h : ∃ st, m[k]? = some (.cells st 3 1 (nsV s2))) => h.elim fun st h => rchecksteps_s b (by omega) s2 b.ads.length hsl2.symm m k h
        generalize stErr b.ads s2 = se at *
        (have FX := And.intro hla (And.intro hlp (And.intro hls (And.intro hre (And.intro hga (And.intro hgb hgc))))); repeat' (first | (refine sx ?_ ?_ <;> intro h <;> first | (exfalso; omega) | skip) | (refine g_op ?_; refine g_call ?_; refine g_args ?_; (first | refine s_fn (hcp _) ?_ | refine s_fn (hcs _ _ ?_) ?_) <;> try first | omega | assumption) | refine ny ?_ | refine WA_block ?_ | (refine uB40_49_7 ?_; refine ⟨by kernel_rfl, ?_⟩) | (refine uB40_49_14 ?_; refine ⟨by kernel_rfl, ?_⟩) | ((first | refine grp_cons (fun _ => hcp _) ?_ | refine grp_cons (fun _ => hcs _ _ ?_) ?_) <;> try first | omega | assumption) | (refine g_d ?_; refine d_args ?_; (first | refine d_fn (hcp _) ?_ | refine d_fn (hcs _ _ ?_) ?_ | refine d_fnQ (fun _ => hcp _) ?_ | refine d_fnQ (fun _ => hcs _ _ ?_) ?_) <;> try first | omega | assumption) | (refine g_d ?_; (first | refine d_fnY (hcp _) ?_ | refine d_fnY (hcs _ _ ?_) ?_) <;> try first | omega | assumption)))
        all_goals (try (exfalso; omega))
        all_goals try (exact ⟨_, ev_⟩)
        all_goals first
          | (obtain ⟨e1, e2, e3⟩ := hps _ hat (by assumption)
             refine r_esA hQ (.inl ⟨rfl, rfl, ?_⟩)
             rw [e1, e2, e3, h2 (by assumption)]
             exact wk_tup ⟨wk_nil, WkV.refl _, WkV.refl _, trivial⟩)
          | (refine nextL_ hK (i + 1) ⟨hi, up_zero hi2 (hat.trans (by omega))⟩ (by omega) (hm := by rw [hs2]; rfl))
    · rw [if_pos hpe] at hat
      obtain ⟨e1, e2, e3⟩ := hps _ hat hpe
      rw [e1, e2, e3] at hQ
      (have FX := And.intro hla (And.intro hlp (And.intro hls (And.intro hre (And.intro hga (And.intro hgb hgc))))); repeat' (first | (refine sx ?_ ?_ <;> intro h <;> first | (exfalso; omega) | skip) | (refine g_op ?_; refine g_call ?_; refine g_args ?_; (first | refine s_fn (hcp _) ?_ | refine s_fn (hcs _ _ ?_) ?_) <;> try first | omega | assumption) | refine ny ?_ | refine WA_block ?_ | (refine uB40_49_7 ?_; refine ⟨by kernel_rfl, ?_⟩) | (refine uB40_49_14 ?_; refine ⟨by kernel_rfl, ?_⟩) | ((first | refine grp_cons (fun _ => hcp _) ?_ | refine grp_cons (fun _ => hcs _ _ ?_) ?_) <;> try first | omega | assumption) | (refine g_d ?_; refine d_args ?_; (first | refine d_fn (hcp _) ?_ | refine d_fn (hcs _ _ ?_) ?_ | refine d_fnQ (fun _ => hcp _) ?_ | refine d_fnQ (fun _ => hcs _ _ ?_) ?_) <;> try first | omega | assumption) | (refine g_d ?_; (first | refine d_fnY (hcp _) ?_ | refine d_fnY (hcs _ _ ?_) ?_) <;> try first | omega | assumption)))
      all_goals (try (exfalso; omega))
      all_goals
        refine r_esA hQ (.inl ⟨rfl, rfl, ?_⟩)
        exact wk_tup ⟨wk_nil, WkV.refl _, WkV.refl _, trivial⟩
  · obtain rfl : i = l.length := by omega
    obtain ⟨e1, e2, e3⟩ := sm_no (b := b) (by omega) hi2
    rw [e1, e2, e3] at hQ
    have hga := hla
    have hgb := hla
    have hgc := hla
    have hls := hla
    have hcp := hla
    have hcs := hla
    (have FX := And.intro hla (And.intro hlp (And.intro hls (And.intro hre (And.intro hga (And.intro hgb hgc))))); repeat' (first | (refine sx ?_ ?_ <;> intro h <;> first | (exfalso; omega) | skip) | (refine g_op ?_; refine g_call ?_; refine g_args ?_; (first | refine s_fn (hcp _) ?_ | refine s_fn (hcs _ _ ?_) ?_) <;> try first | omega | assumption) | refine ny ?_ | refine WA_block ?_ | (refine uB40_49_7 ?_; refine ⟨by kernel_rfl, ?_⟩) | (refine uB40_49_14 ?_; refine ⟨by kernel_rfl, ?_⟩) | ((first | refine grp_cons (fun _ => hcp _) ?_ | refine grp_cons (fun _ => hcs _ _ ?_) ?_) <;> try first | omega | assumption) | (refine g_d ?_; refine d_args ?_; (first | refine d_fn (hcp _) ?_ | refine d_fn (hcs _ _ ?_) ?_ | refine d_fnQ (fun _ => hcp _) ?_ | refine d_fnQ (fun _ => hcs _ _ ?_) ?_) <;> try first | omega | assumption) | (refine g_d ?_; (first | refine d_fnY (hcp _) ?_ | refine d_fnY (hcs _ _ ?_) ?_) <;> try first | omega | assumption)))
    all_goals (try (exfalso; omega))
    all_goals (refine r_esA hQ (fin_sii (j := 1) (k := b.ads.length) (D := []) (by simp) rfl (by rw [nsV_length]; exact hsl) (nsV_plain _) ⟨rfl, WkV.refl _⟩))
end Go.Proofs.Ytaoakololkcepaa
