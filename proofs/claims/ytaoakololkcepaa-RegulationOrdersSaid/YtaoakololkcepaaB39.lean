/- contracts: sums of plans -/
import Derived.Test.YtaoakololkcepaaBP
import Derived.Test.YtaoakololkcepaaB20
set_option linter.unusedSimpArgs false
set_option linter.unusedVariables false
namespace Go.Proofs.Ytaoakololkcepaa
open Go.RowKit
attribute [local irreducible] WA WOs WDs WAn qThen qBlock tput
set_option maxHeartbeats 1000000
set_option maxRecDepth 20000
set_option linter.unusedSimpArgs false
set_option linter.unusedVariables false
set_option maxHeartbeats 4000000
theorem gchecksteps_s (b : BnR) (hfa : b.ads.length ≤ 12) (l : List Int) (n : Nat) (hn : n = l.length) (m : Mem) (k : Nat) {st : Sta} (hk : m[k]? = some (.cells st 3 1 (nsV l)) := by first | exact ev_ | fail) : Gives Try.prog 108 [.bp (bxC b) 0, .sl k n] m (.int .i64 (stErr b.ads l)) := by
  subst hn
  refine Gives_fz hk (by simp [V.flat]) ?_
  show Gives _ _ [.bp (bxC b) 0, frzV k (nsV l) (.sl k l.length)] _ _
  rw [fz_nsV]
  exact gchecksteps_c b hfa l _
theorem fin_sii {m0 D X B : Mem} {j k : Nat} {st : Sta} {ty sz : Nat} {es : List (List V)} {c d : Int} {R : V → Option Mem → Prop} (hB : B = lend m0 ++ D) (hX : X[j]? = some (.cells st ty sz es)) (hk : es.length = k) (hp : plainLL es = true) (h : R (.tup [.lst es, .int .i64 c, .int .i64 d]) none) : Fin m0 R (.tup [.sl (B.length + j) k, .int .i64 c, .int .i64 d]) (B ++ X) := by
  subst hB
  refine .inr ⟨D ++ X, _, by simp, ?_, h⟩
  show (frzs (frz _ _ 3) [_, _, _]).map V.tup = _
  have e : frz ((lend m0 ++ D) ++ X) m0.length 3 (.sl ((lend m0 ++ D).length + j) k) = some (.lst es) := frz_own (m0 := m0) (D := D) (n := 2) (j := j) hX hk hp
  rw [frzs_cons e (frzs_cons (frz_int _ _ _ _ _) (frzs_cons (frz_int _ _ _ _ _) rfl))]
  rfl
theorem uB39_94_13 {N : Nat} {l : List Oper} {t : List (Nat × V)} {m : Mem} {Q : Exit → List (Nat × V) → Mem → Prop} (h : RgN Try.prog N l t m Q (fun i => if i == 9 then .w else if i == 2 || i == 4 || i == 6 then .q else .p) [.one 0, .one 1, .one 2, .one 3, .one 4, .one 5, .one 6, .one 7, .one 8, .one 9]) : WA Try.prog N (.region 13 l.toArray true) t m Q := d_rgN h
theorem gsums_c (b : BnR) (hb : Bnd b) (haf : ∀ i, i < b.ads.length → (b.ads.getD i adz).after.length ≤ 1000) (l : List (List StR)) (m : Mem) : Gives Try.prog 94 [.bp (bxC b) 0, .lst (plV l)] m (.tup [.lst (nsV (smS b l)), .int .i64 (smN b l), .int .i64 (smE b l)]) := by
  have hla := adsV_length (l := b.ads)
  have hlp := plV_length (l := l)
  have hre : ∀ k, k = b.ads.length → List.replicate k [V.int .i64 0] = nsV (smK b l 0) := fun k h => by rw [h]; simp [nsV, smK]
  have hga := hla
  have hgb := hla
  have hgc := hla
  have hls := hla
  have hcp := hla
  have hcs := hla
  have hfa := hb.fa
  have hbx : bxC b = bxA b := rfl
  suffices key : CallA Try.prog 94 [.bp (bxC b) 0, .lst (plV l)] m (fun v mo => mo = none ∧ WkV v (.tup [.lst (nsV (smS b l)), .int .i64 (smN b l), .int .i64 (smE b l)])) from Gives_of key fun v mo h => h
  by_cases h50 : 50 < l.length
  · obtain ⟨e1, e2, e3⟩ := sm_big (b := b) h50
    rw [e1, e2, e3, hbx]
    unfold bxA
    refine CallA_in Try.func94 rfl Try.ntmps94 Try.results94 (by kernel_rfl) (by simp) fun Q hQ => ?_
    (have FX := And.intro hla (And.intro hlp (And.intro hls (And.intro hre (And.intro hga (And.intro hgb hgc))))); repeat' (first | (refine sx ?_ ?_ <;> intro h <;> first | (exfalso; omega) | skip) | (refine g_op ?_; refine g_call ?_; refine g_args ?_; (first | refine s_fn (hcp _) ?_ | refine s_fn (hcs _ _ ?_) ?_) <;> try first | omega | assumption) | refine ny ?_ | refine WA_block ?_ | (refine uB39_94_13 ?_; refine ⟨by kernel_rfl, ?_⟩) | ((first | refine grp_cons (fun _ => hcp _) ?_ | refine grp_cons (fun _ => hcs _ _ ?_) ?_) <;> try first | omega | assumption) | (refine g_d ?_; refine d_args ?_; (first | refine d_fn (hcp _) ?_ | refine d_fn (hcs _ _ ?_) ?_ | refine d_fnQ (fun _ => hcp _) ?_ | refine d_fnQ (fun _ => hcs _ _ ?_) ?_) <;> try first | omega | assumption) | (refine g_d ?_; (first | refine d_fnY (hcp _) ?_ | refine d_fnY (hcs _ _ ?_) ?_) <;> try first | omega | assumption)))
    all_goals (try (exfalso; omega))
    all_goals
      refine r_esA hQ (.inl ⟨rfl, rfl, ?_⟩)
      exact wk_tup ⟨wk_nil, WkV.refl _, WkV.refl _, trivial⟩
  rw [hbx]
  unfold bxA
  refine CallA_in Try.func94 rfl Try.ntmps94 Try.results94 (by kernel_rfl) (by simp) fun Q hQ => ?_
  (have FX := And.intro hla (And.intro hlp (And.intro hls (And.intro hre (And.intro hga (And.intro hgb hgc))))); repeat' (first | (refine sx ?_ ?_ <;> intro h <;> first | (exfalso; omega) | skip) | (refine g_op ?_; refine g_call ?_; refine g_args ?_; (first | refine s_fn (hcp _) ?_ | refine s_fn (hcs _ _ ?_) ?_) <;> try first | omega | assumption) | refine ny ?_ | refine WA_block ?_ | (refine uB39_94_13 ?_; refine ⟨by kernel_rfl, ?_⟩) | ((first | refine grp_cons (fun _ => hcp _) ?_ | refine grp_cons (fun _ => hcs _ _ ?_) ?_) <;> try first | omega | assumption) | (refine g_d ?_; refine d_args ?_; (first | refine d_fn (hcp _) ?_ | refine d_fn (hcs _ _ ?_) ?_ | refine d_fnQ (fun _ => hcp _) ?_ | refine d_fnQ (fun _ => hcs _ _ ?_) ?_) <;> try first | omega | assumption) | (refine g_d ?_; (first | refine d_fnY (hcp _) ?_ | refine d_fnY (hcs _ _ ?_) ?_) <;> try first | omega | assumption)))
  all_goals (try (exfalso; omega))
  refine WA_whileK (σ := Nat) (L := m) [0, 7, 25, 26, 27] (fun i => [.bp (bxA b) 0, .sl (lend m).length b.ads.length, .lst (plV l), .int .i64 l.length, .int .i64 i]) (fun i => [.cells .own 3 1 (nsV (smK b l i))]) 1 (fun i => i ≤ l.length ∧ ∀ j, j < i → plErrAt b l j = 0) (fun i => l.length - i) 0 ⟨Nat.zero_le _, fun j h => absurd h (Nat.not_lt_zero _)⟩ tv_ rfl (fun _ => rfl) (by intro s s' _ _; simp [conB, conS, V.keeps, V.plain, Blk.flat, flatL, plainL, V.flat]) (fun _ _ _ _ => ⟨.inl (cI_flat _), trivial⟩) ?_
  rintro i ⟨hi1, hi2⟩ K hK
  simp only [zipT, bxA]
  clear FX hga hgb hgc hre hcp hcs hls
  have hre := hla
  have hsl := smK_length b l i
  rcases Nat.lt_or_ge i l.length with hi | hi
  · have hga := plV_get hi
    have hat : plErrAt b l i = if (psV b.ads (l.getD i [])).2 ≠ 0 then (psV b.ads (l.getD i [])).2 else stErr b.ads (smK b l (i + 1)) := rfl
    have hps := fun c h hc => sm_at (b := b) (c := c) (by omega) hi hi2 h hc
    have hcp := fun m => gcheckpass_c b hb haf (l.getD i []) m
    rw [hbx] at hcp
    unfold bxA at hcp
    have hz := psV_zero (ads := b.ads) (p := l.getD i [])
    have hbd := smK_bd hb hi2
    have hsu : smK b l (i + 1) = addS (l.getD i []) (smK b l i) (l.getD i []).length := rfl
    have hsl2 := smK_length b l (i + 1)
    generalize l.getD i [] = p at *
    generalize smK b l i = s at *
    generalize hs2 : smK b l (i + 1) = s2 at *
    generalize (psV b.ads p).1 = pn at *
    generalize (psV b.ads p).2 = pe at *
    have hls := stsV_length (l := p)
    have hgb := hla
    have hgc := hla
    have hcs := hla
    by_cases hpe : pe = 0
    · have hok := hz.1 hpe
      rw [if_neg (by omega)] at hat
      (have FX := And.intro hla (And.intro hlp (And.intro hls (And.intro hre (And.intro hga (And.intro hgb hgc))))); repeat' (first | (refine sx ?_ ?_ <;> intro h <;> first | (exfalso; omega) | skip) | (refine g_op ?_; refine g_call ?_; refine g_args ?_; (first | refine s_fn (hcp _) ?_ | refine s_fn (hcs _ _ ?_) ?_) <;> try first | omega | assumption) | refine ny ?_ | refine WA_block ?_ | (refine uB39_94_13 ?_; refine ⟨by kernel_rfl, ?_⟩) | ((first | refine grp_cons (fun _ => hcp _) ?_ | refine grp_cons (fun _ => hcs _ _ ?_) ?_) <;> try first | omega | assumption) | (refine g_d ?_; refine d_args ?_; (first | refine d_fn (hcp _) ?_ | refine d_fn (hcs _ _ ?_) ?_ | refine d_fnQ (fun _ => hcp _) ?_ | refine d_fnQ (fun _ => hcs _ _ ?_) ?_) <;> try first | omega | assumption) | (refine g_d ?_; (first | refine d_fnY (hcp _) ?_ | refine d_fnY (hcs _ _ ?_) ?_) <;> try first | omega | assumption)))
      all_goals (try (exfalso; omega))
      refine WA_whileP (σ := Nat) (M := lend m) [0, 7, 8, 25, 26, 27, 42, 43, 44] (fun k => [.bp (bxA b) 0, .sl (lend m).length b.ads.length, .int .i64 i, .lst (plV l), .int .i64 l.length, .int .i64 i, .lst (stsV p), .int .i64 p.length, .int .i64 k]) (fun k => [.cells .own 3 1 (nsV (addS p s k))]) 1 (fun k => k ≤ p.length) (fun k => p.length - k) 0 (Nat.zero_le _) tv_ (by simp only [addS]) (fun _ => rfl) (by intro s s' _ _; simp [conB, conS, V.keeps, V.plain, Blk.flat, flatL, plainL, V.flat]) (fun _ _ _ _ => ⟨.inl (cI_flat _), trivial⟩) ?_
      rintro k hk1 K2 hK2
      simp only [zipT, bxA]
      clear FX hgb hgc hcs
      have hal := addS_length p s k
      rcases Nat.lt_or_ge k p.length with hk | hk
      · have hgb := stsV_get hk
        have hst := psOk_st hb hok hk
        have hab := addS_bd hb hok (c := 1000) (by decide) hbd k hk1
        have hp12 := hok.1
        have hcs := hla
        have hsu2 : addS p s (k + 1) = (addS p s k).set (p.getD k stz).ad.toNat ((addS p s k).getD (p.getD k stz).ad.toNat 0 + (p.getD k stz).n) := rfl
        generalize p.getD k stz = x at *
        obtain ⟨xa, xn⟩ := x
        unfold stV at hgb
        dsimp only at hgb hst hsu2
        obtain ⟨q, rfl⟩ : ∃ q : Nat, xa = (q : Int) := ⟨xa.toNat, by omega⟩
        rw [Int.toNat_natCast] at hsu2
        have hab := hab q
        generalize addS p s k = s3 at *
        have hgc := nsV_get (l := s3) (i := q) (by omega)
        have hgc : (nsV s3)[q]? = some [V.int .i64 (s3.getD q 0)] ∧ (nsV s3).length = b.ads.length := ⟨hgc, by rw [nsV_length]; omega⟩
        generalize s3.getD q 0 = sv at *
        (have FX := And.intro hla (And.intro hlp (And.intro hls (And.intro hre (And.intro hga (And.intro hgb hgc))))); repeat' (first | (refine sx ?_ ?_ <;> intro h <;> first | (exfalso; omega) | skip) | (refine g_op ?_; refine g_call ?_; refine g_args ?_; (first | refine s_fn (hcp _) ?_ | refine s_fn (hcs _ _ ?_) ?_) <;> try first | omega | assumption) | refine ny ?_ | refine WA_block ?_ | (refine uB39_94_13 ?_; refine ⟨by kernel_rfl, ?_⟩) | ((first | refine grp_cons (fun _ => hcp _) ?_ | refine grp_cons (fun _ => hcs _ _ ?_) ?_) <;> try first | omega | assumption) | (refine g_d ?_; refine d_args ?_; (first | refine d_fn (hcp _) ?_ | refine d_fn (hcs _ _ ?_) ?_ | refine d_fnQ (fun _ => hcp _) ?_ | refine d_fnQ (fun _ => hcs _ _ ?_) ?_) <;> try first | omega | assumption) | (refine g_d ?_; (first | refine d_fnY (hcp _) ?_ | refine d_fnY (hcs _ _ ?_) ?_) <;> try first | omega | assumption)))
        all_goals (try (exfalso; omega))
        all_goals (refine nextP_ hK2 (k + 1) hk (by omega) (hm := by rw [hsu2, nsV_set]; rfl))
      · obtain rfl : k = p.length := by omega
        have hgb := hla
        have hgc := hla
        rw [← hsu] at *
        have hcs := fun (m : Mem) (k : Nat) (h : ∃ st, m[k]? = some (.cells st 3 1 (nsV s2))) => h.elim fun st h => gchecksteps_s b hfa s2 b.ads.length hsl2.symm m k h
        rw [hbx] at hcs
        unfold bxA at hcs
        generalize stErr b.ads s2 = se at *

        (have FX := And.intro hla (And.intro hlp (And.intro hls (And.intro hre (And.intro hga (And.intro hgb hgc))))); repeat' (first | (refine sx ?_ ?_ <;> intro h <;> first | (exfalso; omega) | skip) | (refine g_op ?_; refine g_call ?_; refine g_args ?_; (first | refine s_fn (hcp _) ?_ | refine s_fn (hcs _ _ ?_) ?_) <;> try first | omega | assumption) | refine ny ?_ | refine WA_block ?_ | (refine uB39_94_13 ?_; refine ⟨by kernel_rfl, ?_⟩) | ((first | refine grp_cons (fun _ => hcp _) ?_ | refine grp_cons (fun _ => hcs _ _ ?_) ?_) <;> try first | omega | assumption) | (refine g_d ?_; refine d_args ?_; (first | refine d_fn (hcp _) ?_ | refine d_fn (hcs _ _ ?_) ?_ | refine d_fnQ (fun _ => hcp _) ?_ | refine d_fnQ (fun _ => hcs _ _ ?_) ?_) <;> try first | omega | assumption) | (refine g_d ?_; (first | refine d_fnY (hcp _) ?_ | refine d_fnY (hcs _ _ ?_) ?_) <;> try first | omega | assumption)))
        all_goals (try (exfalso; omega))
        all_goals try (exact ⟨_, ev_⟩)
        all_goals first
          | (obtain ⟨e1, e2, e3⟩ := hps _ hat (by assumption)
             refine r_esA hQ (.inl ⟨rfl, rfl, ?_⟩)
             rw [e1, e2, e3]
             exact wk_tup ⟨wk_nil, WkV.refl _, WkV.refl _, trivial⟩)
          | (refine nextL_ hK (i + 1) ⟨hi, up_zero hi2 (hat.trans (by omega))⟩ (by omega) (hm := by rw [hs2]; rfl))
    · rw [if_pos hpe] at hat
      obtain ⟨e1, e2, e3⟩ := hps _ hat hpe
      rw [e1, e2, e3] at hQ
      (have FX := And.intro hla (And.intro hlp (And.intro hls (And.intro hre (And.intro hga (And.intro hgb hgc))))); repeat' (first | (refine sx ?_ ?_ <;> intro h <;> first | (exfalso; omega) | skip) | (refine g_op ?_; refine g_call ?_; refine g_args ?_; (first | refine s_fn (hcp _) ?_ | refine s_fn (hcs _ _ ?_) ?_) <;> try first | omega | assumption) | refine ny ?_ | refine WA_block ?_ | (refine uB39_94_13 ?_; refine ⟨by kernel_rfl, ?_⟩) | ((first | refine grp_cons (fun _ => hcp _) ?_ | refine grp_cons (fun _ => hcs _ _ ?_) ?_) <;> try first | omega | assumption) | (refine g_d ?_; refine d_args ?_; (first | refine d_fn (hcp _) ?_ | refine d_fn (hcs _ _ ?_) ?_ | refine d_fnQ (fun _ => hcp _) ?_ | refine d_fnQ (fun _ => hcs _ _ ?_) ?_) <;> try first | omega | assumption) | (refine g_d ?_; (first | refine d_fnY (hcp _) ?_ | refine d_fnY (hcs _ _ ?_) ?_) <;> try first | omega | assumption)))
      all_goals (try (exfalso; omega))
      all_goals
        refine r_esA hQ (.inl ⟨rfl, rfl, ?_⟩)
        exact wk_tup ⟨wk_nil, WkV.refl _, WkV.refl _, trivial⟩
  · obtain rfl : i = l.length := by omega
    obtain ⟨e1, e2, e3⟩ := sm_no (b := b) (by omega) hi2
    rw [e1, e2, e3] at hQ
    have hga := hla
    have hgb := hla
    have hgc := hla
    have hls := hla
    have hcp := hla
    have hcs := hla
    (have FX := And.intro hla (And.intro hlp (And.intro hls (And.intro hre (And.intro hga (And.intro hgb hgc))))); repeat' (first | (refine sx ?_ ?_ <;> intro h <;> first | (exfalso; omega) | skip) | (refine g_op ?_; refine g_call ?_; refine g_args ?_; (first | refine s_fn (hcp _) ?_ | refine s_fn (hcs _ _ ?_) ?_) <;> try first | omega | assumption) | refine ny ?_ | refine WA_block ?_ | (refine uB39_94_13 ?_; refine ⟨by kernel_rfl, ?_⟩) | ((first | refine grp_cons (fun _ => hcp _) ?_ | refine grp_cons (fun _ => hcs _ _ ?_) ?_) <;> try first | omega | assumption) | (refine g_d ?_; refine d_args ?_; (first | refine d_fn (hcp _) ?_ | refine d_fn (hcs _ _ ?_) ?_ | refine d_fnQ (fun _ => hcp _) ?_ | refine d_fnQ (fun _ => hcs _ _ ?_) ?_) <;> try first | omega | assumption) | (refine g_d ?_; (first | refine d_fnY (hcp _) ?_ | refine d_fnY (hcs _ _ ?_) ?_) <;> try first | omega | assumption)))
    all_goals (try (exfalso; omega))
    all_goals (refine r_esA hQ (fin_sii (j := 0) (k := b.ads.length) (D := []) (by simp) rfl (by rw [nsV_length]; exact hsl) (nsV_plain _) ⟨rfl, WkV.refl _⟩))
end Go.Proofs.Ytaoakololkcepaa
