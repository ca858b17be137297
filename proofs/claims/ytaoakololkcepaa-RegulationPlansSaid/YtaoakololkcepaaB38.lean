/- contracts: passes, of the reference -/
import Derived.Test.YtaoakololkcepaaYQ
set_option linter.unusedSimpArgs false
set_option linter.unusedVariables false
namespace Go.Proofs.Ytaoakololkcepaa
open Go.RowKit
attribute [local irreducible] WA WOs WDs WAn qThen qBlock tput
set_option maxHeartbeats 1000000
set_option maxRecDepth 20000
set_option linter.unusedSimpArgs false
set_option linter.unusedVariables false
set_option maxHeartbeats 4000000
theorem uB38_52_12 {N : Nat} {l : List Oper} {t : List (Nat × V)} {m : Mem} {Q : Exit → List (Nat × V) → Mem → Prop} (h : RgN Try.prog N l t m Q (fun i => if i == 4 || i == 6 then .q else .p) [.one 0, .one 1, .one 2, .one 3, .one 4, .one 5, .one 6, .one 7]) : WA Try.prog N (.region 12 l.toArray true) t m Q := d_rgN h
theorem uB38_52_23 {N : Nat} {l : List Oper} {t : List (Nat × V)} {m : Mem} {Q : Exit → List (Nat × V) → Mem → Prop} (h : RgN Try.prog N l t m Q (fun i => if i == 2 || i == 3 || i == 5 || i == 8 || i == 10 || i == 14 || i == 15 then .q else .p) [.one 0, .one 1, .one 2, .one 3, .one 4, .one 5, .one 6, .one 7, .one 8, .one 9, .one 10, .one 11, .one 12, .one 13, .one 14, .one 15, .one 16]) : WA Try.prog N (.region 23 l.toArray true) t m Q := d_rgN h
theorem rcheckpass_c (b : BnR) (hb : Bnd b) (hA : Aln b.ads) (l : List StR) (m : Mem) : Gives Try.prog 52 [.agg [.lst (mssV b.ms), .lst (adsV b.ads)], .lst (stsV l)] m (.tup [.int .i64 (psV b.ads l).1, .int .i64 (psV b.ads l).2]) := by
  have hla := adsV_length (l := b.ads)
  have hln := stsV_length (l := l)
  have hfa := hb.fa
  have hga := hla
  have hgb := hla
  have hgc := hla
  have hgd := hla
  have hht := hla
  by_cases h12 : 12 < l.length
  · rw [psV_big h12]
    refine Gives_in Try.func52 rfl Try.ntmps52 Try.results52 (by kernel_rfl) (by simp) rfl fun Q hQ => ?_
    (have FX := And.intro hla (And.intro hln (And.intro hga (And.intro hgb (And.intro hgc hgd)))); repeat' (first | (refine sx ?_ ?_ <;> intro h <;> first | (exfalso; omega) | skip) | (refine g_op ?_; refine g_call ?_; refine g_args ?_; (first | refine s_fn (bwithin_c _ _ _ _) ?_ | refine s_fn (hht _) ?_) <;> try first | omega | assumption) | refine ny ?_ | refine WA_block ?_ | (refine uB38_52_12 ?_; refine ⟨by kernel_rfl, ?_⟩) | (refine uB38_52_23 ?_; refine ⟨by kernel_rfl, ?_⟩) | ((first | refine grp_cons (fun _ => bwithin_c _ _ _ _) ?_ | refine grp_cons (fun _ => hht _) ?_) <;> try first | omega | assumption) | (refine g_d ?_; refine d_args ?_; (first | refine d_fn (bwithin_c _ _ _ _) ?_ | refine d_fn (hht _) ?_ | refine d_fnQ (fun _ => bwithin_c _ _ _ _) ?_ | refine d_fnQ (fun _ => hht _) ?_) <;> try first | omega | assumption) | (refine g_d ?_; (first | refine d_fnY (bwithin_c _ _ _ _) ?_ | refine d_fnY (hht _) ?_) <;> try first | omega | assumption)))
    all_goals (try (exfalso; omega))
    all_goals ((refine r_es hQ ?_; try with_reducible rfl))
  refine Gives_in Try.func52 rfl Try.ntmps52 Try.results52 (by kernel_rfl) (by simp) rfl fun Q hQ => ?_
  (have FX := And.intro hla (And.intro hln (And.intro hga (And.intro hgb (And.intro hgc hgd)))); repeat' (first | (refine sx ?_ ?_ <;> intro h <;> first | (exfalso; omega) | skip) | (refine g_op ?_; refine g_call ?_; refine g_args ?_; (first | refine s_fn (bwithin_c _ _ _ _) ?_ | refine s_fn (hht _) ?_) <;> try first | omega | assumption) | refine ny ?_ | refine WA_block ?_ | (refine uB38_52_12 ?_; refine ⟨by kernel_rfl, ?_⟩) | (refine uB38_52_23 ?_; refine ⟨by kernel_rfl, ?_⟩) | ((first | refine grp_cons (fun _ => bwithin_c _ _ _ _) ?_ | refine grp_cons (fun _ => hht _) ?_) <;> try first | omega | assumption) | (refine g_d ?_; refine d_args ?_; (first | refine d_fn (bwithin_c _ _ _ _) ?_ | refine d_fn (hht _) ?_ | refine d_fnQ (fun _ => bwithin_c _ _ _ _) ?_ | refine d_fnQ (fun _ => hht _) ?_) <;> try first | omega | assumption) | (refine g_d ?_; (first | refine d_fnY (bwithin_c _ _ _ _) ?_ | refine d_fnY (hht _) ?_) <;> try first | omega | assumption)))
  all_goals (try (exfalso; omega))
  refine WA_whileK (σ := Nat) (L := m) [1, 2, 6] (fun i => [.lst (stsV l), .ptr (lend m).length 0 0, .int .i64 i]) (fun _ => [.cells .own 25 2 [[.lst (mssV b.ms), .lst (adsV b.ads)]]]) 1 (fun i => i ≤ l.length ∧ ∀ j, j < i → psErrAt b.ads l j = 0) (fun i => l.length - i) 0 ⟨Nat.zero_le _, fun j h => absurd h (Nat.not_lt_zero _)⟩ tv_ rfl (fun _ => rfl) (by intro s s' _ _; simp [conB, conS, V.keeps, V.plain, Blk.flat, flatL, plainL, V.flat]) (by intro s s' _ _; simp [conB, conS, V.keeps, V.plain, Blk.flat, flatL, plainL, V.flat]) ?_
  rintro i ⟨hi1, hi2⟩ K hK
  simp only [zipT]
  clear FX hga hgb hgc hgd
  rcases Nat.lt_or_ge i l.length with hi | hi
  · have hga := stsV_get hi
    have hgc := hla
    have hgd := hla
    have hat : psErrAt b.ads l i = if ¬ (0 ≤ (l.getD i stz).ad ∧ (l.getD i stz).ad ≤ (b.ads.length : Int) - 1) then 6
      else if 0 ≤ fdx (isS (l.getD i stz).ad) (l.take i) then 5
      else if (l.getD i stz).n = 0 then 11
      else if ¬ (-(b.ads.getD (l.getD i stz).ad.toNat adz).pass ≤ (l.getD i stz).n ∧ (l.getD i stz).n ≤ (b.ads.getD (l.getD i stz).ad.toNat adz).pass) then 2
      else if 0 ≤ fdx (latB b.ads l i) (b.ads.getD (l.getD i stz).ad.toNat adz).after then 9 else 0 := rfl
    have hps := fun c h hc => psV_at (c := c) (by omega) hi hi2 h hc
    have hby := fun k hk h => bef_yes (n := (l.getD i stz).ad) (k := k) hi1 hk h
    have hbn := fun h => bef_no (n := (l.getD i stz).ad) hi1 h
    generalize l.getD i stz = x at *
    obtain ⟨xa, xn⟩ := x
    unfold stV at hga
    dsimp only at hga hat hby hbn
    by_cases hxa : 0 ≤ xa ∧ xa ≤ (b.ads.length : Int) - 1
    · obtain ⟨q, rfl⟩ : ∃ q : Nat, xa = (q : Int) := ⟨xa.toNat, by omega⟩
      rw [Int.toNat_natCast] at hat
      have hql : q < b.ads.length := by omega
      have hgb := adsV_get (l := b.ads) (i := q) hql
      have hpa := hb.pa q hql
      have hafq := hA.af q hql
      rw [if_neg (by omega)] at hat
      have hly := fun k n h1 h2 h3 h4 h5 => lat_yes hA (l := l) (i := i) (k := k) (n := n) h1 h2 h3 h4 (af := (b.ads.getD q adz).after) h5
      have hln2 := fun h => lat_no (l := l) (i := i) hafq.2 h
      generalize b.ads.getD q adz = y at *
      obtain ⟨yn, ye, yl, ym, yp, ya⟩ := y
      unfold adV at hgb
      dsimp only at hgb hat hpa hafq hly hln2
      (have FX := And.intro hla (And.intro hln (And.intro hga (And.intro hgb (And.intro hgc hgd)))); repeat' (first | (refine sx ?_ ?_ <;> intro h <;> first | (exfalso; omega) | skip) | (refine g_op ?_; refine g_call ?_; refine g_args ?_; (first | refine s_fn (bwithin_c _ _ _ _) ?_ | refine s_fn (hht _) ?_) <;> try first | omega | assumption) | refine ny ?_ | refine WA_block ?_ | (refine uB38_52_12 ?_; refine ⟨by kernel_rfl, ?_⟩) | (refine uB38_52_23 ?_; refine ⟨by kernel_rfl, ?_⟩) | ((first | refine grp_cons (fun _ => bwithin_c _ _ _ _) ?_ | refine grp_cons (fun _ => hht _) ?_) <;> try first | omega | assumption) | (refine g_d ?_; refine d_args ?_; (first | refine d_fn (bwithin_c _ _ _ _) ?_ | refine d_fn (hht _) ?_ | refine d_fnQ (fun _ => bwithin_c _ _ _ _) ?_ | refine d_fnQ (fun _ => hht _) ?_) <;> try first | omega | assumption) | (refine g_d ?_; (first | refine d_fnY (bwithin_c _ _ _ _) ?_ | refine d_fnY (hht _) ?_) <;> try first | omega | assumption)))
      all_goals (try (exfalso; omega))
      refine WA_while (σ := Nat) [1, 2, 6, 7, 8] (fun k => [.lst (stsV l), .ptr (lend m).length 0 0, .int .i64 i, .ptr ((lend m).length + 1) 0 0, .int .i64 k]) (fun _ => lend m ++ [.cells .own 25 2 [[.lst (mssV b.ms), .lst (adsV b.ads)]], .cells .own 79 2 [[.int .i64 q, .int .i64 xn]]]) (fun k => k ≤ i ∧ ∀ j, j < k → (l.getD j stz).ad ≠ (q : Int)) (fun k => i - k) 0 ⟨Nat.zero_le _, fun j h => absurd h (Nat.not_lt_zero _)⟩ tv_ rfl ?_
      rintro k ⟨hk1, hk2⟩ K2 hK2
      simp only [zipT]
      clear FX hgc hgd
      have hgd := hla
      rcases Nat.lt_or_ge k i with hk | hk
      · have hgc := stsV_get (l := l) (i := k) (by omega)
        have hbk := hby k hk
        have hup : (l.getD k stz).ad ≠ (q : Int) → ∀ j, j < k + 1 → (l.getD j stz).ad ≠ (q : Int) := fun h j hj => by
          rcases Nat.lt_or_ge j k with p | p
          · exact hk2 j p
          · obtain rfl : j = k := by omega
            exact h
        generalize l.getD k stz = z at *
        obtain ⟨za, zn⟩ := z
        unfold stV at hgc
        dsimp only at hgc hbk hup
        (have FX := And.intro hla (And.intro hln (And.intro hga (And.intro hgb (And.intro hgc hgd)))); repeat' (first | (refine sx ?_ ?_ <;> intro h <;> first | (exfalso; omega) | skip) | (refine g_op ?_; refine g_call ?_; refine g_args ?_; (first | refine s_fn (bwithin_c _ _ _ _) ?_ | refine s_fn (hht _) ?_) <;> try first | omega | assumption) | refine ny ?_ | refine WA_block ?_ | (refine uB38_52_12 ?_; refine ⟨by kernel_rfl, ?_⟩) | (refine uB38_52_23 ?_; refine ⟨by kernel_rfl, ?_⟩) | ((first | refine grp_cons (fun _ => bwithin_c _ _ _ _) ?_ | refine grp_cons (fun _ => hht _) ?_) <;> try first | omega | assumption) | (refine g_d ?_; refine d_args ?_; (first | refine d_fn (bwithin_c _ _ _ _) ?_ | refine d_fn (hht _) ?_ | refine d_fnQ (fun _ => bwithin_c _ _ _ _) ?_ | refine d_fnQ (fun _ => hht _) ?_) <;> try first | omega | assumption) | (refine g_d ?_; (first | refine d_fnY (bwithin_c _ _ _ _) ?_ | refine d_fnY (hht _) ?_) <;> try first | omega | assumption)))
        all_goals (try (exfalso; omega))
        all_goals first
          | (rw [hps 5 (hat.trans (by rw [if_pos (hbk (by omega))])) (by decide)] at hQ
             (refine r_es hQ ?_; try with_reducible rfl)
             done)
          | (refine next_ hK2 (k + 1) ⟨hk, hup (by omega)⟩ (by omega)
             done)
      · obtain rfl : k = i := by omega
        have hgc := hla
        rw [if_neg (hbn hk2)] at hat
        (have FX := And.intro hla (And.intro hln (And.intro hga (And.intro hgb (And.intro hgc hgd)))); repeat' (first | (refine sx ?_ ?_ <;> intro h <;> first | (exfalso; omega) | skip) | (refine g_op ?_; refine g_call ?_; refine g_args ?_; (first | refine s_fn (bwithin_c _ _ _ _) ?_ | refine s_fn (hht _) ?_) <;> try first | omega | assumption) | refine ny ?_ | refine WA_block ?_ | (refine uB38_52_12 ?_; refine ⟨by kernel_rfl, ?_⟩) | (refine uB38_52_23 ?_; refine ⟨by kernel_rfl, ?_⟩) | ((first | refine grp_cons (fun _ => bwithin_c _ _ _ _) ?_ | refine grp_cons (fun _ => hht _) ?_) <;> try first | omega | assumption) | (refine g_d ?_; refine d_args ?_; (first | refine d_fn (bwithin_c _ _ _ _) ?_ | refine d_fn (hht _) ?_ | refine d_fnQ (fun _ => bwithin_c _ _ _ _) ?_ | refine d_fnQ (fun _ => hht _) ?_) <;> try first | omega | assumption) | (refine g_d ?_; (first | refine d_fnY (bwithin_c _ _ _ _) ?_ | refine d_fnY (hht _) ?_) <;> try first | omega | assumption)))
        all_goals (try (exfalso; omega))
        all_goals try
          (rw [hps 11 (hat.trans (by rw [if_pos (by omega)])) (by decide)] at hQ
           (refine r_es hQ ?_; try with_reducible rfl)
           done)
        all_goals try
          (rw [hps 2 (hat.trans (by rw [if_neg (by omega), if_pos (by omega)])) (by decide)] at hQ
           (refine r_es hQ ?_; try with_reducible rfl)
           done)
        rw [if_neg (by omega), if_neg (by omega)] at hat
        refine WA_while (σ := Nat) [1, 2, 6, 7, 9, 10] (fun j => [.lst (stsV l), .ptr (lend m).length 0 0, .int .i64 k, .ptr ((lend m).length + 1) 0 0, .ptr ((lend m).length + 2) 0 0, .int .i64 ((k : Int) + 1 + j)]) (fun _ => lend m ++ [.cells .own 25 2 [[.lst (mssV b.ms), .lst (adsV b.ads)]], .cells .own 79 2 [[.int .i64 q, .int .i64 xn]], .cells .own 98 6 [[.str yn, .lst (efsV ye), .int .i64 yl, .int .i64 ym, .int .i64 yp, .lst (tsV ya)]]]) (fun j => k + 1 + j ≤ l.length ∧ ∀ p, k < p → p < k + 1 + j → ∀ n : Nat, (l.getD p stz).ad = (n : Int) → n < b.ads.length → ¬ 0 ≤ fdx (isT (b.ads.getD n adz).name) ya) (fun j => l.length - (k + 1 + j)) 0 ⟨by omega, fun p h1 h2 => by omega⟩ (by rw [show ((k : Int) + 1 + (0 : Nat)) = (k : Int) + 1 by omega]; exact tv_) rfl ?_
        rintro j ⟨hj1, hj2⟩ K3 hK3
        simp only [zipT]
        clear FX hgc
        clear hgd
        obtain ⟨r, hr⟩ : ∃ r : Nat, r = k + 1 + j := ⟨_, rfl⟩
        have hri : ((k : Int) + 1 + j) = (r : Int) := by omega
        have hri2 : ((k : Int) + 1 + ((j + 1 : Nat) : Int)) = (r : Int) + 1 := by omega
        rw [hri]
        rcases Nat.lt_or_ge r l.length with hj | hj
        · have hgc := stsV_get hj
          have hup : (∀ n : Nat, (l.getD r stz).ad = (n : Int) → n < b.ads.length → ¬ 0 ≤ fdx (isT (b.ads.getD n adz).name) ya) → ∀ p, k < p → p < k + 1 + (j + 1) → ∀ n : Nat, (l.getD p stz).ad = (n : Int) → n < b.ads.length → ¬ 0 ≤ fdx (isT (b.ads.getD n adz).name) ya := fun h p h1 h2 => by
            rcases Nat.lt_or_ge p r with hp | hp
            · exact hj2 p h1 (by omega)
            · obtain rfl : p = r := by omega
              exact h
          have hlr := fun n => hly r n (by omega) hj
          generalize l.getD r stz = z at *
          obtain ⟨za, zn⟩ := z
          unfold stV at hgc
          dsimp only at hgc hup hlr
          by_cases hza : 0 ≤ za ∧ za ≤ (b.ads.length : Int) - 1
          · obtain ⟨n, rfl⟩ : ∃ n : Nat, za = (n : Int) := ⟨za.toNat, by omega⟩
            have hgd := adsV_get (l := b.ads) (i := n) (by omega)
            have hht := fun m => bhastext_c ya (b.ads.getD n adz).name (by omega) m
            have hl9 := hlr n rfl (by omega)
            have hup := fun h => hup (fun n2 e h2 => (show n2 = n by omega) ▸ h)
            clear hly hlr
            generalize b.ads.getD n adz = w at *
            obtain ⟨wn, we, wl, wm, wp, wa⟩ := w
            unfold adV at hgd
            dsimp only at hgd hht hl9 hup
            (have FX := And.intro hla (And.intro hln (And.intro hga (And.intro hgb (And.intro hgc hgd)))); repeat' (first | (refine sx ?_ ?_ <;> intro h <;> first | (exfalso; omega) | skip) | (refine g_op ?_; refine g_call ?_; refine g_args ?_; (first | refine s_fn (bwithin_c _ _ _ _) ?_ | refine s_fn (hht _) ?_) <;> try first | omega | assumption) | refine ny ?_ | refine WA_block ?_ | (refine uB38_52_12 ?_; refine ⟨by kernel_rfl, ?_⟩) | (refine uB38_52_23 ?_; refine ⟨by kernel_rfl, ?_⟩) | ((first | refine grp_cons (fun _ => bwithin_c _ _ _ _) ?_ | refine grp_cons (fun _ => hht _) ?_) <;> try first | omega | assumption) | (refine g_d ?_; refine d_args ?_; (first | refine d_fn (bwithin_c _ _ _ _) ?_ | refine d_fn (hht _) ?_ | refine d_fnQ (fun _ => bwithin_c _ _ _ _) ?_ | refine d_fnQ (fun _ => hht _) ?_) <;> try first | omega | assumption) | (refine g_d ?_; (first | refine d_fnY (bwithin_c _ _ _ _) ?_ | refine d_fnY (hht _) ?_) <;> try first | omega | assumption)))
            all_goals (try (exfalso; omega))
            all_goals first
              | (rw [hps 9 (hat.trans (by rw [if_pos (hl9 (by assumption))])) (by decide)] at hQ
                 (refine r_es hQ ?_; try with_reducible rfl)
                 done)
              | (refine next_ hK3 (j + 1) ⟨by omega, hup (by assumption)⟩ (by omega) (by rw [hri2]; exact tv_)
                 done)
          · have hgd := hla
            have hup := hup (fun n e h2 => by omega)
            (have FX := And.intro hla (And.intro hln (And.intro hga (And.intro hgb (And.intro hgc hgd)))); repeat' (first | (refine sx ?_ ?_ <;> intro h <;> first | (exfalso; omega) | skip) | (refine g_op ?_; refine g_call ?_; refine g_args ?_; (first | refine s_fn (bwithin_c _ _ _ _) ?_ | refine s_fn (hht _) ?_) <;> try first | omega | assumption) | refine ny ?_ | refine WA_block ?_ | (refine uB38_52_12 ?_; refine ⟨by kernel_rfl, ?_⟩) | (refine uB38_52_23 ?_; refine ⟨by kernel_rfl, ?_⟩) | ((first | refine grp_cons (fun _ => bwithin_c _ _ _ _) ?_ | refine grp_cons (fun _ => hht _) ?_) <;> try first | omega | assumption) | (refine g_d ?_; refine d_args ?_; (first | refine d_fn (bwithin_c _ _ _ _) ?_ | refine d_fn (hht _) ?_ | refine d_fnQ (fun _ => bwithin_c _ _ _ _) ?_ | refine d_fnQ (fun _ => hht _) ?_) <;> try first | omega | assumption) | (refine g_d ?_; (first | refine d_fnY (bwithin_c _ _ _ _) ?_ | refine d_fnY (hht _) ?_) <;> try first | omega | assumption)))
            all_goals (try (exfalso; omega))
            all_goals (refine next_ hK3 (j + 1) ⟨by omega, hup⟩ (by omega) (by rw [hri2]; exact tv_))
        · have hgc := hla
          have hgd := hla
          have hz := hln2 (fun p h1 h2 => hj2 p h1 (by omega))
          rw [if_neg hz] at hat
          have hrl : r = l.length := by omega
          subst hrl
          (have FX := And.intro hla (And.intro hln (And.intro hga (And.intro hgb (And.intro hgc hgd)))); repeat' (first | (refine sx ?_ ?_ <;> intro h <;> first | (exfalso; omega) | skip) | (refine g_op ?_; refine g_call ?_; refine g_args ?_; (first | refine s_fn (bwithin_c _ _ _ _) ?_ | refine s_fn (hht _) ?_) <;> try first | omega | assumption) | refine ny ?_ | refine WA_block ?_ | (refine uB38_52_12 ?_; refine ⟨by kernel_rfl, ?_⟩) | (refine uB38_52_23 ?_; refine ⟨by kernel_rfl, ?_⟩) | ((first | refine grp_cons (fun _ => bwithin_c _ _ _ _) ?_ | refine grp_cons (fun _ => hht _) ?_) <;> try first | omega | assumption) | (refine g_d ?_; refine d_args ?_; (first | refine d_fn (bwithin_c _ _ _ _) ?_ | refine d_fn (hht _) ?_ | refine d_fnQ (fun _ => bwithin_c _ _ _ _) ?_ | refine d_fnQ (fun _ => hht _) ?_) <;> try first | omega | assumption) | (refine g_d ?_; (first | refine d_fnY (bwithin_c _ _ _ _) ?_ | refine d_fnY (hht _) ?_) <;> try first | omega | assumption)))
          all_goals (try (exfalso; omega))
          all_goals (refine nextL_ hK (k + 1) ⟨by omega, up_zero hi2 hat⟩ (by omega))
    · have hgb := hla
      rw [if_pos (by omega)] at hat
      rw [hps 6 hat (by decide)] at hQ
      (have FX := And.intro hla (And.intro hln (And.intro hga (And.intro hgb (And.intro hgc hgd)))); repeat' (first | (refine sx ?_ ?_ <;> intro h <;> first | (exfalso; omega) | skip) | (refine g_op ?_; refine g_call ?_; refine g_args ?_; (first | refine s_fn (bwithin_c _ _ _ _) ?_ | refine s_fn (hht _) ?_) <;> try first | omega | assumption) | refine ny ?_ | refine WA_block ?_ | (refine uB38_52_12 ?_; refine ⟨by kernel_rfl, ?_⟩) | (refine uB38_52_23 ?_; refine ⟨by kernel_rfl, ?_⟩) | ((first | refine grp_cons (fun _ => bwithin_c _ _ _ _) ?_ | refine grp_cons (fun _ => hht _) ?_) <;> try first | omega | assumption) | (refine g_d ?_; refine d_args ?_; (first | refine d_fn (bwithin_c _ _ _ _) ?_ | refine d_fn (hht _) ?_ | refine d_fnQ (fun _ => bwithin_c _ _ _ _) ?_ | refine d_fnQ (fun _ => hht _) ?_) <;> try first | omega | assumption) | (refine g_d ?_; (first | refine d_fnY (bwithin_c _ _ _ _) ?_ | refine d_fnY (hht _) ?_) <;> try first | omega | assumption)))
      all_goals (try (exfalso; omega))
      all_goals ((refine r_es hQ ?_; try with_reducible rfl))
  · obtain rfl : i = l.length := by omega
    have hga := hla
    have hgb := hla
    have hgc := hla
    have hgd := hla
    rw [psV_no (by omega) hi2] at hQ
    (have FX := And.intro hla (And.intro hln (And.intro hga (And.intro hgb (And.intro hgc hgd)))); repeat' (first | (refine sx ?_ ?_ <;> intro h <;> first | (exfalso; omega) | skip) | (refine g_op ?_; refine g_call ?_; refine g_args ?_; (first | refine s_fn (bwithin_c _ _ _ _) ?_ | refine s_fn (hht _) ?_) <;> try first | omega | assumption) | refine ny ?_ | refine WA_block ?_ | (refine uB38_52_12 ?_; refine ⟨by kernel_rfl, ?_⟩) | (refine uB38_52_23 ?_; refine ⟨by kernel_rfl, ?_⟩) | ((first | refine grp_cons (fun _ => bwithin_c _ _ _ _) ?_ | refine grp_cons (fun _ => hht _) ?_) <;> try first | omega | assumption) | (refine g_d ?_; refine d_args ?_; (first | refine d_fn (bwithin_c _ _ _ _) ?_ | refine d_fn (hht _) ?_ | refine d_fnQ (fun _ => bwithin_c _ _ _ _) ?_ | refine d_fnQ (fun _ => hht _) ?_) <;> try first | omega | assumption) | (refine g_d ?_; (first | refine d_fnY (bwithin_c _ _ _ _) ?_ | refine d_fnY (hht _) ?_) <;> try first | omega | assumption)))
    all_goals (try (exfalso; omega))
    all_goals ((refine r_es hQ ?_; try with_reducible rfl))
end Go.Proofs.Ytaoakololkcepaa
