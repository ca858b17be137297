/- contracts: ranges of measures -/
import Derived.Test.YtaoakololkcepaaB34
import Derived.Test.YtaoakololkcepaaB25
set_option linter.unusedSimpArgs false
set_option linter.unusedVariables false
namespace Go.Proofs.Ytaoakololkcepaa
open Go.RowKit
attribute [local irreducible] WA WOs WDs WAn qThen qBlock tput
set_option maxHeartbeats 1000000
set_option maxRecDepth 20000
set_option linter.unusedSimpArgs false
set_option linter.unusedVariables false
set_option maxHeartbeats 2000000
theorem alnL_get {n i k : Nat} (hi : i < n) : (alnL n i).getD k 0 = if k = i then 1 else 0 := by
  unfold alnL
  rw [getD_set]
  by_cases h : k = i
  · subst h
    simp [hi]
  · have h2 : ¬ i = k := fun e => h e.symm
    simp only [h, h2, false_and, if_false]
    simp [List.getD_eq_getElem?_getD, List.getElem?_replicate]
    split <;> rfl
theorem alnL_ok {n i : Nat} (hi : i < n) : wOk (alnL n i) := fun k => by
  rw [alnL_get hi]; split <;> decide
theorem ind_wg {b : BnR} {n i : Nat} (hi : i < n) : ∀ k, wgM b (alnL n i) k = if i < k then (b.ms.getD i msz).val else 0
  | 0 => rfl
  | k + 1 => by
    simp only [wgM, ind_wg hi k, alnL_get hi]
    by_cases h : k = i
    · subst h; simp
    · simp only [h, if_false, Int.zero_mul, Int.add_zero]
      by_cases h2 : i < k
      · rw [if_pos h2, if_pos (show i < k + 1 by omega)]
      · rw [if_neg h2, if_neg (show ¬ i < k + 1 by omega)]
theorem ind_wl {b : BnR} {n i : Nat} (hi : i < n) (hb : (b.ms.getD i msz).low ≤ (b.ms.getD i msz).high) : ∀ k, wtL b (alnL n i) k = (if i < k then (b.ms.getD i msz).low else 0) ∧ wtH b (alnL n i) k = (if i < k then (b.ms.getD i msz).high else 0)
  | 0 => ⟨rfl, rfl⟩
  | k + 1 => by
    obtain ⟨h1, h2⟩ := ind_wl hi hb k
    simp only [wtL, wtH, h1, h2, alnL_get hi]
    by_cases h : k = i
    · subst h
      simp only [Nat.lt_irrefl, if_false, if_true, Int.one_mul, Nat.lt_succ_self, Int.zero_add]
      omega
    · simp only [h, if_false, Int.zero_mul]
      by_cases h2 : i < k
      · rw [if_pos h2, if_pos (by omega), if_pos h2, if_pos (by omega)]; omega
      · rw [if_neg h2, if_neg (by omega), if_neg h2, if_neg (by omega)]; omega
theorem ind_sm {b : BnR} {n i j : Nat} (hi : i < n) : ∀ k, smW b (alnL n i) j k = if i < k then byN b j i else 0
  | 0 => rfl
  | k + 1 => by
    simp only [smW, ind_sm hi k, alnL_get hi]
    by_cases h : k = i
    · subst h; simp
    · simp only [h, if_false, Int.zero_mul, Int.add_zero]
      by_cases h2 : i < k
      · rw [if_pos h2, if_pos (show i < k + 1 by omega)]
      · rw [if_neg h2, if_neg (show ¬ i < k + 1 by omega)]
/-- the range of a measure -/
def rcL (b : BnR) (i : Nat) : Nat → Int
  | 0 => (b.ms.getD i msz).val
  | k + 1 => rcL b i k + min (byN b k i * (b.ads.getD k adz).least) (byN b k i * (b.ads.getD k adz).most)
def rcH (b : BnR) (i : Nat) : Nat → Int
  | 0 => (b.ms.getD i msz).val
  | k + 1 => rcH b i k + max (byN b k i * (b.ads.getD k adz).least) (byN b k i * (b.ads.getD k adz).most)
theorem ind_cn {b : BnR} {i : Nat} (hi : i < b.ms.length) : ∀ k, cnL b (alnL b.ms.length i) k = rcL b i k ∧ cnH b (alnL b.ms.length i) k = rcH b i k
  | 0 => by
    simp only [cnL, cnH, rcL, rcH, ind_wg hi, if_pos hi]
    refine ⟨?_, ?_⟩ <;> first | rfl | trivial
  | k + 1 => by
    obtain ⟨h1, h2⟩ := ind_cn hi k
    simp only [cnL, cnH, rcL, rcH, h1, h2, ind_sm hi, if_pos hi, Int.mul_comm (byN b k i)]
    refine ⟨?_, ?_⟩ <;> first | rfl | trivial
theorem rc_bd {b : BnR} (hb : Bnd b) {i : Nat} (hi : i < b.ms.length) (k : Nat) (hk : k ≤ b.ads.length) : -20000000000 ≤ rcL b i k ∧ rcL b i k ≤ 20000000000 ∧ -20000000000 ≤ rcH b i k ∧ rcH b i k ≤ 20000000000 := by
  have h := cn_bd hb (alnL_ok hi) k hk
  rw [(ind_cn hi k).1, (ind_cn hi k).2] at h
  have := hb.fa
  omega
theorem galw_c (b : BnR) (hb : Bnd b) (i : Nat) (hi : i < b.ms.length) (m : Mem) : Gives Try.prog 84 [.bp (bxC b) 0, .lst (nsV (alnL b.ms.length i))] m (.tup [.agg [.int .i64 (rcL b i b.ads.length), .int .i64 (rcH b i b.ads.length)], .agg [.int .i64 (b.ms.getD i msz).low, .int .i64 (b.ms.getD i msz).high]]) := by
  have h := gweighed_c b hb (alnL b.ms.length i) (alnL_length _ _) (alnL_ok hi) m
  have h2 := ind_wl hi (hb.va i hi).2.1.2 b.ms.length
  rw [if_pos hi, if_pos hi] at h2
  rw [(ind_cn hi _).1, (ind_cn hi _).2, h2.1, h2.2] at h
  exact h

theorem gReach_bad (b : BnR) (hb : Bl b) (h0 : bnErr b ≠ 0) (i : Int) (m : Mem) : Gives Try.prog 33 [.agg (bnV b), .int .i64 i] m (.tup [.agg [.int .i64 0, .int .i64 0], .int .i64 (bnErr b)]) := by
  have hlm := mssV_length (l := b.ms)
  have hop := fun m => gopen_bad b hb h0 m
  unfold bnV at hop ⊢
  refine Gives_in Try.func33 rfl Try.ntmps33 Try.results33 (by kernel_rfl) (by simp) rfl fun Q hQ => ?_
  (have FX := hlm; repeat' (first | (refine sx ?_ ?_ <;> intro h <;> first | (exfalso; omega) | skip) | (refine g_op ?_; refine g_call ?_; refine g_args ?_; (first | refine s_fn (hop _) ?_ | refine s_fn (gwithin_c _ _ _ _) ?_) <;> try first | omega | assumption) | refine ny ?_ | refine WA_block ?_))
  all_goals (try (exfalso; omega))
  all_goals ((refine r_es hQ ?_; try with_reducible rfl))
theorem gReach_out (b : BnR) (hb : Bl b) (h0 : bnErr b = 0) (i : Int) (hi : ¬ (0 ≤ i ∧ i ≤ (b.ms.length : Int) - 1)) (m : Mem) : Gives Try.prog 33 [.agg (bnV b), .int .i64 i] m (.tup [.agg [.int .i64 0, .int .i64 0], .int .i64 6]) := by
  have hlm := mssV_length (l := b.ms)
  have hfm := (bnd_ok (bn_ok h0)).fm
  have hop := fun m => gopen_ok b hb h0 m
  unfold bnV at hop ⊢
  refine Gives_in Try.func33 rfl Try.ntmps33 Try.results33 (by kernel_rfl) (by simp) rfl fun Q hQ => ?_
  (have FX := hlm; repeat' (first | (refine sx ?_ ?_ <;> intro h <;> first | (exfalso; omega) | skip) | (refine g_op ?_; refine g_call ?_; refine g_args ?_; (first | refine s_fn (hop _) ?_ | refine s_fn (gwithin_c _ _ _ _) ?_) <;> try first | omega | assumption) | refine ny ?_ | refine WA_block ?_))
  all_goals (try (exfalso; omega))
  all_goals ((refine r_es hQ ?_; try with_reducible rfl))
theorem gReach_ok (b : BnR) (hb : Bl b) (h0 : bnErr b = 0) (i : Nat) (hi : i < b.ms.length) (m : Mem) : Gives Try.prog 33 [.agg (bnV b), .int .i64 i] m (.tup [.agg [.int .i64 (rcL b i b.ads.length), .int .i64 (rcH b i b.ads.length)], .int .i64 0]) := by
  have hlm := mssV_length (l := b.ms)
  have hbd := bnd_ok (bn_ok h0)
  have hfm := hbd.fm
  have hop := fun m => gopen_ok b hb h0 m
  have hal := fun m => galone_c b hfm i hi m
  have hwe := fun m => galw_c b hbd i hi m
  unfold bnV at hop ⊢
  refine Gives_in Try.func33 rfl Try.ntmps33 Try.results33 (by kernel_rfl) (by simp) rfl fun Q hQ => ?_
  (have FX := hlm; repeat' (first | (refine sx ?_ ?_ <;> intro h <;> first | (exfalso; omega) | skip) | (refine g_op ?_; refine g_call ?_; refine g_args ?_; (first | refine s_fn (hop _) ?_ | refine s_fn (gwithin_c _ _ _ _) ?_ | refine s_fn (hal _) ?_ | refine s_fn (hwe _) ?_) <;> try first | omega | assumption) | refine ny ?_ | refine WA_block ?_))
  all_goals (try (exfalso; omega))
  all_goals ((refine r_es hQ ?_; try with_reducible rfl))
theorem uB35_36_1 {N : Nat} {l : List Oper} {t : List (Nat × V)} {m : Mem} {Q : Exit → List (Nat × V) → Mem → Prop} (h : RgN Try.prog N l t m Q (fun i => if i == 14 then .f else if i == 13 then .a else if i == 1 || i == 5 || i == 7 || i == 11 then .q else .p) [.one 0, .one 1, .one 2, .one 3, .one 4, .one 5, .one 6, .one 7, .one 8, .one 9, .one 10, .one 11, .one 12, .one 13, .one 14]) : WA Try.prog N (.region 1 l.toArray true) t m Q := d_rgN h
theorem uB35_36_5 {N : Nat} {l : List Oper} {t : List (Nat × V)} {m : Mem} {Q : Exit → List (Nat × V) → Mem → Prop} (h : RgN Try.prog N l t m Q (fun i => if i == 0 || i == 3 || i == 5 || i == 9 || i == 11 || i == 14 || i == 16 || i == 20 then .q else .p) [.one 0, .one 1, .one 2, .one 3, .one 4, .one 5, .one 6, .one 7, .one 8, .one 9, .one 10, .one 11, .one 12, .one 13, .one 14, .one 15, .one 16, .one 17, .one 18, .one 19, .one 20, .one 21, .one 22, .one 23]) : WA Try.prog N (.region 5 l.toArray true) t m Q := d_rgN h
theorem rreach_c (b : BnR) (hb : Bnd b) (hef : ∀ k, k < b.ads.length → (b.ads.getD k adz).effs.length ≤ 1000) (i : Nat) (hi : i < b.ms.length) (m : Mem) : Gives Try.prog 36 [.agg [.lst (mssV b.ms), .lst (adsV b.ads)], .int .i64 i] m (.agg [.int .i64 (rcL b i b.ads.length), .int .i64 (rcH b i b.ads.length)]) := by
  have hlm := mssV_length (l := b.ms)
  have hla := adsV_length (l := b.ads)
  have hgm := mssV_get hi
  have hga := hla
  have hby := hla
  have hfa := hb.fa
  have e0 : rcL b i 0 = (b.ms.getD i msz).val := rfl
  have e1 : rcH b i 0 = (b.ms.getD i msz).val := rfl
  generalize b.ms.getD i msz = x at hgm e0 e1
  obtain ⟨xn, xv, xl, xh⟩ := x
  unfold msV at hgm
  dsimp only at hgm e0 e1
  refine Gives_in Try.func36 rfl Try.ntmps36 Try.results36 (by kernel_rfl) (by simp) rfl fun Q hQ => ?_
  (have FX := And.intro hlm (And.intro hla (And.intro hgm hga)); repeat' (first | (refine sx ?_ ?_ <;> intro h <;> first | (exfalso; omega) | skip) | (refine g_op ?_; refine g_call ?_; refine g_args ?_; (first | refine s_fn (hby _) ?_) <;> try first | omega | assumption) | refine ny ?_ | refine WA_block ?_ | (refine uB35_36_1 ?_; refine ⟨by kernel_rfl, ?_⟩) | (refine uB35_36_5 ?_; refine ⟨by kernel_rfl, ?_⟩) | ((first | refine grp_cons (fun _ => hby _) ?_) <;> try first | omega | assumption) | (refine g_d ?_; refine d_args ?_; (first | refine d_fn (hby _) ?_ | refine d_fnQ (fun _ => hby _) ?_) <;> try first | omega | assumption) | (refine g_d ?_; (first | refine d_fnY (hby _) ?_) <;> try first | omega | assumption)))
  all_goals (try (exfalso; omega))
  refine WA_whileK (σ := Nat) [1, 2, 4, 5, 6] (fun k => [.int .i64 i, .ptr (lend m).length 0 0, .ptr ((lend m).length + 1) 0 0, .ptr ((lend m).length + 2) 0 0, .int .i64 k]) (fun k => [.cells .own 25 2 [[.lst (mssV b.ms), .lst (adsV b.ads)]], .cells .own 52 2 [[.int .i64 0, .int .i64 0]], .cells .own 52 2 [[.int .i64 (rcL b i k), .int .i64 (rcH b i k)]]]) 3 (fun k => k ≤ b.ads.length) (fun k => b.ads.length - k) 0 (Nat.zero_le _) tv_ (by rw [e0, e1]) (fun _ => rfl) (by intro s s' _ _; simp [conB, conS, V.keeps, V.plain, Blk.flat, flatL, plainL, V.flat]) (fun s s' _ _ => ⟨.inr rfl, .inr rfl, .inl rfl, trivial⟩) ?_
  rintro k hk1 K hK
  simp only [zipT]
  clear FX hga hgm hby
  have hrb := rc_bd hb hi k hk1
  rcases Nat.lt_or_ge k b.ads.length with hk | hk
  · have hga := adsV_get hk
    have hgm := hla
    have hby := fun m => rby_c b k i hk hi (hef k hk) m
    have hle := hb.le k hk
    have hmo := hb.mo k hk
    have hbx := hb.by_ k i
    have p1 : rcL b i (k + 1) = rcL b i k + min (byN b k i * (b.ads.getD k adz).least) (byN b k i * (b.ads.getD k adz).most) := rfl
    have p2 : rcH b i (k + 1) = rcH b i k + max (byN b k i * (b.ads.getD k adz).least) (byN b k i * (b.ads.getD k adz).most) := rfl
    have m1 := mul_bd (a := 1000) (c := 1000) (x := byN b k i) (y := (b.ads.getD k adz).least) (by decide) hbx (by omega)
    have m2 := mul_bd (a := 1000) (c := 1000) (x := byN b k i) (y := (b.ads.getD k adz).most) (by decide) hbx (by omega)
    generalize b.ads.getD k adz = x at *
    obtain ⟨yn, ye, yl, ym, yp, ya⟩ := x
    unfold adV at hga
    dsimp only at hga hle hmo p1 p2 m1 m2
    generalize byN b k i = bk at *
    generalize rcL b i k = lo at *
    generalize rcH b i k = hi' at *
    (have FX := And.intro hlm (And.intro hla (And.intro hgm hga)); repeat' (first | (refine sx ?_ ?_ <;> intro h <;> first | (exfalso; omega) | skip) | (refine g_op ?_; refine g_call ?_; refine g_args ?_; (first | refine s_fn (hby _) ?_) <;> try first | omega | assumption) | refine ny ?_ | refine WA_block ?_ | (refine uB35_36_1 ?_; refine ⟨by kernel_rfl, ?_⟩) | (refine uB35_36_5 ?_; refine ⟨by kernel_rfl, ?_⟩) | ((first | refine grp_cons (fun _ => hby _) ?_) <;> try first | omega | assumption) | (refine g_d ?_; refine d_args ?_; (first | refine d_fn (hby _) ?_ | refine d_fnQ (fun _ => hby _) ?_) <;> try first | omega | assumption) | (refine g_d ?_; (first | refine d_fnY (hby _) ?_) <;> try first | omega | assumption)))
    all_goals (try (exfalso; omega))
    all_goals (refine nextL_ hK (k + 1) hk (by omega) (hm := by rw [p1, p2, ← imin, ← imax]; try rfl))
  · obtain rfl : k = b.ads.length := by omega
    have hga := hla
    have hgm := hla
    have hby := hla
    (have FX := And.intro hlm (And.intro hla (And.intro hgm hga)); repeat' (first | (refine sx ?_ ?_ <;> intro h <;> first | (exfalso; omega) | skip) | (refine g_op ?_; refine g_call ?_; refine g_args ?_; (first | refine s_fn (hby _) ?_) <;> try first | omega | assumption) | refine ny ?_ | refine WA_block ?_ | (refine uB35_36_1 ?_; refine ⟨by kernel_rfl, ?_⟩) | (refine uB35_36_5 ?_; refine ⟨by kernel_rfl, ?_⟩) | ((first | refine grp_cons (fun _ => hby _) ?_) <;> try first | omega | assumption) | (refine g_d ?_; refine d_args ?_; (first | refine d_fn (hby _) ?_ | refine d_fnQ (fun _ => hby _) ?_) <;> try first | omega | assumption) | (refine g_d ?_; (first | refine d_fnY (hby _) ?_) <;> try first | omega | assumption)))
    all_goals (try (exfalso; omega))
    all_goals ((refine r_es hQ ?_; try with_reducible rfl))
/-- the measures that are out of reach -/
def outB (b : BnR) (i : Nat) : Bool := !decide (rcL b i b.ads.length ≤ (b.ms.getD i msz).high ∧ (b.ms.getD i msz).low ≤ rcH b i b.ads.length)
def outP (b : BnR) (n : Nat) : List Nat := (List.range n).filter (outB b)
theorem outP_succ (b : BnR) (n : Nat) : outP b (n + 1) = if outB b n = true then outP b n ++ [n] else outP b n := by
  unfold outP
  rw [List.range_succ, List.filter_append]
  by_cases h : outB b n = true
  · rw [if_pos h]; simp [h]
  · rw [if_neg h]; simp [h]
theorem outP_le (b : BnR) (n : Nat) : (outP b n).length ≤ n := by
  have := List.length_filter_le (outB b) (List.range n)
  simpa [outP] using this
theorem nuE_ok {out : List Nat} : (nuE out).all (TB.ok (nuE out).length) = true := by
  cases out with
  | nil => simp [nuE]
  | cons p r => simp only [nuE, List.all_cons, TB.ok, TV.okT, List.all_nil, Bool.and_true, Bool.and_self, tvs_ok, List.length_cons, List.length_nil]
theorem nuS_ok {out : List Nat} {l1 l2 : List V} : (l1.map TV.v ++ nuSt 0 out :: l2.map TV.v).all (TV.okT (nuE out).length) = true := by
  have h : ∀ (ls : List V) n, (ls.map TV.v).all (TV.okT n) = true := fun ls n => by simp [TV.okT]
  rw [List.all_append, List.all_cons, h, h]
  cases out with
  | nil => simp [TV.okT, nuSt]
  | cons p r => simp [TV.okT, nuSt, nuE]
theorem fin_sli3 {m0 D X B : Mem} {j k : Nat} {st : Sta} {ty sz : Nat} {es : List (List V)} {c : Int} {R : V → Option Mem → Prop} (hB : B = lend m0 ++ D) (hX : X[j]? = some (.cells st ty sz es)) (hk : es.length = k) (hp : plainLL es = true) (h : R (.tup [.lst es, .int .i64 c]) none) : Fin m0 R (.tup [.sl (B.length + j) k, .int .i64 c]) (B ++ X) := by
  subst hB
  refine .inr ⟨D ++ X, _, by simp, ?_, h⟩
  show (frzs (frz _ _ 3) [_, _]).map V.tup = _
  have e : frz ((lend m0 ++ D) ++ X) m0.length 3 (.sl ((lend m0 ++ D).length + j) k) = some (.lst es) := frz_own (m0 := m0) (D := D) (n := 2) (j := j) hX hk hp
  rw [frzs_cons e (frzs_cons (frz_int _ _ _ _ _) rfl)]
  rfl

theorem gOut_bad (b : BnR) (hb : Bl b) (h0 : bnErr b ≠ 0) (m : Mem) : Gives Try.prog 34 [.agg (bnV b)] m (.tup [.nilsl, .int .i64 (bnErr b)]) := by
  have hlm := mssV_length (l := b.ms)
  have hop := fun m => gopen_bad b hb h0 m
  unfold bnV at hop ⊢
  refine Gives_in Try.func34 rfl Try.ntmps34 Try.results34 (by kernel_rfl) (by simp) rfl fun Q hQ => ?_
  (have FX := hlm; repeat' (first | (refine sx ?_ ?_ <;> intro h <;> first | (exfalso; omega) | skip) | (refine g_op ?_; refine g_call ?_; refine g_args ?_; (first | refine s_fn (hop _) ?_) <;> try first | omega | assumption) | refine ny ?_ | refine WA_block ?_))
  all_goals (try (exfalso; omega))
  all_goals ((refine r_es hQ ?_; try with_reducible rfl))
theorem gOut_ok (b : BnR) (hb : Bl b) (h0 : bnErr b = 0) (m : Mem) : Gives Try.prog 34 [.agg (bnV b)] m (.tup [.lst (nuV (outP b b.ms.length)), .int .i64 0]) := by
  have hlm := mssV_length (l := b.ms)
  have hll := hlm
  have hlt := hlm
  have hal := hlm
  have hwe := hlm
  have hbd := bnd_ok (bn_ok h0)
  have hfm := hbd.fm
  have hop := fun m => gopen_ok b hb h0 m
  suffices key : CallA Try.prog 34 [.agg (bnV b)] m (fun v mo => mo = none ∧ WkV v (.tup [.lst (nuV (outP b b.ms.length)), .int .i64 0])) from Gives_of key fun v mo h => h
  unfold bnV at hop ⊢
  refine CallA_in Try.func34 rfl Try.ntmps34 Try.results34 (by kernel_rfl) (by simp) fun Q hQ => ?_
  (have FX := And.intro hlm (And.intro hll hlt); repeat' (first | (refine sx ?_ ?_ <;> intro h <;> first | (exfalso; omega) | skip) | (refine g_op ?_; refine g_call ?_; refine g_args ?_; (first | refine s_fn (hop _) ?_ | refine s_fn (hal _) ?_ | refine s_fn (hwe _) ?_ | refine s_fn (gmeets_c _ _ _ _ _) ?_) <;> try first | omega | assumption) | refine ny ?_ | refine WA_block ?_))
  all_goals (try (exfalso; omega))
  refine WA_whileJ (σ := Nat) (L := lend m) [4, 20, 6, 21] (fun i => [.v (.bp (bxC b) 0), .v (.int .i64 b.ms.length), nuSt 0 (outP b i), .v (.int .i64 i)]) (fun i => nuE (outP b i)) (fun i => i ≤ b.ms.length) (fun i => b.ms.length - i) 0 [] (Nat.zero_le _) ?_ rfl rfl (by decide) (by decide) (fun s _ => nuS_ok (l1 := [.bp (bxC b) 0, .int .i64 b.ms.length]) (l2 := [.int .i64 s])) (fun _ _ => nuE_ok) ?_
  · exact tv_
  rintro i hi1 B ⟨D, hB⟩ K hK
  clear FX hll hlt hal hwe hop
  have hop := hlm
  have hvl := outP_le b i
  rcases Nat.lt_or_ge i b.ms.length with hi | hi
  · have hbs := outP_succ b i
    have hbb : outB b i = !decide (rcL b i b.ads.length ≤ (b.ms.getD i msz).high ∧ (b.ms.getD i msz).low ≤ rcH b i b.ads.length) := rfl
    have hal := fun m => galone_c b hfm i hi m
    have hwe := fun m => galw_c b hbd i hi m
    have hnx := hK (i + 1)
    have hny := fun (_ : Unit) => hnx
    clear hnx hK
    have hb1 : ¬ (rcL b i b.ads.length ≤ (b.ms.getD i msz).high ∧ (b.ms.getD i msz).low ≤ rcH b i b.ads.length) → outP b (i + 1) = outP b i ++ [i] := fun h => by rw [hbs, if_pos (hbb.trans (by rw [decide_eq_false h]; rfl))]
    have hb2 : (rcL b i b.ads.length ≤ (b.ms.getD i msz).high ∧ (b.ms.getD i msz).low ≤ rcH b i b.ads.length) → outP b (i + 1) = outP b i := fun h => by rw [hbs, if_neg (by rw [hbb, decide_eq_true h]; decide)]
    clear hbs hbb
    generalize (b.ms.getD i msz).high = yhi at *
    generalize (b.ms.getD i msz).low = ylo at *
    generalize rcL b i b.ads.length = rlo at *
    generalize rcH b i b.ads.length = rhi at *
    generalize hbk : outP b i = out at *
    cases out with
    | nil =>
      have hll := hlm
      have hlt := hlm
      simp only [nuSt, nuE]
      simp only [List.map_cons, List.map_nil, TB.inst, TV.inst, tv_map, zipT, List.cons_append, List.nil_append, Nat.add_zero]
      (have FX := And.intro hlm (And.intro hll hlt); repeat' (first | (refine sx ?_ ?_ <;> intro h <;> first | (exfalso; omega) | skip) | (refine g_op ?_; refine g_call ?_; refine g_args ?_; (first | refine s_fn (hop _) ?_ | refine s_fn (hal _) ?_ | refine s_fn (hwe _) ?_ | refine s_fn (gmeets_c _ _ _ _ _) ?_) <;> try first | omega | assumption) | refine ny ?_ | refine WA_block ?_))
      all_goals (try (exfalso; first | omega | simp_all; done))
      all_goals first
        | (have h2 := hb1 (by assumption)
           rw [h2] at hny
           (refine nextU_ hny (()) [3] (hi) (by omega) ?_ (ht := ?_); (focus (simp only [nuE, List.cons_append, List.nil_append, List.map_cons, List.map_nil, TB.inst, TV.inst, tv_map, List.cons_append, List.nil_append]; first | rfl | (simp [ptsV, ptV]; done) | (simp [hpsV, hpV]; done) | (simp [frsV, frV]; done) | (simp [txV]; done) | (simp [prtsV, prtV]; done))); (simp only [nuSt, List.cons_append, List.nil_append, List.length_append, List.length_cons, List.length_nil, Nat.zero_add, List.map_cons, List.map_nil, TV.inst, List.getD_cons_zero, List.getD_cons_succ]; exact tv_)))
        | (have h2 := hb2 (by assumption)
           rw [h2] at hny
           refine nextU_ hny () [] hi (by omega) rfl (ht := ?_)
           simp only [nuSt, List.map_cons, List.map_nil, TV.inst, List.getD_cons_zero, List.getD_cons_succ]
           exact tv_)
    | cons p r =>
      have hll : (nuV (p :: r)).length = r.length + 1 := nuV_length
      have hlt : (nuV (p :: r)).take (r.length + 1) = nuV (p :: r) := by rw [List.take_of_length_le (by rw [hll]; exact Nat.le_refl _)]
      have hrl : r.length + 1 ≤ i := by simpa using hvl
      simp only [nuSt, nuE]
      simp only [List.map_cons, List.map_nil, TB.inst, TV.inst, tv_map, zipT, List.cons_append, List.nil_append, Nat.add_zero]
      (have FX := And.intro hlm (And.intro hll hlt); repeat' (first | (refine sx ?_ ?_ <;> intro h <;> first | (exfalso; omega) | skip) | (refine g_op ?_; refine g_call ?_; refine g_args ?_; (first | refine s_fn (hop _) ?_ | refine s_fn (hal _) ?_ | refine s_fn (hwe _) ?_ | refine s_fn (gmeets_c _ _ _ _ _) ?_) <;> try first | omega | assumption) | refine ny ?_ | refine WA_block ?_))
      all_goals (try (exfalso; first | omega | simp_all; done))
      all_goals first
        | (have h2 := hb1 (by assumption)
           rw [h2] at hny
           have hsn : nuV (p :: (r ++ [i])) = nuV (p :: r) ++ [[V.int .i64 (i : Int)]] := nuV_snoc (p :: r) i
           (refine nextU_ hny (()) [4] (hi) (by omega) ?_ (ht := ?_); (focus (simp only [nuE, hsn, List.cons_append, List.nil_append, List.map_cons, List.map_nil, TB.inst, TV.inst, tv_map, List.cons_append, List.nil_append]; first | rfl | (simp [ptsV, ptV]; done) | (simp [hpsV, hpV]; done) | (simp [frsV, frV]; done) | (simp [txV]; done) | (simp [prtsV, prtV]; done))); (simp only [nuSt, List.cons_append, List.nil_append, List.length_append, List.length_cons, List.length_nil, Nat.zero_add, List.map_cons, List.map_nil, TV.inst, List.getD_cons_zero, List.getD_cons_succ]; exact tv_)))
        | (have h2 := hb2 (by assumption)
           rw [h2] at hny
           (refine nextU_ hny (()) [0] (hi) (by omega) ?_ (ht := ?_); (focus (simp only [nuE, List.map_cons, List.map_nil, TB.inst, TV.inst, tv_map, List.cons_append, List.nil_append]; first | rfl | (simp [ptsV, ptV]; done) | (simp [hpsV, hpV]; done) | (simp [frsV, frV]; done) | (simp [txV]; done) | (simp [prtsV, prtV]; done))); (simp only [nuSt, List.map_cons, List.map_nil, TV.inst, List.getD_cons_zero, List.getD_cons_succ]; exact tv_)))
  · obtain rfl : i = b.ms.length := by omega
    have hal := hlm
    have hwe := hlm
    clear hK
    generalize outP b b.ms.length = out at *
    cases out with
    | nil =>
      have hll := hlm
      have hlt := hlm
      simp only [nuSt, nuE]
      simp only [List.map_cons, List.map_nil, TB.inst, TV.inst, tv_map, zipT, List.cons_append, List.nil_append, Nat.add_zero]
      (have FX := And.intro hlm (And.intro hll hlt); repeat' (first | (refine sx ?_ ?_ <;> intro h <;> first | (exfalso; omega) | skip) | (refine g_op ?_; refine g_call ?_; refine g_args ?_; (first | refine s_fn (hop _) ?_ | refine s_fn (hal _) ?_ | refine s_fn (hwe _) ?_ | refine s_fn (gmeets_c _ _ _ _ _) ?_) <;> try first | omega | assumption) | refine ny ?_ | refine WA_block ?_))
      all_goals (try (exfalso; omega))
      all_goals
        refine r_esA hQ (.inl ⟨rfl, rfl, ?_⟩)
        exact wk_tup ⟨wk_nil, WkV.refl _, trivial⟩
    | cons p r =>
      have hll : (nuV (p :: r)).length = r.length + 1 := nuV_length
      have hlt : (nuV (p :: r)).take (r.length + 1) = nuV (p :: r) := by rw [List.take_of_length_le (by rw [hll]; exact Nat.le_refl _)]
      simp only [nuSt, nuE]
      simp only [List.map_cons, List.map_nil, TB.inst, TV.inst, tv_map, zipT, List.cons_append, List.nil_append, Nat.add_zero]
      (have FX := And.intro hlm (And.intro hll hlt); repeat' (first | (refine sx ?_ ?_ <;> intro h <;> first | (exfalso; omega) | skip) | (refine g_op ?_; refine g_call ?_; refine g_args ?_; (first | refine s_fn (hop _) ?_ | refine s_fn (hal _) ?_ | refine s_fn (hwe _) ?_ | refine s_fn (gmeets_c _ _ _ _ _) ?_) <;> try first | omega | assumption) | refine ny ?_ | refine WA_block ?_))
      all_goals (try (exfalso; omega))
      all_goals (refine r_esA hQ (fin_sli3 (j := 0) hB rfl hll (nuV_plain _) ⟨rfl, WkV.refl _⟩))
theorem uB35_35_6 {N : Nat} {l : List Oper} {t : List (Nat × V)} {m : Mem} {Q : Exit → List (Nat × V) → Mem → Prop} (h : RgN Try.prog N l t m Q (fun i => if i == 1 || i == 3 || i == 7 || i == 11 || i == 13 || i == 17 then .q else .p) [.one 0, .one 1, .one 2, .one 3, .one 4, .one 5, .one 6, .one 7, .one 8, .one 9, .one 10, .one 11, .one 12, .one 13, .one 14, .one 15, .one 16, .one 17, .one 18, .one 19]) : WA Try.prog N (.region 6 l.toArray true) t m Q := d_rgN h
theorem rout_c (b : BnR) (hb : Bnd b) (hef : ∀ k, k < b.ads.length → (b.ads.getD k adz).effs.length ≤ 1000) (m : Mem) : Gives Try.prog 35 [.agg [.lst (mssV b.ms), .lst (adsV b.ads)]] m (.lst (nuV (outP b b.ms.length))) := by
  have hlm := mssV_length (l := b.ms)
  have hla := adsV_length (l := b.ads)
  have hgm := hla
  have hll := hla
  have hlt := hla
  have hre := hla
  have hfa := hb.fa
  have hfm := hb.fm
  suffices key : CallA Try.prog 35 [.agg [.lst (mssV b.ms), .lst (adsV b.ads)]] m (fun v' mo => v' = oV (nuV (outP b b.ms.length)) ∧ mo = none) from Gives_weak key (wk_oV _)
  refine CallA_in Try.func35 rfl Try.ntmps35 Try.results35 (by kernel_rfl) (by simp) fun Q hQ => ?_
  (have FX := And.intro hlm (And.intro hla (And.intro hgm (And.intro hll hlt))); repeat' (first | (refine sx ?_ ?_ <;> intro h <;> first | (exfalso; omega) | skip) | (refine g_op ?_; refine g_call ?_; refine g_args ?_; (first | refine s_fn (hre _) ?_) <;> try first | omega | assumption) | refine ny ?_ | refine WA_block ?_ | (refine uB35_35_6 ?_; refine ⟨by kernel_rfl, ?_⟩) | ((first | refine grp_cons (fun _ => hre _) ?_) <;> try first | omega | assumption) | (refine g_d ?_; refine d_args ?_; (first | refine d_fn (hre _) ?_ | refine d_fnQ (fun _ => hre _) ?_) <;> try first | omega | assumption) | (refine g_d ?_; (first | refine d_fnY (hre _) ?_) <;> try first | omega | assumption)))
  refine WA_whileJ (σ := Nat) (L := lend m) (X := [.cells .own 25 2 [[.lst (mssV b.ms), .lst (adsV b.ads)]]]) [1, 3, 4] (fun i => [.ptr 0 0 0, nuSt 1 (outP b i), .v (.int .i64 i)]) (fun i => roE b.ms b.ads (outP b i)) (fun i => i ≤ b.ms.length) (fun i => b.ms.length - i) 0 [0] (Nat.zero_le _) ?_ rfl rfl (by decide) (by decide) (fun s _ => roS_ok (l := [.int .i64 s])) (fun _ _ => roE_ok) ?_
  · exact tv_
  rintro i hi1 B ⟨D, hB⟩ K hK
  clear FX hgm hll hlt hre
  have hvl := outP_le b i
  rcases Nat.lt_or_ge i b.ms.length with hi | hi
  · have hgm := mssV_get hi
    have hre := fun m => rreach_c b hb hef i hi m
    have hbs := outP_succ b i
    have hbb : outB b i = !decide (rcL b i b.ads.length ≤ (b.ms.getD i msz).high ∧ (b.ms.getD i msz).low ≤ rcH b i b.ads.length) := rfl
    have hnx := hK (i + 1)
    have hny := fun (_ : Unit) => hnx
    clear hnx hK
    generalize b.ms.getD i msz = y at hgm hbb
    obtain ⟨ynm, yva, ylo, yhi⟩ := y
    unfold msV at hgm
    dsimp only at hgm hbb
    have hb1 : ¬ (rcL b i b.ads.length ≤ yhi ∧ ylo ≤ rcH b i b.ads.length) → outP b (i + 1) = outP b i ++ [i] := fun h => by rw [hbs, if_pos (hbb.trans (by rw [decide_eq_false h]; rfl))]
    have hb2 : (rcL b i b.ads.length ≤ yhi ∧ ylo ≤ rcH b i b.ads.length) → outP b (i + 1) = outP b i := fun h => by rw [hbs, if_neg (by rw [hbb, decide_eq_true h]; decide)]
    clear hbs hbb
    generalize rcL b i b.ads.length = rlo at *
    generalize rcH b i b.ads.length = rhi at *
    generalize hbk : outP b i = out at *
    cases out with
    | nil =>
      have hll := hla
      have hlt := hla
      simp only [roE, nuSt, nuE]
      simp only [List.map_cons, List.map_nil, TB.inst, TV.inst, tv_map, zipT, List.cons_append, List.nil_append, Nat.add_zero]
      (have FX := And.intro hlm (And.intro hla (And.intro hgm (And.intro hll hlt))); repeat' (first | (refine sx ?_ ?_ <;> intro h <;> first | (exfalso; omega) | skip) | (refine g_op ?_; refine g_call ?_; refine g_args ?_; (first | refine s_fn (hre _) ?_) <;> try first | omega | assumption) | refine ny ?_ | refine WA_block ?_ | (refine uB35_35_6 ?_; refine ⟨by kernel_rfl, ?_⟩) | ((first | refine grp_cons (fun _ => hre _) ?_) <;> try first | omega | assumption) | (refine g_d ?_; refine d_args ?_; (first | refine d_fn (hre _) ?_ | refine d_fnQ (fun _ => hre _) ?_) <;> try first | omega | assumption) | (refine g_d ?_; (first | refine d_fnY (hre _) ?_) <;> try first | omega | assumption)))
      all_goals (try (exfalso; omega))
      all_goals first
        | (have h2 := hb1 (by omega)
           rw [h2] at hny
           (refine nextU_ hny (()) [0, 3] (hi) (by omega) ?_ (ht := ?_); (focus (simp only [roE, nuE, List.cons_append, List.nil_append, List.map_cons, List.map_nil, TB.inst, TV.inst, tv_map, List.cons_append, List.nil_append]; first | rfl | (simp [ptsV, ptV]; done) | (simp [hpsV, hpV]; done) | (simp [frsV, frV]; done) | (simp [txV]; done) | (simp [prtsV, prtV]; done))); (simp only [nuSt, List.cons_append, List.nil_append, List.length_append, List.length_cons, List.length_nil, Nat.zero_add, List.map_cons, List.map_nil, TV.inst, List.getD_cons_zero, List.getD_cons_succ]; exact tv_)))
        | (have h2 := hb2 (by omega)
           rw [h2] at hny
           (refine nextU_ hny (()) [0] (hi) (by omega) ?_ (ht := ?_); (focus (simp only [roE, nuE, List.map_cons, List.map_nil, TB.inst, TV.inst, tv_map, List.cons_append, List.nil_append]; first | rfl | (simp [ptsV, ptV]; done) | (simp [hpsV, hpV]; done) | (simp [frsV, frV]; done) | (simp [txV]; done) | (simp [prtsV, prtV]; done))); (simp only [nuSt, List.map_cons, List.map_nil, TV.inst, List.getD_cons_zero, List.getD_cons_succ]; exact tv_)))
    | cons p r =>
      have hll : (nuV (p :: r)).length = r.length + 1 := nuV_length
      have hlt : (nuV (p :: r)).take (r.length + 1) = nuV (p :: r) := by rw [List.take_of_length_le (by rw [hll]; exact Nat.le_refl _)]
      have hrl : r.length + 1 ≤ i := by simpa using hvl
      simp only [roE, nuSt, nuE]
      simp only [List.map_cons, List.map_nil, TB.inst, TV.inst, tv_map, zipT, List.cons_append, List.nil_append, Nat.add_zero]
      (have FX := And.intro hlm (And.intro hla (And.intro hgm (And.intro hll hlt))); repeat' (first | (refine sx ?_ ?_ <;> intro h <;> first | (exfalso; omega) | skip) | (refine g_op ?_; refine g_call ?_; refine g_args ?_; (first | refine s_fn (hre _) ?_) <;> try first | omega | assumption) | refine ny ?_ | refine WA_block ?_ | (refine uB35_35_6 ?_; refine ⟨by kernel_rfl, ?_⟩) | ((first | refine grp_cons (fun _ => hre _) ?_) <;> try first | omega | assumption) | (refine g_d ?_; refine d_args ?_; (first | refine d_fn (hre _) ?_ | refine d_fnQ (fun _ => hre _) ?_) <;> try first | omega | assumption) | (refine g_d ?_; (first | refine d_fnY (hre _) ?_) <;> try first | omega | assumption)))
      all_goals (try (exfalso; omega))
      all_goals first
        | (have h2 := hb1 (by omega)
           rw [h2] at hny
           have hsn : nuV (p :: (r ++ [i])) = nuV (p :: r) ++ [[V.int .i64 (i : Int)]] := nuV_snoc (p :: r) i
           (refine nextU_ hny (()) [0, 4] (hi) (by omega) ?_ (ht := ?_); (focus (simp only [roE, nuE, hsn, List.cons_append, List.nil_append, List.map_cons, List.map_nil, TB.inst, TV.inst, tv_map, List.cons_append, List.nil_append]; first | rfl | (simp [ptsV, ptV]; done) | (simp [hpsV, hpV]; done) | (simp [frsV, frV]; done) | (simp [txV]; done) | (simp [prtsV, prtV]; done))); (simp only [nuSt, List.cons_append, List.nil_append, List.length_append, List.length_cons, List.length_nil, Nat.zero_add, List.map_cons, List.map_nil, TV.inst, List.getD_cons_zero, List.getD_cons_succ]; exact tv_)))
        | (have h2 := hb2 (by omega)
           rw [h2] at hny
           (refine nextU_ hny (()) [0, 1] (hi) (by omega) ?_ (ht := ?_); (focus (simp only [roE, nuE, List.map_cons, List.map_nil, TB.inst, TV.inst, tv_map, List.cons_append, List.nil_append]; first | rfl | (simp [ptsV, ptV]; done) | (simp [hpsV, hpV]; done) | (simp [frsV, frV]; done) | (simp [txV]; done) | (simp [prtsV, prtV]; done))); (simp only [nuSt, List.map_cons, List.map_nil, TV.inst, List.getD_cons_zero, List.getD_cons_succ]; exact tv_)))
  · obtain rfl : i = b.ms.length := by omega
    have hgm := hla
    have hre := hla
    clear hK
    generalize outP b b.ms.length = out at *
    cases out with
    | nil =>
      have hll := hla
      have hlt := hla
      have e0 : oV (nuV []) = V.nilsl := rfl
      rw [e0] at hQ
      simp only [roE, nuSt, nuE]
      simp only [List.map_cons, List.map_nil, TB.inst, TV.inst, tv_map, zipT, List.cons_append, List.nil_append, Nat.add_zero]
      (have FX := And.intro hlm (And.intro hla (And.intro hgm (And.intro hll hlt))); repeat' (first | (refine sx ?_ ?_ <;> intro h <;> first | (exfalso; omega) | skip) | (refine g_op ?_; refine g_call ?_; refine g_args ?_; (first | refine s_fn (hre _) ?_) <;> try first | omega | assumption) | refine ny ?_ | refine WA_block ?_ | (refine uB35_35_6 ?_; refine ⟨by kernel_rfl, ?_⟩) | ((first | refine grp_cons (fun _ => hre _) ?_) <;> try first | omega | assumption) | (refine g_d ?_; refine d_args ?_; (first | refine d_fn (hre _) ?_ | refine d_fnQ (fun _ => hre _) ?_) <;> try first | omega | assumption) | (refine g_d ?_; (first | refine d_fnY (hre _) ?_) <;> try first | omega | assumption)))
      all_goals (try (exfalso; omega))
      all_goals (refine r_esA hQ (.inl ⟨rfl, rfl, rfl⟩))
    | cons p r =>
      have hll : (nuV (p :: r)).length = r.length + 1 := nuV_length
      have hlt : (nuV (p :: r)).take (r.length + 1) = nuV (p :: r) := by rw [List.take_of_length_le (by rw [hll]; exact Nat.le_refl _)]
      have e0 : oV (nuV (p :: r)) = V.lst (nuV (p :: r)) := rfl
      rw [e0] at hQ
      simp only [roE, nuSt, nuE]
      simp only [List.map_cons, List.map_nil, TB.inst, TV.inst, tv_map, zipT, List.cons_append, List.nil_append, Nat.add_zero]
      (have FX := And.intro hlm (And.intro hla (And.intro hgm (And.intro hll hlt))); repeat' (first | (refine sx ?_ ?_ <;> intro h <;> first | (exfalso; omega) | skip) | (refine g_op ?_; refine g_call ?_; refine g_args ?_; (first | refine s_fn (hre _) ?_) <;> try first | omega | assumption) | refine ny ?_ | refine WA_block ?_ | (refine uB35_35_6 ?_; refine ⟨by kernel_rfl, ?_⟩) | ((first | refine grp_cons (fun _ => hre _) ?_) <;> try first | omega | assumption) | (refine g_d ?_; refine d_args ?_; (first | refine d_fn (hre _) ?_ | refine d_fnQ (fun _ => hre _) ?_) <;> try first | omega | assumption) | (refine g_d ?_; (first | refine d_fnY (hre _) ?_) <;> try first | omega | assumption)))
      all_goals (try (exfalso; omega))
      all_goals (refine r_esA hQ (fin_sl (j := 1) hB rfl (by rw [hll]; exact Nat.le_refl _) (by rw [hlt]; exact nuV_plain _) ⟨by rw [hlt], rfl⟩))
end Go.Proofs.Ytaoakololkcepaa
