/- contracts: ranges of measures -/
import Derived.Test.YtaoakololkcepaaB34
import Derived.Test.YtaoakololkcepaaB25
set_option linter.unusedSimpArgs false
set_option linter.unusedVariables false
namespace Go.Proofs.Ytaoakololkcepaa
open Go.RowKit
attribute [local irreducible] WA WOs WDs WAn qThen qBlock tput
set_option maxHeartbeats 1000000
set_option maxRecDepth 20000
set_option linter.unusedSimpArgs false
set_option linter.unusedVariables false
set_option maxHeartbeats 2000000
theorem alnL_get {n i k : Nat} (hi : i < n) : (alnL n i).getD k 0 = if k = i then 1 else 0 := by
  unfold alnL
  rw [getD_set]
  by_cases h : k = i
  · subst h
    simp [hi]
  · have h2 : ¬ i = k := fun e => h e.symm
    simp only [h, h2, false_and, if_false]
    simp [List.getD_eq_getElem?_getD, List.getElem?_replicate]
    split <;> rfl
theorem alnL_ok {n i : Nat} (hi : i < n) : wOk (alnL n i) := fun k => by
  rw [alnL_get hi]; split <;> decide
theorem ind_wg {b : BnR} {n i : Nat} (hi : i < n) : ∀ k, wgM b (alnL n i) k = if i < k then (b.ms.getD i msz).val else 0
  | 0 => rfl
  | k + 1 => by
    simp only [wgM, ind_wg hi k, alnL_get hi]
    by_cases h : k = i
    · subst h; simp
    · simp only [h, if_false, Int.zero_mul, Int.add_zero]
      by_cases h2 : i < k
      · rw [if_pos h2, if_pos (show i < k + 1 by omega)]
      · rw [if_neg h2, if_neg (show ¬ i < k + 1 by omega)]
theorem ind_wl {b : BnR} {n i : Nat} (hi : i < n) (hb : (b.ms.getD i msz).low ≤ (b.ms.getD i msz).high) : ∀ k, wtL b (alnL n i) k = (if i < k then (b.ms.getD i msz).low else 0) ∧ wtH b (alnL n i) k = (if i < k then (b.ms.getD i msz).high else 0)
  | 0 => ⟨rfl, rfl⟩
  | k + 1 => by
    obtain ⟨h1, h2⟩ := ind_wl hi hb k
    simp only [wtL, wtH, h1, h2, alnL_get hi]
    by_cases h : k = i
    · subst h
      simp only [Nat.lt_irrefl, if_false, if_true, Int.one_mul, Nat.lt_succ_self, Int.zero_add]
      omega
    · simp only [h, if_false, Int.zero_mul]
      by_cases h2 : i < k
      · rw [if_pos h2, if_pos (by omega), if_pos h2, if_pos (by omega)]; omega
      · rw [if_neg h2, if_neg (by omega), if_neg h2, if_neg (by omega)]; omega
theorem ind_sm {b : BnR} {n i j : Nat} (hi : i < n) : ∀ k, smW b (alnL n i) j k = if i < k then byN b j i else 0
  | 0 => rfl
  | k + 1 => by
    simp only [smW, ind_sm hi k, alnL_get hi]
    by_cases h : k = i
    · subst h; simp
    · simp only [h, if_false, Int.zero_mul, Int.add_zero]
      by_cases h2 : i < k
      · rw [if_pos h2, if_pos (show i < k + 1 by omega)]
      · rw [if_neg h2, if_neg (show ¬ i < k + 1 by omega)]
/-- the range of a measure -/
def rcL (b : BnR) (i : Nat) : Nat → Int
  | 0 => (b.ms.getD i msz).val
  | k + 1 => rcL b i k + min (byN b k i * (b.ads.getD k adz).least) (byN b k i * (b.ads.getD k adz).most)
def rcH (b : BnR) (i : Nat) : Nat → Int
  | 0 => (b.ms.getD i msz).val
  | k + 1 => rcH b i k + max (byN b k i * (b.ads.getD k adz).least) (byN b k i * (b.ads.getD k adz).most)
theorem ind_cn {b : BnR} {i : Nat} (hi : i < b.ms.length) : ∀ k, cnL b (alnL b.ms.length i) k = rcL b i k ∧ cnH b (alnL b.ms.length i) k = rcH b i k
  | 0 => by
    simp only [cnL, cnH, rcL, rcH, ind_wg hi, if_pos hi]
    refine ⟨?_, ?_⟩ <;> first | rfl | trivial
  | k + 1 => by
    obtain ⟨h1, h2⟩ := ind_cn hi k
    simp only [cnL, cnH, rcL, rcH, h1, h2, ind_sm hi, if_pos hi, Int.mul_comm (byN b k i)]
    refine ⟨?_, ?_⟩ <;> first | rfl | trivial
theorem galw_c (b : BnR) (hb : Bnd b) (i : Nat) (hi : i < b.ms.length) (m : Mem) : Gives Try.prog 84 [.bp (bxC b) 0, .lst (nsV (alnL b.ms.length i))] m (.tup [.agg [.int .i64 (rcL b i b.ads.length), .int .i64 (rcH b i b.ads.length)], .agg [.int .i64 (b.ms.getD i msz).low, .int .i64 (b.ms.getD i msz).high]]) := by
  have h := gweighed_c b hb (alnL b.ms.length i) (alnL_length _ _) (alnL_ok hi) m
  have h2 := ind_wl hi (hb.va i hi).2.1.2 b.ms.length
  rw [if_pos hi, if_pos hi] at h2
  rw [(ind_cn hi _).1, (ind_cn hi _).2, h2.1, h2.2] at h
  exact h

/-- the measures that are out of reach -/
def outB (b : BnR) (i : Nat) : Bool := !decide (rcL b i b.ads.length ≤ (b.ms.getD i msz).high ∧ (b.ms.getD i msz).low ≤ rcH b i b.ads.length)
def outP (b : BnR) (n : Nat) : List Nat := (List.range n).filter (outB b)
theorem outP_succ (b : BnR) (n : Nat) : outP b (n + 1) = if outB b n = true then outP b n ++ [n] else outP b n := by
  unfold outP
  rw [List.range_succ, List.filter_append]
  by_cases h : outB b n = true
  · rw [if_pos h]; simp [h]
  · rw [if_neg h]; simp [h]
theorem outP_le (b : BnR) (n : Nat) : (outP b n).length ≤ n := by
  have := List.length_filter_le (outB b) (List.range n)
  simpa [outP] using this
theorem nuE_ok {out : List Nat} : (nuE out).all (TB.ok (nuE out).length) = true := by
  cases out with
  | nil => simp [nuE]
  | cons p r => simp only [nuE, List.all_cons, TB.ok, TV.okT, List.all_nil, Bool.and_true, Bool.and_self, tvs_ok, List.length_cons, List.length_nil]
theorem nuS_ok {out : List Nat} {l1 l2 : List V} : (l1.map TV.v ++ nuSt 0 out :: l2.map TV.v).all (TV.okT (nuE out).length) = true := by
  have h : ∀ (ls : List V) n, (ls.map TV.v).all (TV.okT n) = true := fun ls n => by simp [TV.okT]
  rw [List.all_append, List.all_cons, h, h]
  cases out with
  | nil => simp [TV.okT, nuSt]
  | cons p r => simp [TV.okT, nuSt, nuE]
theorem fin_sli3 {m0 D X B : Mem} {j k : Nat} {st : Sta} {ty sz : Nat} {es : List (List V)} {c : Int} {R : V → Option Mem → Prop} (hB : B = lend m0 ++ D) (hX : X[j]? = some (.cells st ty sz es)) (hk : es.length = k) (hp : plainLL es = true) (h : R (.tup [.lst es, .int .i64 c]) none) : Fin m0 R (.tup [.sl (B.length + j) k, .int .i64 c]) (B ++ X) := by
  subst hB
  refine .inr ⟨D ++ X, _, by simp, ?_, h⟩
  show (frzs (frz _ _ 3) [_, _]).map V.tup = _
  have e : frz ((lend m0 ++ D) ++ X) m0.length 3 (.sl ((lend m0 ++ D).length + j) k) = some (.lst es) := frz_own (m0 := m0) (D := D) (n := 2) (j := j) hX hk hp
  rw [frzs_cons e (frzs_cons (frz_int _ _ _ _ _) rfl)]
  rfl

theorem gOut_bad (b : BnR) (hb : Bl b) (h0 : bnErr b ≠ 0) (m : Mem) : Gives Try.prog 34 [.agg (bnV b)] m (.tup [.nilsl, .int .i64 (bnErr b)]) := by
  have hlm := mssV_length (l := b.ms)
  have hop := fun m => gopen_bad b hb h0 m
  unfold bnV at hop ⊢
  refine Gives_in Try.func34 rfl Try.ntmps34 Try.results34 (by kernel_rfl) (by simp) rfl fun Q hQ => ?_
  (have FX := hlm; repeat' (first | (refine sx ?_ ?_ <;> intro h <;> first | (exfalso; omega) | skip) | (refine g_op ?_; refine g_call ?_; refine g_args ?_; (first | refine s_fn (hop _) ?_) <;> try first | omega | assumption) | refine ny ?_ | refine WA_block ?_))
  all_goals (try (exfalso; omega))
  all_goals ((refine r_es hQ ?_; try with_reducible rfl))
theorem gOut_ok (b : BnR) (hb : Bl b) (h0 : bnErr b = 0) (m : Mem) : Gives Try.prog 34 [.agg (bnV b)] m (.tup [.lst (nuV (outP b b.ms.length)), .int .i64 0]) := by
  have hlm := mssV_length (l := b.ms)
  have hll := hlm
  have hlt := hlm
  have hal := hlm
  have hwe := hlm
  have hbd := bnd_ok (bn_ok h0)
  have hfm := hbd.fm
  have hop := fun m => gopen_ok b hb h0 m
  suffices key : CallA Try.prog 34 [.agg (bnV b)] m (fun v mo => mo = none ∧ WkV v (.tup [.lst (nuV (outP b b.ms.length)), .int .i64 0])) from Gives_of key fun v mo h => h
  unfold bnV at hop ⊢
  refine CallA_in Try.func34 rfl Try.ntmps34 Try.results34 (by kernel_rfl) (by simp) fun Q hQ => ?_
  (have FX := And.intro hlm (And.intro hll hlt); repeat' (first | (refine sx ?_ ?_ <;> intro h <;> first | (exfalso; omega) | skip) | (refine g_op ?_; refine g_call ?_; refine g_args ?_; (first | refine s_fn (hop _) ?_ | refine s_fn (hal _) ?_ | refine s_fn (hwe _) ?_ | refine s_fn (gmeets_c _ _ _ _ _) ?_) <;> try first | omega | assumption) | refine ny ?_ | refine WA_block ?_))
  all_goals (try (exfalso; omega))
  refine WA_whileJ (σ := Nat) (L := lend m) [4, 20, 6, 21] (fun i => [.v (.bp (bxC b) 0), .v (.int .i64 b.ms.length), nuSt 0 (outP b i), .v (.int .i64 i)]) (fun i => nuE (outP b i)) (fun i => i ≤ b.ms.length) (fun i => b.ms.length - i) 0 [] (Nat.zero_le _) ?_ rfl rfl (by decide) (by decide) (fun s _ => nuS_ok (l1 := [.bp (bxC b) 0, .int .i64 b.ms.length]) (l2 := [.int .i64 s])) (fun _ _ => nuE_ok) ?_
  · exact tv_
  rintro i hi1 B ⟨D, hB⟩ K hK
  clear FX hll hlt hal hwe hop
  have hop := hlm
  have hvl := outP_le b i
  rcases Nat.lt_or_ge i b.ms.length with hi | hi
  · have hbs := outP_succ b i
    have hbb : outB b i = !decide (rcL b i b.ads.length ≤ (b.ms.getD i msz).high ∧ (b.ms.getD i msz).low ≤ rcH b i b.ads.length) := rfl
    have hal := fun m => galone_c b hfm i hi m
    have hwe := fun m => galw_c b hbd i hi m
    have hnx := hK (i + 1)
    have hny := fun (_ : Unit) => hnx
    clear hnx hK
    have hb1 : ¬ (rcL b i b.ads.length ≤ (b.ms.getD i msz).high ∧ (b.ms.getD i msz).low ≤ rcH b i b.ads.length) → outP b (i + 1) = outP b i ++ [i] := fun h => by rw [hbs, if_pos (hbb.trans (by rw [decide_eq_false h]; rfl))]
    have hb2 : (rcL b i b.ads.length ≤ (b.ms.getD i msz).high ∧ (b.ms.getD i msz).low ≤ rcH b i b.ads.length) → outP b (i + 1) = outP b i := fun h => by rw [hbs, if_neg (by rw [hbb, decide_eq_true h]; decide)]
    clear hbs hbb
    generalize (b.ms.getD i msz).high = yhi at *
    generalize (b.ms.getD i msz).low = ylo at *
    generalize rcL b i b.ads.length = rlo at *
    generalize rcH b i b.ads.length = rhi at *
    generalize hbk : outP b i = out at *
    cases out with
    | nil =>
      have hll := hlm
      have hlt := hlm
      simp only [nuSt, nuE]
      simp only [List.map_cons, List.map_nil, TB.inst, TV.inst, tv_map, zipT, List.cons_append, List.nil_append, Nat.add_zero]
      (have FX := And.intro hlm (And.intro hll hlt); repeat' (first | (refine sx ?_ ?_ <;> intro h <;> first | (exfalso; omega) | skip) | (refine g_op ?_; refine g_call ?_; refine g_args ?_; (first | refine s_fn (hop _) ?_ | refine s_fn (hal _) ?_ | refine s_fn (hwe _) ?_ | refine s_fn (gmeets_c _ _ _ _ _) ?_) <;> try first | omega | assumption) | refine ny ?_ | refine WA_block ?_))
      all_goals (try (exfalso; first | omega | simp_all; done))
      all_goals first
        | (have h2 := hb1 (by assumption)
           rw [h2] at hny
           (refine nextU_ hny (()) [3] (hi) (by omega) ?_ (ht := ?_); (focus (simp only [nuE, List.cons_append, List.nil_append, List.map_cons, List.map_nil, TB.inst, TV.inst, tv_map, List.cons_append, List.nil_append]; first | rfl | (simp [ptsV, ptV]; done) | (simp [hpsV, hpV]; done) | (simp [frsV, frV]; done) | (simp [txV]; done) | (simp [prtsV, prtV]; done))); (simp only [nuSt, List.cons_append, List.nil_append, List.length_append, List.length_cons, List.length_nil, Nat.zero_add, List.map_cons, List.map_nil, TV.inst, List.getD_cons_zero, List.getD_cons_succ]; exact tv_)))
        | (have h2 := hb2 (by assumption)
           rw [h2] at hny
           refine nextU_ hny () [] hi (by omega) rfl (ht := ?_)
           simp only [nuSt, List.map_cons, List.map_nil, TV.inst, List.getD_cons_zero, List.getD_cons_succ]
           exact tv_)
    | cons p r =>
      have hll : (nuV (p :: r)).length = r.length + 1 := nuV_length
      have hlt : (nuV (p :: r)).take (r.length + 1) = nuV (p :: r) := by rw [List.take_of_length_le (by rw [hll]; exact Nat.le_refl _)]
      have hrl : r.length + 1 ≤ i := by simpa using hvl
      simp only [nuSt, nuE]
      simp only [List.map_cons, List.map_nil, TB.inst, TV.inst, tv_map, zipT, List.cons_append, List.nil_append, Nat.add_zero]
      (have FX := And.intro hlm (And.intro hll hlt); repeat' (first | (refine sx ?_ ?_ <;> intro h <;> first | (exfalso; omega) | skip) | (refine g_op ?_; refine g_call ?_; refine g_args ?_; (first | refine s_fn (hop _) ?_ | refine s_fn (hal _) ?_ | refine s_fn (hwe _) ?_ | refine s_fn (gmeets_c _ _ _ _ _) ?_) <;> try first | omega | assumption) | refine ny ?_ | refine WA_block ?_))
      all_goals (try (exfalso; first | omega | simp_all; done))
      all_goals first
        | (have h2 := hb1 (by assumption)
           rw [h2] at hny
           have hsn : nuV (p :: (r ++ [i])) = nuV (p :: r) ++ [[V.int .i64 (i : Int)]] := nuV_snoc (p :: r) i
           (refine nextU_ hny (()) [4] (hi) (by omega) ?_ (ht := ?_); (focus (simp only [nuE, hsn, List.cons_append, List.nil_append, List.map_cons, List.map_nil, TB.inst, TV.inst, tv_map, List.cons_append, List.nil_append]; first | rfl | (simp [ptsV, ptV]; done) | (simp [hpsV, hpV]; done) | (simp [frsV, frV]; done) | (simp [txV]; done) | (simp [prtsV, prtV]; done))); (simp only [nuSt, List.cons_append, List.nil_append, List.length_append, List.length_cons, List.length_nil, Nat.zero_add, List.map_cons, List.map_nil, TV.inst, List.getD_cons_zero, List.getD_cons_succ]; exact tv_)))
        | (have h2 := hb2 (by assumption)
           rw [h2] at hny
           (refine nextU_ hny (()) [0] (hi) (by omega) ?_ (ht := ?_); (focus (simp only [nuE, List.map_cons, List.map_nil, TB.inst, TV.inst, tv_map, List.cons_append, List.nil_append]; first | rfl | (simp [ptsV, ptV]; done) | (simp [hpsV, hpV]; done) | (simp [frsV, frV]; done) | (simp [txV]; done) | (simp [prtsV, prtV]; done))); (simp only [nuSt, List.map_cons, List.map_nil, TV.inst, List.getD_cons_zero, List.getD_cons_succ]; exact tv_)))
  · obtain rfl : i = b.ms.length := by omega
    have hal := hlm
    have hwe := hlm
    clear hK
    generalize outP b b.ms.length = out at *
    cases out with
    | nil =>
      have hll := hlm
      have hlt := hlm
      simp only [nuSt, nuE]
      simp only [List.map_cons, List.map_nil, TB.inst, TV.inst, tv_map, zipT, List.cons_append, List.nil_append, Nat.add_zero]
      (have FX := And.intro hlm (And.intro hll hlt); repeat' (first | (refine sx ?_ ?_ <;> intro h <;> first | (exfalso; omega) | skip) | (refine g_op ?_; refine g_call ?_; refine g_args ?_; (first | refine s_fn (hop _) ?_ | refine s_fn (hal _) ?_ | refine s_fn (hwe _) ?_ | refine s_fn (gmeets_c _ _ _ _ _) ?_) <;> try first | omega | assumption) | refine ny ?_ | refine WA_block ?_))
      all_goals (try (exfalso; omega))
      all_goals
        refine r_esA hQ (.inl ⟨rfl, rfl, ?_⟩)
        exact wk_tup ⟨wk_nil, WkV.refl _, trivial⟩
    | cons p r =>
      have hll : (nuV (p :: r)).length = r.length + 1 := nuV_length
      have hlt : (nuV (p :: r)).take (r.length + 1) = nuV (p :: r) := by rw [List.take_of_length_le (by rw [hll]; exact Nat.le_refl _)]
      simp only [nuSt, nuE]
      simp only [List.map_cons, List.map_nil, TB.inst, TV.inst, tv_map, zipT, List.cons_append, List.nil_append, Nat.add_zero]
      (have FX := And.intro hlm (And.intro hll hlt); repeat' (first | (refine sx ?_ ?_ <;> intro h <;> first | (exfalso; omega) | skip) | (refine g_op ?_; refine g_call ?_; refine g_args ?_; (first | refine s_fn (hop _) ?_ | refine s_fn (hal _) ?_ | refine s_fn (hwe _) ?_ | refine s_fn (gmeets_c _ _ _ _ _) ?_) <;> try first | omega | assumption) | refine ny ?_ | refine WA_block ?_))
      all_goals (try (exfalso; omega))
      all_goals (refine r_esA hQ (fin_sli3 (j := 0) hB rfl hll (nuV_plain _) ⟨rfl, WkV.refl _⟩))
end Go.Proofs.Ytaoakololkcepaa
