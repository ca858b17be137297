/- contracts: searches, values, of the reference -/
import Derived.Test.YtaoakololkcepaaYP
import Derived.Test.YtaoakololkcepaaYN
set_option linter.unusedSimpArgs false
set_option linter.unusedVariables false
namespace Go.Proofs.Ytaoakololkcepaa
open Go.RowKit
attribute [local irreducible] WA WOs WDs WAn qThen qBlock tput
set_option maxHeartbeats 1000000
set_option maxRecDepth 20000
set_option linter.unusedSimpArgs false
set_option linter.unusedVariables false
/-! the searches -/

theorem rmeasureat_c (l : List MsR) (s : Txt) (hl : l.length ≤ 1000) (m : Mem) : Gives Try.prog 74 [.lst (mssV l), .str s] m (.int .i64 (fdx (isM s) l)) := by
  have hln := mssV_length (l := l)
  have hga := hln
  refine Gives_in Try.func74 rfl Try.ntmps74 Try.results74 (by kernel_rfl) (by simp) rfl fun Q hQ => ?_
  (have FX := And.intro hln hga; repeat' (first | (refine sx ?_ ?_ <;> intro h <;> first | (exfalso; omega) | skip) | refine ny ?_ | refine WA_block ?_))
  refine WA_while (σ := Nat) [0, 1, 5] (fun i => [.lst (mssV l), .str s, .int .i64 i]) (fun _ => lend m ++ []) (fun i => i ≤ l.length ∧ ∀ j, j < i → isM s (l.getD j msz) = false) (fun i => l.length - i) 0 ⟨Nat.zero_le _, fun j h => absurd h (Nat.not_lt_zero _)⟩ tv_ rfl ?_
  rintro i ⟨hi1, hi2⟩ L hL
  simp only [zipT]
  clear FX hga
  rcases Nat.lt_or_ge i l.length with hi | hi
  · have hga := mssV_get hi
    have hat : isM s (l.getD i msz) = decide ((l.getD i msz).name = s) := rfl
    have hat1 : (l.getD i msz).name = s → fdx (isM s) l = i := fun h => fdx_at hi hi2 (hat.trans (decide_eq_true h))
    have hat2 : ¬ (l.getD i msz).name = s → isM s (l.getD i msz) = false := fun h => hat.trans (decide_eq_false h)
    have hat3 := fun h => up_false (f := fun j => isM s (l.getD j msz)) hi2 (hat2 h)
    clear hat hat2
    generalize l.getD i msz = x at *
    obtain ⟨nm, va, lo, hg⟩ := x
    unfold msV at hga
    dsimp only at hga hat1 hat3
    (have FX := And.intro hln hga; repeat' (first | (refine sx ?_ ?_ <;> intro h <;> first | (exfalso; omega) | skip) | refine ny ?_ | refine WA_block ?_))
    all_goals (try (exfalso; omega))
    all_goals try
      ((refine r_es hQ ?_; try with_reducible rfl)
       exact congrArg (V.int .i64) (hat1 (by assumption)).symm)
    all_goals (refine next_ hL (i + 1) ⟨hi, hat3 (by assumption)⟩ (by omega))
  · obtain rfl : i = l.length := by omega
    have hga := hln
    (have FX := And.intro hln hga; repeat' (first | (refine sx ?_ ?_ <;> intro h <;> first | (exfalso; omega) | skip) | refine ny ?_ | refine WA_block ?_))
    all_goals (try (exfalso; omega))
    all_goals ((refine r_es hQ ?_; try with_reducible rfl))
    all_goals (exact congrArg (V.int .i64) (fdx_no hi2).symm)

theorem radjustmentat_c (l : List AdR) (s : Txt) (hl : l.length ≤ 1000) (m : Mem) : Gives Try.prog 115 [.lst (adsV l), .str s] m (.int .i64 (fdx (isA s) l)) := by
  have hln := adsV_length (l := l)
  have hga := hln
  refine Gives_in Try.func115 rfl Try.ntmps115 Try.results115 (by kernel_rfl) (by simp) rfl fun Q hQ => ?_
  (have FX := And.intro hln hga; repeat' (first | (refine sx ?_ ?_ <;> intro h <;> first | (exfalso; omega) | skip) | refine ny ?_ | refine WA_block ?_))
  refine WA_while (σ := Nat) [0, 1, 5] (fun i => [.lst (adsV l), .str s, .int .i64 i]) (fun _ => lend m ++ []) (fun i => i ≤ l.length ∧ ∀ j, j < i → isA s (l.getD j adz) = false) (fun i => l.length - i) 0 ⟨Nat.zero_le _, fun j h => absurd h (Nat.not_lt_zero _)⟩ tv_ rfl ?_
  rintro i ⟨hi1, hi2⟩ L hL
  simp only [zipT]
  clear FX hga
  rcases Nat.lt_or_ge i l.length with hi | hi
  · have hga := adsV_get hi
    have hat : isA s (l.getD i adz) = decide ((l.getD i adz).name = s) := rfl
    have hat1 : (l.getD i adz).name = s → fdx (isA s) l = i := fun h => fdx_at hi hi2 (hat.trans (decide_eq_true h))
    have hat2 : ¬ (l.getD i adz).name = s → isA s (l.getD i adz) = false := fun h => hat.trans (decide_eq_false h)
    have hat3 := fun h => up_false (f := fun j => isA s (l.getD j adz)) hi2 (hat2 h)
    clear hat hat2
    generalize l.getD i adz = x at *
    obtain ⟨nm, ef, le, mo, pa, af⟩ := x
    unfold adV at hga
    dsimp only at hga hat1 hat3
    (have FX := And.intro hln hga; repeat' (first | (refine sx ?_ ?_ <;> intro h <;> first | (exfalso; omega) | skip) | refine ny ?_ | refine WA_block ?_))
    all_goals (try (exfalso; omega))
    all_goals try
      ((refine r_es hQ ?_; try with_reducible rfl)
       exact congrArg (V.int .i64) (hat1 (by assumption)).symm)
    all_goals (refine next_ hL (i + 1) ⟨hi, hat3 (by assumption)⟩ (by omega))
  · obtain rfl : i = l.length := by omega
    have hga := hln
    (have FX := And.intro hln hga; repeat' (first | (refine sx ?_ ?_ <;> intro h <;> first | (exfalso; omega) | skip) | refine ny ?_ | refine WA_block ?_))
    all_goals (try (exfalso; omega))
    all_goals ((refine r_es hQ ?_; try with_reducible rfl))
    all_goals (exact congrArg (V.int .i64) (fdx_no hi2).symm)

theorem bhastext_c (l : List Txt) (s : Txt) (hl : l.length ≤ 1000) (m : Mem) : Gives Try.prog 96 [.lst (tsV l), .str s] m (.bool (decide (0 ≤ fdx (isT s) l))) := by
  have hln := tsV_length (l := l)
  have hga := hln
  refine Gives_in Try.func96 rfl Try.ntmps96 Try.results96 (by kernel_rfl) (by simp) rfl fun Q hQ => ?_
  (have FX := And.intro hln hga; repeat' (first | (refine sx ?_ ?_ <;> intro h <;> first | (exfalso; omega) | skip) | refine ny ?_ | refine WA_block ?_))
  refine WA_while (σ := Nat) [0, 1, 5] (fun i => [.lst (tsV l), .str s, .int .i64 i]) (fun _ => lend m ++ []) (fun i => i ≤ l.length ∧ ∀ j, j < i → isT s (l.getD j []) = false) (fun i => l.length - i) 0 ⟨Nat.zero_le _, fun j h => absurd h (Nat.not_lt_zero _)⟩ tv_ rfl ?_
  rintro i ⟨hi1, hi2⟩ L hL
  simp only [zipT]
  clear FX hga
  rcases Nat.lt_or_ge i l.length with hi | hi
  · have hga := tsV_get hi
    have hat : isT s (l.getD i []) = decide (l.getD i [] = s) := rfl
    have hat1 : l.getD i [] = s → fdx (isT s) l = i := fun h => fdx_at hi hi2 (hat.trans (decide_eq_true h))
    have hat2 : ¬ l.getD i [] = s → isT s (l.getD i []) = false := fun h => hat.trans (decide_eq_false h)
    have hat3 := fun h => up_false (f := fun j => isT s (l.getD j [])) hi2 (hat2 h)
    clear hat hat2
    generalize l.getD i [] = x at *
    (have FX := And.intro hln hga; repeat' (first | (refine sx ?_ ?_ <;> intro h <;> first | (exfalso; omega) | skip) | refine ny ?_ | refine WA_block ?_))
    all_goals (try (exfalso; omega))
    all_goals try
      ((refine r_es hQ ?_; try with_reducible rfl)
       exact congrArg V.bool (decide_eq_true (by rw [hat1 (by assumption)]; omega)).symm)
    all_goals (refine next_ hL (i + 1) ⟨hi, hat3 (by assumption)⟩ (by omega))
  · obtain rfl : i = l.length := by omega
    have hga := hln
    (have FX := And.intro hln hga; repeat' (first | (refine sx ?_ ?_ <;> intro h <;> first | (exfalso; omega) | skip) | refine ny ?_ | refine WA_block ?_))
    all_goals (try (exfalso; omega))
    all_goals ((refine r_es hQ ?_; try with_reducible rfl))
    all_goals (exact congrArg V.bool (decide_eq_false (by rw [fdx_no hi2]; omega)).symm)
theorem mem_at {l : List Nat} {i : Nat} (h : i < l.length) : l.getD i 0 ∈ l := by
  rw [List.getD_eq_getElem?_getD, List.getElem?_eq_getElem h]; exact List.getElem_mem h
theorem mem_no {l : List Nat} {n : Nat} (h : ∀ j, j < l.length → l.getD j 0 ≠ n) : n ∉ l := by
  intro hm
  obtain ⟨j, hj, rfl⟩ := List.getElem_of_mem hm
  have := h j hj
  rw [List.getD_eq_getElem?_getD, List.getElem?_eq_getElem hj] at this
  exact this rfl

theorem bhas_c (l : List Nat) (n : Nat) (hl : l.length ≤ 1000) (m : Mem) : Gives Try.prog 114 [.lst (nuV l), .int .i64 n] m (.bool (decide (n ∈ l))) := by
  have hln := nuV_length (l := l)
  have hga := hln
  refine Gives_in Try.func114 rfl Try.ntmps114 Try.results114 (by kernel_rfl) (by simp) rfl fun Q hQ => ?_
  (have FX := And.intro hln hga; repeat' (first | (refine sx ?_ ?_ <;> intro h <;> first | (exfalso; omega) | skip) | refine ny ?_ | refine WA_block ?_))
  refine WA_while (σ := Nat) [0, 1, 5] (fun i => [.lst (nuV l), .int .i64 n, .int .i64 i]) (fun _ => lend m ++ []) (fun i => i ≤ l.length ∧ ∀ j, j < i → l.getD j 0 ≠ n) (fun i => l.length - i) 0 ⟨Nat.zero_le _, fun j h => absurd h (Nat.not_lt_zero _)⟩ tv_ rfl ?_
  rintro i ⟨hi1, hi2⟩ L hL
  simp only [zipT]
  clear FX hga
  rcases Nat.lt_or_ge i l.length with hi | hi
  · have hga := nuV_get hi
    have hat1 : l.getD i 0 = n → n ∈ l := fun h => h ▸ mem_at hi
    have hat3 : l.getD i 0 ≠ n → ∀ j, j < i + 1 → l.getD j 0 ≠ n := fun h j hj => by
      rcases Nat.lt_or_ge j i with q | q
      · exact hi2 j q
      · obtain rfl : j = i := by omega
        exact h
    generalize l.getD i 0 = x at *
    (have FX := And.intro hln hga; repeat' (first | (refine sx ?_ ?_ <;> intro h <;> first | (exfalso; omega) | skip) | refine ny ?_ | refine WA_block ?_))
    all_goals (try (exfalso; omega))
    all_goals try
      ((refine r_es hQ ?_; try with_reducible rfl)
       exact congrArg V.bool (decide_eq_true (hat1 (by omega))).symm)
    all_goals (refine next_ hL (i + 1) ⟨hi, hat3 (by omega)⟩ (by omega))
  · obtain rfl : i = l.length := by omega
    have hga := hln
    (have FX := And.intro hln hga; repeat' (first | (refine sx ?_ ?_ <;> intro h <;> first | (exfalso; omega) | skip) | refine ny ?_ | refine WA_block ?_))
    all_goals (try (exfalso; omega))
    all_goals ((refine r_es hQ ?_; try with_reducible rfl))
    all_goals (exact congrArg V.bool (decide_eq_false (mem_no hi2)).symm)
theorem uB11_87_5 {N : Nat} {l : List Oper} {t : List (Nat × V)} {m : Mem} {Q : Exit → List (Nat × V) → Mem → Prop} (h : RgN Try.prog N l t m Q (fun i => if i == 4 || i == 6 || i == 10 || i == 11 then .q else .p) [.one 0, .one 1, .one 2, .one 3, .one 4, .one 5, .one 6, .one 7, .one 8, .one 9, .one 10, .one 11]) : WA Try.prog N (.region 5 l.toArray true) t m Q := d_rgN h
theorem rby_c (b : BnR) (k i : Nat) (hk : k < b.ads.length) (hi : i < b.ms.length) (hef : (b.ads.getD k adz).effs.length ≤ 1000) (m : Mem) : Gives Try.prog 87 [.agg [.lst (mssV b.ms), .lst (adsV b.ads)], .int .i64 k, .int .i64 i] m (.int .i64 (byN b k i)) := by
  have hla := adsV_length (l := b.ads)
  have hlm := mssV_length (l := b.ms)
  have hgm := mssV_get hi
  have hgk := adsV_get hk
  have hle := efsV_length (l := (b.ads.getD k adz).effs)
  have hga := hla
  unfold byN
  generalize b.ads.getD k adz = y at *
  generalize b.ms.getD i msz = z at *
  obtain ⟨znm, zva, zlo, zhi⟩ := z
  obtain ⟨nm, ef, le, mo, pa, af⟩ := y
  unfold msV at hgm
  unfold adV at hgk
  dsimp only at hgm hgk hle hef ⊢
  refine Gives_in Try.func87 rfl Try.ntmps87 Try.results87 (by kernel_rfl) (by simp) rfl fun Q hQ => ?_
  (have FX := And.intro hla (And.intro hlm (And.intro hle (And.intro hgm (And.intro hgk hga)))); repeat' (first | (refine sx ?_ ?_ <;> intro h <;> first | (exfalso; omega) | skip) | refine ny ?_ | refine WA_block ?_ | (refine uB11_87_5 ?_; refine ⟨by kernel_rfl, ?_⟩)))
  all_goals (try (exfalso; omega))
  refine WA_while (σ := Nat) [2, 3, 7, 8] (fun q => [.int .i64 i, .ptr (lend m).length 0 0, .lst (efsV ef), .int .i64 q]) (fun _ => lend m ++ [.cells .own 25 2 [[.lst (mssV b.ms), .lst (adsV b.ads)]]]) (fun q => q ≤ ef.length ∧ ∀ j, j < q → (ef.getD j efz).meas ≠ znm) (fun q => ef.length - q) 0 ⟨Nat.zero_le _, fun j h => absurd h (Nat.not_lt_zero _)⟩ tv_ rfl ?_
  rintro q ⟨hq1, hq2⟩ L hL
  simp only [zipT]
  clear FX hga
  rcases Nat.lt_or_ge q ef.length with hq | hq
  · have hga := efsV_get hq
    have hat1 : (ef.getD q efz).meas = znm → byL ef znm = (ef.getD q efz).by_ := byL_fdx hq hq2
    have hat3 : ¬ (ef.getD q efz).meas = znm → ∀ j, j < q + 1 → (ef.getD j efz).meas ≠ znm := fun h j hj => by
      rcases Nat.lt_or_ge j q with p | p
      · exact hq2 j p
      · obtain rfl : j = q := by omega
        exact h
    generalize ef.getD q efz = x at *
    obtain ⟨xm, xb⟩ := x
    unfold efV at hga
    dsimp only at hga hat1 hat3
    (have FX := And.intro hla (And.intro hlm (And.intro hle (And.intro hgm (And.intro hgk hga)))); repeat' (first | (refine sx ?_ ?_ <;> intro h <;> first | (exfalso; omega) | skip) | refine ny ?_ | refine WA_block ?_ | (refine uB11_87_5 ?_; refine ⟨by kernel_rfl, ?_⟩)))
    all_goals (try (exfalso; omega))
    all_goals try
      ((refine r_es hQ ?_; try with_reducible rfl)
       exact congrArg (V.int .i64) (hat1 (by assumption)).symm)
    all_goals (refine next_ hL (q + 1) ⟨hq, hat3 (by assumption)⟩ (by omega))
  · obtain rfl : q = ef.length := by omega
    have hga := hla
    (have FX := And.intro hla (And.intro hlm (And.intro hle (And.intro hgm (And.intro hgk hga)))); repeat' (first | (refine sx ?_ ?_ <;> intro h <;> first | (exfalso; omega) | skip) | refine ny ?_ | refine WA_block ?_ | (refine uB11_87_5 ?_; refine ⟨by kernel_rfl, ?_⟩)))
    all_goals (try (exfalso; omega))
    all_goals ((refine r_es hQ ?_; try with_reducible rfl))
    all_goals (exact congrArg (V.int .i64) (byL_none hq2).symm)
end Go.Proofs.Ytaoakololkcepaa
