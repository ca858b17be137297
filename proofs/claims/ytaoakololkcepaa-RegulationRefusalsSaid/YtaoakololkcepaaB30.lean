/- contracts: light benches, shallow ones, comparisons -/
import Derived.Test.YtaoakololkcepaaB20
import Derived.Test.YtaoakololkcepaaB25
import Derived.Test.YtaoakololkcepaaB26
set_option linter.unusedSimpArgs false
set_option linter.unusedVariables false
namespace Go.Proofs.Ytaoakololkcepaa
open Go.RowKit
attribute [local irreducible] WA WOs WDs WAn qThen qBlock tput
set_option maxHeartbeats 1000000
set_option maxRecDepth 20000
set_option linter.unusedSimpArgs false
set_option linter.unusedVariables false
set_option maxHeartbeats 4000000
def lenL (b : BnR) : Prop := ¬ (5 < b.ms.length ∧ b.ms.length ≤ 12 ∨ 15 < b.ms.length ∨ 4 < b.ads.length ∧ b.ads.length ≤ 12 ∨ 15 < b.ads.length)
instance (b : BnR) : Decidable (lenL b) := inferInstanceAs (Decidable (¬ _))
def adL (a : AdR) : Prop := ¬ (30 < a.name.length ∨ 15 < a.effs.length ∨ 15 < a.after.length) ∧ (∀ k, k < a.effs.length → (a.effs.getD k efz).meas.length ≤ 30) ∧ ∀ k, k < a.after.length → (a.after.getD k []).length ≤ 30
instance (a : AdR) : Decidable (adL a) := inferInstanceAs (Decidable (_ ∧ _))
def light (b : BnR) : Prop := lenL b ∧ (∀ i, i < b.ms.length → (b.ms.getD i msz).name.length ≤ 30) ∧ ∀ i, i < b.ads.length → adL (b.ads.getD i adz)
instance (b : BnR) : Decidable (light b) := inferInstanceAs (Decidable (_ ∧ _))
theorem light_bl {b : BnR} (h : light b) : Bl b := by
  obtain ⟨h1, h2, h3⟩ := h
  unfold lenL at h1
  refine ⟨by omega, by omega, fun i hi => by have := h2 i hi; omega, fun i hi => ?_, fun i hi => ?_, fun i hi => ?_⟩
  · have := (h3 i hi).1; omega
  · have := (h3 i hi).1; omega
  · have := (h3 i hi).1; omega
theorem ext_all {p : Nat → Prop} {i : Nat} (h : ∀ j, j < i → p j) (hi : p i) : ∀ j, j < i + 1 → p j := by
  intro j hj
  rcases Nat.lt_or_ge j i with q | q
  · exact h j q
  · obtain rfl : j = i := by omega
    exact hi

theorem llight_n (b : BnR) (hn : ¬ lenL b) (m : Mem) : Gives Try.prog 16 [.agg [.lst (mssV b.ms), .lst (adsV b.ads)]] m (.bool (decide (light b))) := by
  have hlm := mssV_length (l := b.ms)
  have hla := adsV_length (l := b.ads)
  have hga := hla
  have hle := hla
  have hlf := hla
  have hgb := hla
  have hf : decide (light b) = false := decide_eq_false fun h => hn h.1
  rw [hf]
  unfold lenL at hn
  refine Gives_in Try.func16 rfl Try.ntmps16 Try.results16 (by kernel_rfl) (by simp) rfl fun Q hQ => ?_
  (have FX := And.intro hlm (And.intro hla (And.intro hga (And.intro hle (And.intro hlf hgb)))); repeat' (first | (refine sx ?_ ?_ <;> intro h <;> first | (exfalso; omega) | skip) | refine ny ?_ | refine WA_block ?_))
  all_goals (try (exfalso; omega))
  all_goals (refine r_es hQ ?_; try with_reducible rfl)
theorem llight_c (b : BnR) (m : Mem) : Gives Try.prog 16 [.agg [.lst (mssV b.ms), .lst (adsV b.ads)]] m (.bool (decide (light b))) := by
  have hlm := mssV_length (l := b.ms)
  have hla := adsV_length (l := b.ads)
  have hga := hla
  have hle := hla
  have hlf := hla
  have hgb := hla
  by_cases hn : lenL b
  · unfold lenL at hn
    refine Gives_in Try.func16 rfl Try.ntmps16 Try.results16 (by kernel_rfl) (by simp) rfl fun Q hQ => ?_
    (have FX := And.intro hlm (And.intro hla (And.intro hga (And.intro hle (And.intro hlf hgb)))); repeat' (first | (refine sx ?_ ?_ <;> intro h <;> first | (exfalso; omega) | skip) | refine ny ?_ | refine WA_block ?_))
    all_goals (try (exfalso; omega))
    all_goals
      refine WA_whileK (σ := Nat) [1, 3] (fun i => [.ptr (lend m).length 0 0, .int .i64 i]) (fun _ => [.cells .own 25 2 [[.lst (mssV b.ms), .lst (adsV b.ads)]]]) 1 (fun i => i ≤ b.ms.length ∧ ∀ j, j < i → (b.ms.getD j msz).name.length ≤ 30) (fun i => b.ms.length - i) 0 ⟨Nat.zero_le _, fun j h => absurd h (Nat.not_lt_zero _)⟩ tv_ rfl (fun _ => rfl) (by intro s s' _ _; simp [conB, conS, V.keeps, V.plain, Blk.flat, flatL, plainL, V.flat]) (by intro s s' _ _; simp [conB, conS, V.keeps, V.plain, Blk.flat, flatL, plainL, V.flat]) ?_
      rintro i ⟨hi1, hi2⟩ K hK
      simp only [zipT]
      clear FX hga hle hlf hgb
      have hle := hla
      have hlf := hla
      have hgb := hla
      rcases Nat.lt_or_ge i b.ms.length with hi | hi
      · have hga := mssV_get hi
        have hbad : ¬ (b.ms.getD i msz).name.length ≤ 30 → decide (light b) = false := fun h => decide_eq_false fun hh => h (hh.2.1 i hi)
        have hsu := ext_all hi2
        generalize b.ms.getD i msz = x at *
        unfold msV at hga
        (have FX := And.intro hlm (And.intro hla (And.intro hga (And.intro hle (And.intro hlf hgb)))); repeat' (first | (refine sx ?_ ?_ <;> intro h <;> first | (exfalso; omega) | skip) | refine ny ?_ | refine WA_block ?_))
        all_goals (try (exfalso; omega))
        all_goals try
          ((refine r_es hQ ?_; try with_reducible rfl)
           exact congrArg V.bool (hbad (by omega)).symm)
        all_goals (refine nextL_ hK (i + 1) ⟨hi, hsu (by omega)⟩ (by omega))
      · have hie : i = b.ms.length := by omega
        subst hie
        have hga := hla
        (have FX := And.intro hlm (And.intro hla (And.intro hga (And.intro hle (And.intro hlf hgb)))); repeat' (first | (refine sx ?_ ?_ <;> intro h <;> first | (exfalso; omega) | skip) | refine ny ?_ | refine WA_block ?_))
        all_goals (try (exfalso; omega))
        clear FX hK
        refine WA_whileK (σ := Nat) [1, 4] (fun i => [.ptr (lend m).length 0 0, .int .i64 i]) (fun _ => [.cells .own 25 2 [[.lst (mssV b.ms), .lst (adsV b.ads)]]]) 1 (fun i => i ≤ b.ads.length ∧ ∀ j, j < i → adL (b.ads.getD j adz)) (fun i => b.ads.length - i) 0 ⟨Nat.zero_le _, fun j h => absurd h (Nat.not_lt_zero _)⟩ tv_ rfl (fun _ => rfl) (by intro s s' _ _; simp [conB, conS, V.keeps, V.plain, Blk.flat, flatL, plainL, V.flat]) (by intro s s' _ _; simp [conB, conS, V.keeps, V.plain, Blk.flat, flatL, plainL, V.flat]) ?_
        rintro i ⟨hj1, hj2⟩ K hK
        simp only [zipT]
        clear hga hle hlf hgb
        rcases Nat.lt_or_ge i b.ads.length with hj | hj
        · have hga := adsV_get hj
          have hle := efsV_length (l := (b.ads.getD i adz).effs)
          have hlf := tsV_length (l := (b.ads.getD i adz).after)
          have hgb := hla
          have hbad : ¬ adL (b.ads.getD i adz) → decide (light b) = false := fun h => decide_eq_false fun hh => h (hh.2.2 i hj)
          have hsu := ext_all hj2
          generalize b.ads.getD i adz = x at *
          unfold adV at hga
          (have FX := And.intro hlm (And.intro hla (And.intro hga (And.intro hle (And.intro hlf hgb)))); repeat' (first | (refine sx ?_ ?_ <;> intro h <;> first | (exfalso; omega) | skip) | refine ny ?_ | refine WA_block ?_))
          all_goals (try (exfalso; omega))
          all_goals try
            ((refine r_es hQ ?_; try with_reducible rfl)
             exact congrArg V.bool (hbad (fun h => by have := h.1; omega)).symm)
          have h30 : ¬ (30 < x.name.length ∨ 15 < x.effs.length ∨ 15 < x.after.length) := by omega
          refine WA_whileK (σ := Nat) [1, 4, 5, 6] (fun k => [.ptr (lend m).length 0 0, .int .i64 i, .ptr ((lend m).length + 1) 0 0, .int .i64 k]) (fun _ => [.cells .own 25 2 [[.lst (mssV b.ms), .lst (adsV b.ads)]], .cells .own 98 6 [[.str x.name, .lst (efsV x.effs), .int .i64 x.least, .int .i64 x.most, .int .i64 x.pass, .lst (tsV x.after)]]]) 2 (fun k => k ≤ x.effs.length ∧ ∀ j, j < k → (x.effs.getD j efz).meas.length ≤ 30) (fun k => x.effs.length - k) 0 ⟨Nat.zero_le _, fun j h => absurd h (Nat.not_lt_zero _)⟩ tv_ rfl (fun _ => rfl) (by intro s s' _ _; simp [conB, conS, V.keeps, V.plain, Blk.flat, flatL, plainL, V.flat]) (by intro s s' _ _; simp [conB, conS, V.keeps, V.plain, Blk.flat, flatL, plainL, V.flat]) ?_
          rintro k ⟨hk1, hk2⟩ K2 hK2
          simp only [zipT]
          clear FX hgb
          rcases Nat.lt_or_ge k x.effs.length with hk | hk
          · have hgb := efsV_get hk
            have hbad2 : ¬ (x.effs.getD k efz).meas.length ≤ 30 → decide (light b) = false := fun h => hbad fun hh => h (hh.2.1 k hk)
            have hsu2 := ext_all hk2
            generalize x.effs.getD k efz = y at *
            unfold efV at hgb
            (have FX := And.intro hlm (And.intro hla (And.intro hga (And.intro hle (And.intro hlf hgb)))); repeat' (first | (refine sx ?_ ?_ <;> intro h <;> first | (exfalso; omega) | skip) | refine ny ?_ | refine WA_block ?_))
            all_goals (try (exfalso; omega))
            all_goals try
              ((refine r_es hQ ?_; try with_reducible rfl)
               exact congrArg V.bool (hbad2 (by omega)).symm)
            all_goals (refine nextL_ hK2 (k + 1) ⟨hk, hsu2 (by omega)⟩ (by omega))
          · have hke : k = x.effs.length := by omega
            subst hke
            have hgb := hla
            (have FX := And.intro hlm (And.intro hla (And.intro hga (And.intro hle (And.intro hlf hgb)))); repeat' (first | (refine sx ?_ ?_ <;> intro h <;> first | (exfalso; omega) | skip) | refine ny ?_ | refine WA_block ?_))
            all_goals (try (exfalso; omega))
            clear FX hK2
            refine WA_whileK (σ := Nat) [1, 4, 5, 7] (fun k => [.ptr (lend m).length 0 0, .int .i64 i, .ptr ((lend m).length + 1) 0 0, .int .i64 k]) (fun _ => [.cells .own 25 2 [[.lst (mssV b.ms), .lst (adsV b.ads)]], .cells .own 98 6 [[.str x.name, .lst (efsV x.effs), .int .i64 x.least, .int .i64 x.most, .int .i64 x.pass, .lst (tsV x.after)]]]) 2 (fun k => k ≤ x.after.length ∧ ∀ j, j < k → (x.after.getD j []).length ≤ 30) (fun k => x.after.length - k) 0 ⟨Nat.zero_le _, fun j h => absurd h (Nat.not_lt_zero _)⟩ tv_ rfl (fun _ => rfl) (by intro s s' _ _; simp [conB, conS, V.keeps, V.plain, Blk.flat, flatL, plainL, V.flat]) (by intro s s' _ _; simp [conB, conS, V.keeps, V.plain, Blk.flat, flatL, plainL, V.flat]) ?_
            rintro k ⟨hl1, hl2⟩ K2 hK2
            simp only [zipT]
            clear hgb
            rcases Nat.lt_or_ge k x.after.length with hl | hl
            · have hgb := tsV_get hl
              have hbad2 : ¬ (x.after.getD k []).length ≤ 30 → decide (light b) = false := fun h => hbad fun hh => h (hh.2.2 k hl)
              have hsu2 := ext_all hl2
              generalize x.after.getD k [] = y at *
              (have FX := And.intro hlm (And.intro hla (And.intro hga (And.intro hle (And.intro hlf hgb)))); repeat' (first | (refine sx ?_ ?_ <;> intro h <;> first | (exfalso; omega) | skip) | refine ny ?_ | refine WA_block ?_))
              all_goals (try (exfalso; omega))
              all_goals try
                ((refine r_es hQ ?_; try with_reducible rfl)
                 exact congrArg V.bool (hbad2 (by omega)).symm)
              all_goals (refine nextL_ hK2 (k + 1) ⟨hl, hsu2 (by omega)⟩ (by omega))
            · have hle2 : k = x.after.length := by omega
              subst hle2
              have hgb := hla
              (have FX := And.intro hlm (And.intro hla (And.intro hga (And.intro hle (And.intro hlf hgb)))); repeat' (first | (refine sx ?_ ?_ <;> intro h <;> first | (exfalso; omega) | skip) | refine ny ?_ | refine WA_block ?_))
              all_goals (try (exfalso; omega))
              all_goals (refine nextL_ hK (i + 1) ⟨hj, hsu ⟨h30, hk2, hl2⟩⟩ (by omega))
        · have hje : i = b.ads.length := by omega
          subst hje
          have hga := hla
          have hle := hla
          have hlf := hla
          have hgb := hla
          (have FX := And.intro hlm (And.intro hla (And.intro hga (And.intro hle (And.intro hlf hgb)))); repeat' (first | (refine sx ?_ ?_ <;> intro h <;> first | (exfalso; omega) | skip) | refine ny ?_ | refine WA_block ?_))
          all_goals (try (exfalso; omega))
          all_goals ((refine r_es hQ ?_; try with_reducible rfl))
          all_goals exact congrArg V.bool (decide_eq_true ⟨by unfold lenL; omega, hi2, hj2⟩).symm
  · exact llight_n b hn m
end Go.Proofs.Ytaoakololkcepaa
