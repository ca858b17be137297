/- contracts: plans compared -/
import Derived.Test.YtaoakololkcepaaYQ
import Derived.Test.YtaoakololkcepaaB31
set_option linter.unusedSimpArgs false
set_option linter.unusedVariables false
namespace Go.Proofs.Ytaoakololkcepaa
open Go.RowKit
attribute [local irreducible] WA WOs WDs WAn qThen qBlock tput
set_option maxHeartbeats 1000000
set_option maxRecDepth 20000
set_option linter.unusedSimpArgs false
set_option linter.unusedVariables false
set_option maxHeartbeats 4000000
theorem uB51_56_6 {N : Nat} {l : List Oper} {t : List (Nat × V)} {m : Mem} {Q : Exit → List (Nat × V) → Mem → Prop} (h : RgN Try.prog N l t m Q (fun i => if i == 3 || i == 4 || i == 8 || i == 9 then .q else .p) [.one 0, .one 1, .one 2, .one 3, .one 4, .one 5, .one 6, .one 7, .one 8, .one 9, .one 10]) : WA Try.prog N (.region 6 l.toArray true) t m Q := d_rgN h
theorem uB51_56_11 {N : Nat} {l : List Oper} {t : List (Nat × V)} {m : Mem} {Q : Exit → List (Nat × V) → Mem → Prop} (h : RgN Try.prog N l t m Q (fun i => if i == 3 || i == 6 || i == 10 || i == 13 || i == 14 then .q else .p) [.one 0, .one 1, .one 2, .one 3, .one 4, .one 5, .one 6, .one 7, .one 8, .one 9, .one 10, .one 11, .one 12, .one 13, .one 14]) : WA Try.prog N (.region 11 l.toArray true) t m Q := d_rgN h
/-- .. with itself -/
theorem rsameplan_c (l : List (List StR)) (hl : l.length ≤ 1000) (hs : ∀ i, i < l.length → (l.getD i []).length ≤ 1000) (m : Mem) : Gives Try.prog 56 [.lst (plV l), .lst (plV l)] m (.bool true) := by
  have hlp := plV_length (l := l)
  have hga := hlp
  have hls := hlp
  have hgb := hlp
  refine Gives_in Try.func56 rfl Try.ntmps56 Try.results56 (by kernel_rfl) (by simp) rfl fun Q hQ => ?_
  (have FX := And.intro hlp (And.intro hga (And.intro hls hgb)); repeat' (first | (refine sx ?_ ?_ <;> intro h <;> first | (exfalso; omega) | skip) | refine ny ?_ | refine WA_block ?_ | (refine uB51_56_6 ?_; refine ⟨by kernel_rfl, ?_⟩) | (refine uB51_56_11 ?_; refine ⟨by kernel_rfl, ?_⟩)))
  all_goals (try (exfalso; first | omega | contradiction))
  refine WA_while (σ := Nat) [0, 1, 5] (fun i => [.lst (plV l), .lst (plV l), .int .i64 i]) (fun _ => lend m ++ []) (fun i => i ≤ l.length) (fun i => l.length - i) 0 (Nat.zero_le _) tv_ rfl ?_
  rintro i hi1 K hK
  simp only [zipT]
  clear FX hga hls hgb
  have hgb := hlp
  rcases Nat.lt_or_ge i l.length with hi | hi
  · have hga := plV_get hi
    have hls := stsV_length (l := l.getD i [])
    have hsi := hs i hi
    generalize l.getD i [] = p at *
    (have FX := And.intro hlp (And.intro hga (And.intro hls hgb)); repeat' (first | (refine sx ?_ ?_ <;> intro h <;> first | (exfalso; omega) | skip) | refine ny ?_ | refine WA_block ?_ | (refine uB51_56_6 ?_; refine ⟨by kernel_rfl, ?_⟩) | (refine uB51_56_11 ?_; refine ⟨by kernel_rfl, ?_⟩)))
    all_goals (try (exfalso; first | omega | contradiction))
    refine WA_while (σ := Nat) [0, 1, 5, 6] (fun k => [.lst (plV l), .lst (plV l), .int .i64 i, .int .i64 k]) (fun _ => lend m ++ []) (fun k => k ≤ p.length) (fun k => p.length - k) 0 (Nat.zero_le _) tv_ rfl ?_
    rintro k hk1 K2 hK2
    simp only [zipT]
    clear FX hgb
    rcases Nat.lt_or_ge k p.length with hk | hk
    · have hgb := stsV_get hk
      generalize p.getD k stz = x at *
      unfold stV at hgb
      (have FX := And.intro hlp (And.intro hga (And.intro hls hgb)); repeat' (first | (refine sx ?_ ?_ <;> intro h <;> first | (exfalso; omega) | skip) | refine ny ?_ | refine WA_block ?_ | (refine uB51_56_6 ?_; refine ⟨by kernel_rfl, ?_⟩) | (refine uB51_56_11 ?_; refine ⟨by kernel_rfl, ?_⟩)))
      all_goals (try (exfalso; first | omega | contradiction))
      all_goals (refine next_ hK2 (k + 1) hk (by omega))
    · obtain rfl : k = p.length := by omega
      have hgb := hlp
      (have FX := And.intro hlp (And.intro hga (And.intro hls hgb)); repeat' (first | (refine sx ?_ ?_ <;> intro h <;> first | (exfalso; omega) | skip) | refine ny ?_ | refine WA_block ?_ | (refine uB51_56_6 ?_; refine ⟨by kernel_rfl, ?_⟩) | (refine uB51_56_11 ?_; refine ⟨by kernel_rfl, ?_⟩)))
      all_goals (try (exfalso; first | omega | contradiction))
      all_goals (refine next_ hK (i + 1) hi (by omega))
  · obtain rfl : i = l.length := by omega
    have hga := hlp
    have hls := hlp
    (have FX := And.intro hlp (And.intro hga (And.intro hls hgb)); repeat' (first | (refine sx ?_ ?_ <;> intro h <;> first | (exfalso; omega) | skip) | refine ny ?_ | refine WA_block ?_ | (refine uB51_56_6 ?_; refine ⟨by kernel_rfl, ?_⟩) | (refine uB51_56_11 ?_; refine ⟨by kernel_rfl, ?_⟩)))
    all_goals (try (exfalso; first | omega | contradiction))
    all_goals ((refine r_es hQ ?_; try with_reducible rfl))
end Go.Proofs.Ytaoakololkcepaa
