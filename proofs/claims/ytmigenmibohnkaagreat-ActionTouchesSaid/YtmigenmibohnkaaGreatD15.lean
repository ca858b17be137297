/- balance and friction of the reference, round by round -/
import Derived.Test.YtmigenmibohnkaaGreatYE
set_option linter.unusedSimpArgs false
set_option linter.unusedVariables false
namespace Go.Proofs.YtmigenmibohnkaaGreat
open Go.RowKit
theorem adR_no {s : Rat × Bool} {p : Rat} (h : s.2 = false) : adR s p = s := by unfold adR; rw [if_neg (by rw [h]; decide)]
theorem sbR_no {s : Rat × Bool} {p : Rat} (h : s.2 = false) : sbR s p = s := by unfold sbR; rw [if_neg (by rw [h]; decide)]
theorem adR_sm {s : Rat × Bool} {p : Rat} (h : (adR s p).2 = true) : sm (adR s p).1 := by
  unfold adR at *
  by_cases h1 : s.2 = true
  · rw [if_pos h1] at *
    by_cases h2 : sm p
    · rw [if_pos h2] at *; exact smB_iff.1 h
    · rw [if_neg h2] at h; cases h
  · rw [if_neg h1] at h; exact absurd h h1
theorem sbR_sm {s : Rat × Bool} {p : Rat} (h : (sbR s p).2 = true) : sm (sbR s p).1 := by
  unfold sbR at *
  by_cases h1 : s.2 = true
  · rw [if_pos h1] at *
    by_cases h2 : sm p
    · rw [if_pos h2] at *; exact smB_iff.1 h
    · rw [if_neg h2] at h; cases h
  · rw [if_neg h1] at h; exact absurd h h1
theorem balR_sm {a : ActR} {x : Rat} : ∀ {i : Nat}, (balR a x i).2 = true → sm (balR a x i).1
  | 0, _ => sm_zero
  | i + 1, h => by
    simp only [balR] at *
    split at h
    · rename_i h0
      rw [if_pos h0]
      cases hc : cvP a i with
      | none => rw [hc] at h; cases h
      | some c => rw [hc] at h; exact adR_sm h
    · rename_i h0; exact absurd h h0
theorem frcR_sm {a : ActR} {x : Rat} : ∀ {i : Nat}, (frcR a x i).2 = true → sm (frcR a x i).1
  | 0, _ => sm_zero
  | i + 1, h => by
    simp only [frcR] at *
    split at h
    · rename_i h0
      rw [if_pos h0]
      cases hc : cvP a i with
      | none => rw [hc] at h; cases h
      | some c => rw [hc] at h; exact adR_sm h
    · rename_i h0; exact absurd h h0
theorem ldR_sm {a : ActR} {s : Rat × Bool} (hs : s.2 = true → sm s.1) : ∀ {i : Nat}, (ldR a s i).2 = true → sm (ldR a s i).1
  | 0, h => hs h
  | i + 1, h => sbR_sm h
theorem balR_stay {a : ActR} {x : Rat} {i : Nat} (h : (balR a x i).2 = false) : ∀ {n : Nat}, i ≤ n → balR a x n = balR a x i
  | 0, hn => by have : i = 0 := by omega
                subst this; rfl
  | n + 1, hn => by
    rcases Nat.lt_or_ge i (n + 1) with q | q
    · have ih := balR_stay h (n := n) (by omega)
      simp only [balR]
      rw [ih, if_neg (by rw [h]; decide)]
    · have : i = n + 1 := by omega
      subst this; rfl
theorem frcR_stay {a : ActR} {x : Rat} {i : Nat} (h : (frcR a x i).2 = false) : ∀ {n : Nat}, i ≤ n → frcR a x n = frcR a x i
  | 0, hn => by have : i = 0 := by omega
                subst this; rfl
  | n + 1, hn => by
    rcases Nat.lt_or_ge i (n + 1) with q | q
    · have ih := frcR_stay h (n := n) (by omega)
      simp only [frcR]
      rw [ih, if_neg (by rw [h]; decide)]
    · have : i = n + 1 := by omega
      subst this; rfl
theorem ldR_stay {a : ActR} {s : Rat × Bool} {i : Nat} (h : (ldR a s i).2 = false) : ∀ {n : Nat}, i ≤ n → ldR a s n = ldR a s i
  | 0, hn => by have : i = 0 := by omega
                subst this; rfl
  | n + 1, hn => by
    rcases Nat.lt_or_ge i (n + 1) with q | q
    · have ih := ldR_stay h (n := n) (by omega)
      simp only [ldR]
      rw [ih, sbR_no h]
    · have : i = n + 1 := by omega
      subst this; rfl
theorem balR_none' {a : ActR} {x : Rat} {i : Nat} (h : (balR a x i).2 = true) (hc : cvP a i = none) : balR a x (i + 1) = ((balR a x i).1, false) := by
  simp only [balR]; rw [if_pos h, hc]
theorem frcR_none' {a : ActR} {x : Rat} {i : Nat} (h : (frcR a x i).2 = true) (hc : cvP a i = none) : frcR a x (i + 1) = ((frcR a x i).1, false) := by
  simp only [frcR]; rw [if_pos h, hc]
theorem balR_some {a : ActR} {x : Rat} {i : Nat} (h : (balR a x i).2 = true) {c : List Pt} (hc : cvP a i = some c) : balR a x (i + 1) = if sm (((a.parts.getD i p0).wt : Rat) * slopeE c x) then ((balR a x i).1 + ((a.parts.getD i p0).wt : Rat) * slopeE c x, smB ((balR a x i).1 + ((a.parts.getD i p0).wt : Rat) * slopeE c x)) else ((balR a x i).1, false) := by
  simp only [balR]; rw [if_pos h, hc]
  dsimp only
  unfold adR
  rw [if_pos h]
theorem frcR_some {a : ActR} {x : Rat} {i : Nat} (h : (frcR a x i).2 = true) {c : List Pt} (hc : cvP a i = some c) : frcR a x (i + 1) = if sm (((a.parts.getD i p0).fr : Rat) * absQ (slopeE c x)) then ((frcR a x i).1 + ((a.parts.getD i p0).fr : Rat) * absQ (slopeE c x), smB ((frcR a x i).1 + ((a.parts.getD i p0).fr : Rat) * absQ (slopeE c x))) else ((frcR a x i).1, false) := by
  simp only [frcR]; rw [if_pos h, hc]
  dsimp only
  unfold adR
  rw [if_pos h]
theorem ldR_some {a : ActR} {s : Rat × Bool} {i : Nat} (h : (ldR a s i).2 = true) : ldR a s (i + 1) = if sm (ldQ (a.leads.getD i l0)) then ((ldR a s i).1 - ldQ (a.leads.getD i l0), smB ((ldR a s i).1 - ldQ (a.leads.getD i l0))) else ((ldR a s i).1, false) := by
  simp only [ldR]
  unfold sbR
  rw [if_pos h]
end Go.Proofs.YtmigenmibohnkaaGreat
