/- values behind steps: the plain reading -/
import Derived.Test.YtaoakololkcepaaB1
set_option linter.unusedSimpArgs false
set_option linter.unusedVariables false
namespace Go.Proofs.Ytaoakololkcepaa
open Go.RowKit
/-- what a step adds to the measure with a name -/
def byL (l : List EfR) (s : Txt) : Int := match l.find? (isF s) with
  | some e => e.by_
  | none => 0
theorem byL_fdx {l : List EfR} {s : Txt} {i : Nat} (hi : i < l.length) (h0 : ∀ j, j < i → (l.getD j efz).meas ≠ s) (h : (l.getD i efz).meas = s) : byL l s = (l.getD i efz).by_ := by
  have h1 : l.find? (isF s) = some (l.getD i efz) := by
    have hg : l.getD i efz = l[i] := by rw [List.getD_eq_getElem?_getD, List.getElem?_eq_getElem hi]; rfl
    rw [hg, List.find?_eq_some_iff_getElem]
    refine ⟨by unfold isF; rw [← hg]; exact decide_eq_true h, i, hi, rfl, fun j hj => ?_⟩
    have := h0 j hj
    rw [List.getD_eq_getElem?_getD, List.getElem?_eq_getElem (by omega)] at this
    simp only [Bool.not_eq_true', isF, decide_eq_false_iff_not]
    exact this
  unfold byL; rw [h1]
theorem byL_none {l : List EfR} {s : Txt} (h0 : ∀ j, j < l.length → (l.getD j efz).meas ≠ s) : byL l s = 0 := by
  have h1 : l.find? (isF s) = none := by
    rw [List.find?_eq_none]
    intro x hx hf
    obtain ⟨j, hj, rfl⟩ := List.getElem_of_mem hx
    have := h0 j hj
    rw [List.getD_eq_getElem?_getD, List.getElem?_eq_getElem hj] at this
    exact this (of_decide_eq_true hf)
  unfold byL; rw [h1]
def stErrAt (ads : List AdR) (l : List Int) (i : Nat) : Int := if (ads.getD i adz).least ≤ l.getD i 0 ∧ l.getD i 0 ≤ (ads.getD i adz).most then 0 else 2
/-- the error of steps -/
def stErr (ads : List AdR) (l : List Int) : Int := if l.length ≠ ads.length then 10 else fE (stErrAt ads l) ads.length
def byN (b : BnR) (k i : Nat) : Int := byL (b.ads.getD k adz).effs (b.ms.getD i msz).name
def valK (b : BnR) (l : List Int) (i : Nat) : Nat → Int
  | 0 => (b.ms.getD i msz).val
  | k + 1 => valK b l i k + l.getD k 0 * byN b k i
/-- the value of a measure behind steps -/
def valP (b : BnR) (l : List Int) (i : Nat) : Int := valK b l i b.ads.length
def valsP (b : BnR) (l : List Int) (n : Nat) : List Int := (List.range n).map (valP b l)
def brkB (b : BnR) (l : List Int) (i : Nat) : Bool := !decide ((b.ms.getD i msz).low ≤ valP b l i ∧ valP b l i ≤ (b.ms.getD i msz).high)
/-- the measures that are broken -/
def brkP (b : BnR) (l : List Int) (n : Nat) : List Nat := (List.range n).filter (brkB b l)
theorem valsP_length (b : BnR) (l : List Int) (n : Nat) : (valsP b l n).length = n := by simp [valsP]
theorem valsP_succ (b : BnR) (l : List Int) (n : Nat) : valsP b l (n + 1) = valsP b l n ++ [valP b l n] := by simp [valsP, List.range_succ]
theorem valsP_get {b : BnR} {l : List Int} {n i : Nat} (h : i < n) : (valsP b l n).getD i 0 = valP b l i := by
  unfold valsP
  rw [List.getD_eq_getElem?_getD, List.getElem?_map, List.getElem?_range h]; rfl
theorem brkP_succ (b : BnR) (l : List Int) (n : Nat) : brkP b l (n + 1) = if brkB b l n = true then brkP b l n ++ [n] else brkP b l n := by
  unfold brkP
  rw [List.range_succ, List.filter_append]
  by_cases h : brkB b l n = true
  · rw [if_pos h]; simp [h]
  · rw [if_neg h]; simp [h]
theorem brkP_le (b : BnR) (l : List Int) (n : Nat) : (brkP b l n).length ≤ n := by
  have := List.length_filter_le (brkB b l) (List.range n)
  simpa [brkP] using this
theorem stErr_ok {ads : List AdR} {l : List Int} (h : stErr ads l = 0) : l.length = ads.length ∧ ∀ i, i < ads.length → (ads.getD i adz).least ≤ l.getD i 0 ∧ l.getD i 0 ≤ (ads.getD i adz).most := by
  unfold stErr at h
  split at h
  · simp at h
  · rename_i h1
    refine ⟨by omega, fun i hi => ?_⟩
    have h2 := fE_zero.1 h i hi
    unfold stErrAt at h2
    split at h2
    · assumption
    · simp at h2
/-- what is known of a right bench, for sums -/
structure Bnd (b : BnR) : Prop where
  fm : b.ms.length ≤ 12
  fa : b.ads.length ≤ 12
  va : ∀ i, i < b.ms.length → (-100000 ≤ (b.ms.getD i msz).val ∧ (b.ms.getD i msz).val ≤ 100000) ∧ (-100000 ≤ (b.ms.getD i msz).low ∧ (b.ms.getD i msz).low ≤ (b.ms.getD i msz).high) ∧ (b.ms.getD i msz).high ≤ 100000
  by_ : ∀ k i, -1000 ≤ byN b k i ∧ byN b k i ≤ 1000
  le : ∀ k, k < b.ads.length → -1000 ≤ (b.ads.getD k adz).least ∧ (b.ads.getD k adz).least ≤ 0
  mo : ∀ k, k < b.ads.length → 0 ≤ (b.ads.getD k adz).most ∧ (b.ads.getD k adz).most ≤ 1000
  pa : ∀ k, k < b.ads.length → 1 ≤ (b.ads.getD k adz).pass ∧ (b.ads.getD k adz).pass ≤ 1000
theorem mul_bd {x y a c : Int} (ha : 0 ≤ a) (h1 : -a ≤ x ∧ x ≤ a) (h2 : -c ≤ y ∧ y ≤ c) : -(a * c) ≤ x * y ∧ x * y ≤ a * c := by
  have hx : x.natAbs ≤ a.natAbs := by omega
  have hy : y.natAbs ≤ c.natAbs := by omega
  have hc : 0 ≤ c := by omega
  have h := Nat.mul_le_mul hx hy
  rw [← Int.natAbs_mul, ← Int.natAbs_mul] at h
  have : 0 ≤ a * c := Int.mul_nonneg ha hc
  omega
theorem valK_bd {b : BnR} (hb : Bnd b) {l : List Int} {i : Nat} (hi : i < b.ms.length) (hl : ∀ k, k < b.ads.length → -1000 ≤ l.getD k 0 ∧ l.getD k 0 ≤ 1000) : ∀ k, k ≤ b.ads.length → -(100000 + 1000000 * (k : Int)) ≤ valK b l i k ∧ valK b l i k ≤ 100000 + 1000000 * (k : Int)
  | 0, _ => by have := (hb.va i hi).1; simp only [valK]; omega
  | k + 1, hk => by
    have ih := valK_bd hb hi hl k (by omega)
    have h1 := mul_bd (a := 1000) (c := 1000) (by decide) (hl k (by omega)) (hb.by_ k i)
    simp only [valK]
    omega
theorem valP_bd {b : BnR} (hb : Bnd b) {l : List Int} {i : Nat} (hi : i < b.ms.length) (hl : ∀ k, k < b.ads.length → -1000 ≤ l.getD k 0 ∧ l.getD k 0 ≤ 1000) : -13000000 ≤ valP b l i ∧ valP b l i ≤ 13000000 := by
  have h := valK_bd hb hi hl b.ads.length (Nat.le_refl _)
  have := hb.fa
  unfold valP
  omega
theorem steps_bd {b : BnR} (hb : Bnd b) {l : List Int} (h : ∀ i, i < b.ads.length → (b.ads.getD i adz).least ≤ l.getD i 0 ∧ l.getD i 0 ≤ (b.ads.getD i adz).most) : ∀ k, k < b.ads.length → -1000 ≤ l.getD k 0 ∧ l.getD k 0 ≤ 1000 := fun k hk => by
  have h1 := h k hk
  have h2 := hb.le k hk
  have h3 := hb.mo k hk
  omega
end Go.Proofs.Ytaoakololkcepaa
