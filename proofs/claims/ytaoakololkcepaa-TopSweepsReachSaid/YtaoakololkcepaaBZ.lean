/- proofs of refusal: the plain reading -/
import Derived.Test.YtaoakololkcepaaB34
import Derived.Test.YtaoakololkcepaaBF
set_option linter.unusedSimpArgs false
set_option linter.unusedVariables false
namespace Go.Proofs.Ytaoakololkcepaa
open Go.RowKit
theorem mid_mul {x lo hi y : Int} (h1 : lo ≤ x) (h2 : x ≤ hi) : min (y * lo) (y * hi) ≤ x * y ∧ x * y ≤ max (y * lo) (y * hi) := by
  rw [Int.mul_comm x y]
  rcases Int.le_total 0 y with hy | hy
  · have a := Int.mul_le_mul_of_nonneg_left h1 hy
    have c := Int.mul_le_mul_of_nonneg_left h2 hy
    omega
  · have a := Int.mul_le_mul_of_nonpos_left hy h1
    have c := Int.mul_le_mul_of_nonpos_left hy h2
    omega
/-- do the weighed values meet the weighed tolerances -/
def mtW (b : BnR) (ws : List Int) : Prop := cnL b ws b.ads.length ≤ wtH b ws b.ms.length ∧ wtL b ws b.ms.length ≤ cnH b ws b.ads.length
instance (b : BnR) (ws : List Int) : Decidable (mtW b ws) := inferInstanceAs (Decidable (_ ∧ _))
/-- the error of weights -/
def ckW (b : BnR) (ws : List Int) : Int := if ws.length ≠ b.ms.length then 10 else if ¬ smallP 100 ws then 2 else if mtW b ws then 22 else 0
theorem wOk_of {ws : List Int} (h : smallP 100 ws) : wOk ws := fun k => by
  rcases Nat.lt_or_ge k ws.length with hk | hk
  · exact h k hk
  · rw [List.getD_eq_getElem?_getD, List.getElem?_eq_none hk]; decide
theorem ckW_zero {b : BnR} {ws : List Int} (h : ckW b ws = 0) : ws.length = b.ms.length ∧ wOk ws ∧ ¬ mtW b ws := by
  unfold ckW at h
  by_cases h1 : ws.length = b.ms.length
  · rw [if_neg (by omega)] at h
    by_cases h2 : smallP 100 ws
    · rw [if_neg (fun g => g h2)] at h
      by_cases h3 : mtW b ws
      · rw [if_pos h3] at h; omega
      · exact ⟨h1, wOk_of h2, h3⟩
    · rw [if_pos h2] at h; omega
  · rw [if_pos h1] at h; omega
/-- the weighed sum of the values behind steps -/
def wvS (b : BnR) (ws l : List Int) : Nat → Int
  | 0 => 0
  | i + 1 => wvS b ws l i + ws.getD i 0 * valP b l i
def dtS (b : BnR) (ws l : List Int) (n : Nat) : Nat → Int
  | 0 => 0
  | k + 1 => dtS b ws l n k + l.getD k 0 * smW b ws k n
theorem dtS_zero (b : BnR) (ws l : List Int) : ∀ k, dtS b ws l 0 k = 0
  | 0 => rfl
  | k + 1 => by simp [dtS, dtS_zero b ws l k, smW]
theorem dtS_succ (b : BnR) (ws l : List Int) (n : Nat) : ∀ k, dtS b ws l (n + 1) k = dtS b ws l n k + ws.getD n 0 * (valK b l n k - (b.ms.getD n msz).val)
  | 0 => by simp [dtS, valK]
  | k + 1 => by
    have ih := dtS_succ b ws l n k
    simp only [dtS, valK, smW]
    rw [ih]
    grind
theorem wv_eq (b : BnR) (ws l : List Int) : ∀ n, wvS b ws l n = wgM b ws n + dtS b ws l n b.ads.length
  | 0 => by simp [wvS, wgM, dtS_zero]
  | n + 1 => by
    have ih := wv_eq b ws l n
    have h := dtS_succ b ws l n b.ads.length
    have hv : valK b l n b.ads.length = valP b l n := rfl
    simp only [wvS, wgM]
    rw [ih, h, hv]
    grind
theorem wv_tol {b : BnR} {ws l : List Int} (h : ∀ i, i < b.ms.length → (b.ms.getD i msz).low ≤ valP b l i ∧ valP b l i ≤ (b.ms.getD i msz).high) : ∀ n, n ≤ b.ms.length → wtL b ws n ≤ wvS b ws l n ∧ wvS b ws l n ≤ wtH b ws n
  | 0, _ => ⟨Int.le_refl _, Int.le_refl _⟩
  | n + 1, hn => by
    have ih := wv_tol (ws := ws) h n (by omega)
    have h1 := mid_mul (y := ws.getD n 0) (h n (by omega)).1 (h n (by omega)).2
    rw [Int.mul_comm (valP b l n)] at h1
    simp only [wtL, wtH, wvS]
    omega
theorem wv_can {b : BnR} {ws l : List Int} (h : stOk b.ads l) : ∀ k, k ≤ b.ads.length → cnL b ws k ≤ wgM b ws b.ms.length + dtS b ws l b.ms.length k ∧ wgM b ws b.ms.length + dtS b ws l b.ms.length k ≤ cnH b ws k
  | 0, _ => by simp only [cnL, cnH, dtS]; omega
  | k + 1, hk => by
    have ih := wv_can (ws := ws) h k (by omega)
    have h1 := mid_mul (y := smW b ws k b.ms.length) (h.2 k (by omega)).1 (h.2 k (by omega)).2
    rw [Int.mul_comm (smW b ws k b.ms.length), Int.mul_comm (smW b ws k b.ms.length)] at h1
    simp only [cnL, cnH, dtS]
    omega
theorem brk_nil {b : BnR} {l : List Int} (h : brkP b l b.ms.length = []) {i : Nat} (hi : i < b.ms.length) : (b.ms.getD i msz).low ≤ valP b l i ∧ valP b l i ≤ (b.ms.getD i msz).high := by
  refine Decidable.byContradiction fun hn => ?_
  have hb : brkB b l i = true := by unfold brkB; rw [decide_eq_false hn]; rfl
  have : i ∈ brkP b l b.ms.length := List.mem_filter.2 ⟨List.mem_range.2 hi, hb⟩
  rw [h] at this
  cases this
/-- where nothing is broken, no weights are a proof -/
theorem good_meets {b : BnR} {ws l : List Int} (hl : stOk b.ads l) (hb : brkP b l b.ms.length = []) : mtW b ws := by
  have h1 := wv_tol (ws := ws) (fun i hi => brk_nil hb hi) b.ms.length (Nat.le_refl _)
  have h2 := wv_can (ws := ws) hl b.ads.length (Nat.le_refl _)
  have h3 := wv_eq b ws l b.ms.length
  unfold mtW
  omega
end Go.Proofs.Ytaoakololkcepaa
