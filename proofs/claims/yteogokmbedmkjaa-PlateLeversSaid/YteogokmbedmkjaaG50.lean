import Derived.Test.YteogokmbedmkjaaG42
import Derived.Test.YteogokmbedmkjaaG48
import Derived.Test.YteogokmbedmkjaaP3
namespace Go.Proofs.Yteogokmbedmkjaa
open Go.RowKit
attribute [local irreducible] WA WOs WDs WAn qThen qBlock tput
set_option maxHeartbeats 1000000
set_option maxRecDepth 20000
set_option linter.unusedSimpArgs false
set_option linter.unusedVariables false
theorem distr_get {xs : List Int} {ls : List (Int × Int)} (h : LevOk xs ls) {i : Nat} (hi : i < xs.length) : (frsV (distr xs ls))[i]? = some [.int .i64 (lowF (sumF (numA xs i) ls ls.length) (befW xs i * behW xs i)).1, .int .i64 (lowF (sumF (numA xs i) ls ls.length) (befW xs i * behW xs i)).2] := by
  have e := distr_num (ls := ls) h.bars (fun p hp => ⟨by have := getD_bd h.bars 0; have := getD_bd h.bars (xs.length - 1); have := (h.ok p hp).1; omega, (h.ok p hp).2⟩) hi
  simp [frsV, distr, hi, e]
theorem distr_len {xs : List Int} {ls : List (Int × Int)} : (frsV (distr xs ls)).length = xs.length := by simp [frsV, distr]
theorem distr_rev {xs : List Int} {ls : List (Int × Int)} (h : LevOk xs ls) : distr xs ls.reverse = distr xs ls := by
  unfold distr
  apply List.map_congr_left
  intro i hi
  have hi : i < xs.length := by simpa using hi
  have bd : ∀ p ∈ ls, (-20000 ≤ p.1 ∧ p.1 ≤ 20000) ∧ (-1000000 ≤ p.2 ∧ p.2 ≤ 1000000) := fun p hp => ⟨by have := getD_bd h.bars 0; have := getD_bd h.bars (xs.length - 1); have := (h.ok p hp).1; omega, (h.ok p hp).2⟩
  rw [distr_num h.bars bd hi, distr_num h.bars (fun p hp => bd p (List.mem_reverse.1 hp)) hi, sumF_rev]
/-- what a bar's numerator is, and the quotient that the law takes -/
theorem lv_bar {xs : List Int} {ls : List (Int × Int)} (h : LevOk xs ls) {i : Nat} (hi : i < xs.length) : ∃ n d q T : Int, (frsV (distr xs ls))[i]? = some [.int .i64 n, .int .i64 d] ∧ (1 ≤ d ∧ d ≤ 4000000) ∧ (lvU xs).tmod d = 0 ∧ (-20000000 * d ≤ n ∧ n ≤ 20000000 * d) ∧ lvU xs / d = q ∧ n * q = T ∧ T = sumF (numA xs i) ls ls.length * lvC xs i ∧ (-48000000000000 ≤ T ∧ T ≤ 48000000000000) ∧ (-80000000000000 ≤ n ∧ n ≤ 80000000000000) ∧ (1 ≤ q ∧ q ≤ 4000000) := by
  have c1 := bef_bd h.bars hi
  have c2 := beh_bd h.bars hi
  have cc := mulDen c1 c2
  have hU := lv_den h hi
  have hU2 := lvU_bd h
  have hC := lvC_bd h i
  have hb := sumF_bd (f := numA xs i) (ls := ls) (M := 1000000 * (befW xs i * behW xs i)) (by omega) (fun p hp => numA_bd h hi hp) ls.length (Nat.le_refl _)
  have hg := distr_get h hi
  generalize sumF (numA xs i) ls ls.length = N at hb hg ⊢
  generalize befW xs i * behW xs i = D at cc hU hb hg
  generalize lvC xs i = c at hC hU ⊢
  generalize lvU xs = U at hU hU2 ⊢
  have hN : -(12000000 * D) ≤ N ∧ N ≤ 12000000 * D := by
    have : (ls.length : Int) * (1000000 * D) ≤ 12 * (1000000 * D) := Int.mul_le_mul_of_nonneg_right (by have := h.few; omega) (by omega)
    omega
  obtain ⟨g, n, d, hg0, hd0, rfl, rfl, e1, e2⟩ := low_parts (N := N) cc.1
  rw [e1, e2] at hg
  have hgd : d * 1 ≤ d * g := Int.mul_le_mul_of_nonneg_left (by omega) (by omega)
  have hdU : d ≤ 4000000 := by
    have k1 : d * 1 ≤ d * (g * c) := Int.mul_le_mul_of_nonneg_left (by have := Int.mul_pos hg0 (by omega : 0 < c); omega) (by omega)
    have k2 : g * d * c = d * (g * c) := by rw [Int.mul_comm g d, Int.mul_assoc]
    omega
  have hUd : U = d * (g * c) := by rw [← hU, Int.mul_comm g d, Int.mul_assoc]
  have hq1 : U / d = g * c := by rw [hUd]; exact Int.mul_ediv_cancel_left _ (by omega)
  have hgc : 1 ≤ g * c := by have := Int.mul_pos hg0 (by omega : 0 < c); omega
  have hgc2 : 1 * (g * c) ≤ d * (g * c) := Int.mul_le_mul_of_nonneg_right hd0 (by omega)
  have hnd : -(12000000 * d) ≤ n ∧ n ≤ 12000000 * d := by
    constructor
    · refine Int.le_of_mul_le_mul_left (a := g) ?_ hg0
      have : g * -(12000000 * d) = -(12000000 * (g * d)) := by rw [Int.mul_neg, ← Int.mul_assoc, Int.mul_comm g 12000000, Int.mul_assoc]
      omega
    · refine Int.le_of_mul_le_mul_left (a := g) ?_ hg0
      have : g * (12000000 * d) = 12000000 * (g * d) := by rw [← Int.mul_assoc, Int.mul_comm g 12000000, Int.mul_assoc]
      omega
  refine ⟨n, d, g * c, g * n * c, hg, ⟨hd0, hdU⟩, ?_, by omega, hq1, ?_, rfl, ?_, by omega, ⟨hgc, by omega⟩⟩
  · rw [hUd, Int.mul_comm d]; exact Int.mul_tmod_left _ _
  · rw [← Int.mul_assoc, Int.mul_comm n g]
  · have k1 : g * n * c ≤ 12000000 * (g * d) * c := Int.mul_le_mul_of_nonneg_right hN.2 (by omega)
    have k2 : -(12000000 * (g * d)) * c ≤ g * n * c := Int.mul_le_mul_of_nonneg_right hN.1 (by omega)
    rw [Int.neg_mul] at k2
    rw [Int.mul_assoc 12000000] at k1 k2
    omega
theorem mulM {x y : Int} (h1 : -48000000000000 ≤ x ∧ x ≤ 48000000000000) (h2 : 0 ≤ y ∧ y ≤ 2000) : -96000000000000000 ≤ x * y ∧ x * y ≤ 96000000000000000 := by
  have e : (x * y).natAbs = x.natAbs * y.natAbs := Int.natAbs_mul x y
  have : x.natAbs * y.natAbs ≤ 48000000000000 * 2000 := Nat.mul_le_mul (by omega) (by omega)
  omega
theorem lv_off {xs : List Int} {ls : List (Int × Int)} (h : LevOk xs ls) {i : Nat} (hi : i < xs.length) : 0 ≤ xs.getD i 0 - xs.getD 0 0 ∧ xs.getD i 0 - xs.getD 0 0 ≤ 2000 := by
  have h3 := h.near
  have a : xs.getD 0 0 ≤ xs.getD i 0 := by
    rcases Nat.eq_zero_or_pos i with q | q
    · subst q; omega
    · have := getD_up h.bars hi q; omega
  have b : xs.getD i 0 ≤ xs.getD (xs.length - 1) 0 := by
    rcases Nat.lt_or_ge i (xs.length - 1) with q | q
    · have := getD_up h.bars (by omega : xs.length - 1 < xs.length) q; omega
    · rw [show i = xs.length - 1 by omega]; omega
  omega
theorem lvS_bd {xs : List Int} {ls : List (Int × Int)} (h : LevOk xs ls) : ∀ i, i ≤ xs.length → (-(i * 48000000000000 : Int) ≤ lvS xs ls i ∧ lvS xs ls i ≤ i * 48000000000000) ∧ (-(i * 96000000000000000 : Int) ≤ lvM xs ls i ∧ lvM xs ls i ≤ i * 96000000000000000)
  | 0, _ => by simp [lvS, lvM]
  | i + 1, hi => by
    have ih := lvS_bd h i (by omega)
    obtain ⟨n, d, q, T, _, _, _, _, _, _, hT, hTb, _⟩ := lv_bar h (by omega : i < xs.length)
    have hm := mulM hTb (lv_off h (by omega : i < xs.length))
    simp only [lvS, lvM, ← hT]
    omega
end Go.Proofs.Yteogokmbedmkjaa
