/- plain words for the reference's loads on bars, and that they are the program's -/
import Derived.Test.YteogokmbedmkjaaG26
namespace Go.Proofs.Yteogokmbedmkjaa
theorem getD_up {xs : List Int} (hx : BarsOk xs) {i j : Nat} (hj : j < xs.length) (h : i < j) : xs.getD i 0 < xs.getD j 0 := by
  rw [getD_get hj, getD_get (by omega : i < xs.length)]
  exact hx.up i j (by omega) hj h
theorem cnt_ex {xs : List Int} (hx : BarsOk xs) (x : Int) : ∀ m, m ≤ xs.length → ∃ k, k ≤ m ∧ (∀ j, j < k → xs.getD j 0 ≤ x) ∧ (∀ j, k ≤ j → j < m → x < xs.getD j 0)
  | 0, _ => ⟨0, Nat.le_refl _, (fun j h => absurd h (Nat.not_lt_zero _)), (fun j _ h => absurd h (Nat.not_lt_zero _))⟩
  | m + 1, hm => by
    obtain ⟨k, h1, h2, h3⟩ := cnt_ex hx x m (by omega)
    by_cases hk : k = m ∧ xs.getD m 0 ≤ x
    · obtain ⟨rfl, hk⟩ := hk
      refine ⟨k + 1, by omega, fun j hj => ?_, fun j a b => by omega⟩
      rcases Nat.lt_or_ge j k with q | q
      · exact h2 j q
      · have : j = k := by omega
        subst this; exact hk
    · refine ⟨k, by omega, h2, fun j a b => ?_⟩
      rcases Nat.lt_or_ge j m with q | q
      · exact h3 j a q
      · have : j = m := by omega
        subst this
        rcases Nat.lt_or_ge k j with p | p
        · have := h3 k (Nat.le_refl _) p
          have := getD_up hx (by omega : j < xs.length) p
          omega
        · have : k = j := by omega
          omega
theorem seg_spec {xs : List Int} (hx : BarsOk xs) {x : Int} (h0 : xs.getD 0 0 ≤ x) (h1 : x ≤ xs.getD (xs.length - 1) 0) :
    seg xs x + 1 < xs.length ∧ xs.getD (seg xs x) 0 ≤ x ∧ (x < xs.getD (seg xs x + 1) 0 ∨ (seg xs x + 2 = xs.length ∧ x = xs.getD (seg xs x + 1) 0)) := by
  have hx2 := hx.two
  obtain ⟨k, k1, k2, k3⟩ := cnt_ex hx x xs.length (Nat.le_refl _)
  have hc : cnt xs x = k := cnt_eq k1 (fun j h q => by have := k2 j q; rw [getD_get h] at this; omega) (fun j h q => by have := k3 j q h; rw [getD_get h] at this; omega)
  have hk : 1 ≤ k := by
    rcases Nat.eq_zero_or_pos k with q | q
    · subst q
      have := k3 0 (Nat.le_refl _) (by omega)
      omega
    · exact q
  refine ⟨seg_lt hx2 x, ?_, ?_⟩
  · unfold seg; rw [hc]; exact k2 _ (by omega)
  · unfold seg; rw [hc]
    rcases Nat.lt_or_ge k xs.length with q | q
    · left
      rw [show min (k - 1) (xs.length - 2) + 1 = k by omega]
      exact k3 k (Nat.le_refl _) q
    · right
      refine ⟨by omega, ?_⟩
      rw [show min (k - 1) (xs.length - 2) + 1 = xs.length - 1 by omega]
      have := k2 (xs.length - 1) (by omega)
      omega
def nO (xs : List Int) (i : Nat) (p : Int × Int) : Int := if p.1 = xs.getD i 0 then p.2 else 0
def nL (xs : List Int) (i : Nat) (p : Int × Int) : Int := if p.1 = xs.getD i 0 then 0 else if 0 < i ∧ xs.getD (i - 1) 0 < p.1 ∧ p.1 < xs.getD i 0 then p.2 * (p.1 - xs.getD (i - 1) 0) else 0
def nR (xs : List Int) (i : Nat) (p : Int × Int) : Int := if p.1 = xs.getD i 0 then 0 else if 0 < i ∧ xs.getD (i - 1) 0 < p.1 ∧ p.1 < xs.getD i 0 then 0 else if i + 1 < xs.length ∧ xs.getD i 0 < p.1 ∧ p.1 < xs.getD (i + 1) 0 then p.2 * (xs.getD (i + 1) 0 - p.1) else 0
/-- what a load adds to a bar's numerator -/
def numA (xs : List Int) (i : Nat) (p : Int × Int) : Int :=
  (if i = seg xs p.1 + 1 then p.2 * (p.1 - xs.getD (seg xs p.1) 0) else 0) * behW xs i + (if i = seg xs p.1 then p.2 * (xs.getD (seg xs p.1 + 1) 0 - p.1) else 0) * befW xs i
theorem laid_num {xs : List Int} {ls : List (Int × Int)} (hx : BarsOk xs) (hl : ∀ p ∈ ls, (-20000 ≤ p.1 ∧ p.1 ≤ 20000) ∧ (-1000000 ≤ p.2 ∧ p.2 ≤ 1000000)) {i : Nat} (hi : i < xs.length) : ∀ k, k ≤ ls.length →
    (laidK xs ls k).2.getD i 0 * behW xs i + (laidK xs ls k).1.getD i 0 * befW xs i = sumF (numA xs i) ls k
  | 0, _ => by
    have h := laidK_bd hx hl 0 (by omega)
    have a := h.b1 i
    have b := h.b2 i
    have a' : (laidK xs ls 0).1.getD i 0 = 0 := by omega
    have b' : (laidK xs ls 0).2.getD i 0 = 0 := by omega
    rw [a', b']
    simp [sumF]
  | k + 1, h => by
    have ih := laid_num hx hl hi k (by omega)
    have hb := laidK_bd hx hl k (by omega)
    have l1 := hb.l1
    have l2 := hb.l2
    have hs := seg_lt (xs := xs) hx.two ls[k].1
    rw [laidK_succ (by omega), sumF_succ (by omega), ← ih]
    unfold numA
    simp only [ldStep, getD_set]
    have e1 : (if seg xs ls[k].1 + 1 = i ∧ seg xs ls[k].1 + 1 < (laidK xs ls k).2.length then (laidK xs ls k).2.getD (seg xs ls[k].1 + 1) 0 + ls[k].2 * (ls[k].1 - xs.getD (seg xs ls[k].1) 0) else (laidK xs ls k).2.getD i 0) = (laidK xs ls k).2.getD i 0 + (if i = seg xs ls[k].1 + 1 then ls[k].2 * (ls[k].1 - xs.getD (seg xs ls[k].1) 0) else 0) := by
      by_cases q : i = seg xs ls[k].1 + 1
      · rw [if_pos ⟨q.symm, by omega⟩, if_pos q, ← q]
      · rw [if_neg (fun a => q a.1.symm), if_neg q, Int.add_zero]
    have e2 : (if seg xs ls[k].1 = i ∧ seg xs ls[k].1 < (laidK xs ls k).1.length then (laidK xs ls k).1.getD (seg xs ls[k].1) 0 + ls[k].2 * (xs.getD (seg xs ls[k].1 + 1) 0 - ls[k].1) else (laidK xs ls k).1.getD i 0) = (laidK xs ls k).1.getD i 0 + (if i = seg xs ls[k].1 then ls[k].2 * (xs.getD (seg xs ls[k].1 + 1) 0 - ls[k].1) else 0) := by
      by_cases q : i = seg xs ls[k].1
      · rw [if_pos ⟨q.symm, by omega⟩, if_pos q, ← q]
      · rw [if_neg (fun a => q a.1.symm), if_neg q, Int.add_zero]
    rw [e1, e2, Int.add_mul, Int.add_mul]
    omega
theorem numA_ref {xs : List Int} (hx : BarsOk xs) {i : Nat} (hi : i < xs.length) {p : Int × Int} (h0 : xs.getD 0 0 ≤ p.1) (h1 : p.1 ≤ xs.getD (xs.length - 1) 0) :
    numA xs i p = nO xs i p * befW xs i * behW xs i + nL xs i p * behW xs i + nR xs i p * befW xs i := by
  obtain ⟨s1, s2, s3⟩ := seg_spec hx h0 h1
  have up := fun {i j : Nat} (hj : j < xs.length) (h : i < j) => getD_up hx hj h
  unfold numA nO nL nR
  generalize seg xs p.1 = s at s1 s2 s3
  obtain ⟨x, w⟩ := p
  dsimp only at *
  rcases Nat.lt_or_ge i s with c | c
  · have a := up (by omega : s < xs.length) c
    have b : xs.getD (i + 1) 0 ≤ xs.getD s 0 := by
      rcases Nat.lt_or_ge (i + 1) s with q | q
      · have := up (by omega : s < xs.length) q; omega
      · rw [show i + 1 = s by omega]; omega
    rw [if_neg (by omega), if_neg (by omega), if_neg (by omega), if_neg (by omega), if_neg (by omega), if_neg (by omega), if_neg (by omega), if_neg (by omega)]
    simp
  rcases Nat.lt_or_ge (s + 1) i with d | d
  · have a := up hi d
    have b : xs.getD (s + 1) 0 ≤ xs.getD (i - 1) 0 := by
      rcases Nat.lt_or_ge (s + 1) (i - 1) with q | q
      · have := up (by omega : i - 1 < xs.length) q; omega
      · rw [show i - 1 = s + 1 by omega]; omega
    have hlt := up (by omega : s + 1 < xs.length) (Nat.lt_succ_self s)
    rw [if_neg (by omega), if_neg (by omega), if_neg (by omega), if_neg (by omega), if_neg (by omega), if_neg (by omega), if_neg (by omega), if_neg (by omega)]
    simp
  have hlt := up (by omega : s + 1 < xs.length) (Nat.lt_succ_self s)
  by_cases q : i = s
  · subst q
    have hb : behW xs i = xs.getD (i + 1) 0 - xs.getD i 0 := by unfold behW; rw [if_pos (by omega)]
    rw [if_neg (by omega), if_pos rfl]
    by_cases hxi : x = xs.getD i 0
    · rw [if_pos hxi, if_pos hxi, if_pos hxi, hb, hxi]
      simp only [Int.zero_mul, Int.zero_add, Int.add_zero]
      rw [Int.mul_assoc, Int.mul_comm (xs.getD (i + 1) 0 - xs.getD i 0), ← Int.mul_assoc]
    · rw [if_neg hxi, if_neg hxi, if_neg (by omega), if_neg hxi, if_neg (by omega)]
      by_cases hy : x < xs.getD (i + 1) 0
      · rw [if_pos (by omega)]
        simp
      · rw [if_neg (by omega)]
        have : xs.getD (i + 1) 0 - x = 0 := by omega
        rw [this]
        simp
  · have q : i = s + 1 := by omega
    subst q
    have hb : befW xs (s + 1) = xs.getD (s + 1) 0 - xs.getD s 0 := by unfold befW; rw [if_pos (by omega)]; rfl
    rw [if_pos rfl, if_neg (by omega)]
    simp only [Nat.add_sub_cancel]
    by_cases hxi : x = xs.getD (s + 1) 0
    · rw [if_pos hxi, if_pos hxi, if_pos hxi, hb, hxi]
      simp
    · rw [if_neg hxi, if_neg hxi, if_neg hxi]
      by_cases hy : xs.getD s 0 < x
      · rw [if_pos (by omega), if_pos (by omega)]
        simp
      · rw [if_neg (by omega), if_neg (by omega), if_neg (by omega)]
        have : x - xs.getD s 0 = 0 := by omega
        rw [this]
        simp
theorem sum_ref {xs : List Int} {ls : List (Int × Int)} (hx : BarsOk xs) {i : Nat} (hi : i < xs.length) (hl : ∀ p ∈ ls, xs.getD 0 0 ≤ p.1 ∧ p.1 ≤ xs.getD (xs.length - 1) 0) : ∀ k, k ≤ ls.length →
    sumF (numA xs i) ls k = sumF (nO xs i) ls k * befW xs i * behW xs i + sumF (nL xs i) ls k * behW xs i + sumF (nR xs i) ls k * befW xs i
  | 0, _ => by simp [sumF]
  | k + 1, h => by
    have ih := sum_ref hx hi hl k (by omega)
    have := hl _ (List.getElem_mem (by omega : k < ls.length))
    rw [sumF_succ (by omega), sumF_succ (by omega), sumF_succ (by omega), sumF_succ (by omega), ih, numA_ref hx hi this.1 this.2]
    simp only [Int.add_mul]
    omega
theorem distr_num {xs : List Int} {ls : List (Int × Int)} (hx : BarsOk xs) (hl : ∀ p ∈ ls, (-20000 ≤ p.1 ∧ p.1 ≤ 20000) ∧ (-1000000 ≤ p.2 ∧ p.2 ≤ 1000000)) {i : Nat} (hi : i < xs.length) :
    distrAt xs (laid xs ls) i = lowF (sumF (numA xs i) ls ls.length) (befW xs i * behW xs i) := by
  have h := laid_num hx hl hi ls.length (Nat.le_refl _)
  unfold laidK at h
  rw [List.take_length] at h
  unfold distrAt
  rw [h]
theorem distr_ref {xs : List Int} {ls : List (Int × Int)} (hx : BarsOk xs) (hl : ∀ p ∈ ls, (xs.getD 0 0 ≤ p.1 ∧ p.1 ≤ xs.getD (xs.length - 1) 0) ∧ (-1000000 ≤ p.2 ∧ p.2 ≤ 1000000)) {i : Nat} (hi : i < xs.length) :
    distrAt xs (laid xs ls) i = lowF (sumF (nO xs i) ls ls.length * befW xs i * behW xs i + sumF (nL xs i) ls ls.length * behW xs i + sumF (nR xs i) ls ls.length * befW xs i) (befW xs i * behW xs i) := by
  rw [distr_num hx (fun p hp => ⟨by have := getD_bd hx 0; have := getD_bd hx (xs.length - 1); have := (hl p hp).1; omega, (hl p hp).2⟩) hi, sum_ref hx hi (fun p hp => (hl p hp).1) _ (Nat.le_refl _)]
theorem nO_bd {xs : List Int} {i : Nat} {p : Int × Int} (hw : -1000000 ≤ p.2 ∧ p.2 ≤ 1000000) : -1000000 ≤ nO xs i p ∧ nO xs i p ≤ 1000000 := by unfold nO; split <;> omega
theorem nL_bd {xs : List Int} (hx : BarsOk xs) {i : Nat} {p : Int × Int} (hp : -20000 ≤ p.1 ∧ p.1 ≤ 20000) (hw : -1000000 ≤ p.2 ∧ p.2 ≤ 1000000) : -40000000000 ≤ nL xs i p ∧ nL xs i p ≤ 40000000000 := by
  have := mulW hw (d := p.1 - xs.getD (i - 1) 0) (by have := getD_bd hx (i - 1); omega)
  unfold nL; split
  · omega
  · split <;> omega
theorem nR_bd {xs : List Int} (hx : BarsOk xs) {i : Nat} {p : Int × Int} (hp : -20000 ≤ p.1 ∧ p.1 ≤ 20000) (hw : -1000000 ≤ p.2 ∧ p.2 ≤ 1000000) : -40000000000 ≤ nR xs i p ∧ nR xs i p ≤ 40000000000 := by
  have := mulW hw (d := xs.getD (i + 1) 0 - p.1) (by have := getD_bd hx (i + 1); omega)
  unfold nR; split
  · omega
  · split
    · omega
    · split <;> omega
end Go.Proofs.Yteogokmbedmkjaa
