/- the lever rule balances: plain words -/
import Derived.Test.YteogokmbedmkjaaP2
namespace Go.Proofs.Yteogokmbedmkjaa
/-- two or three bars, not far apart -/
structure LevOk (xs : List Int) (ls : List (Int × Int)) : Prop where
  bars : BarsOk xs
  n : xs.length = 2 ∨ xs.length = 3
  near : xs.getD (xs.length - 1) 0 - xs.getD 0 0 ≤ 2000
  few : ls.length ≤ 12
  ok : ∀ p ∈ ls, (xs.getD 0 0 ≤ p.1 ∧ p.1 ≤ xs.getD (xs.length - 1) 0) ∧ (-1000000 ≤ p.2 ∧ p.2 ≤ 1000000)
def lvU (xs : List Int) : Int := if xs.length = 3 then (xs.getD 1 0 - xs.getD 0 0) * (xs.getD 2 0 - xs.getD 1 0) else xs.getD 1 0 - xs.getD 0 0
def lvC (xs : List Int) (i : Nat) : Int := if xs.length = 3 then (if i = 0 then xs.getD 2 0 - xs.getD 1 0 else if i = 1 then 1 else xs.getD 1 0 - xs.getD 0 0) else 1
theorem lv_ways {xs : List Int} {ls : List (Int × Int)} (h : LevOk xs ls) : (1 ≤ xs.getD 1 0 - xs.getD 0 0 ∧ xs.getD 1 0 - xs.getD 0 0 ≤ 2000) ∧ (xs.length = 3 → 1 ≤ xs.getD 2 0 - xs.getD 1 0 ∧ xs.getD 2 0 - xs.getD 1 0 ≤ 2000) := by
  have h2 := h.bars.two
  have hn := h.n
  have h3 := h.near
  have a := getD_up h.bars (i := 0) (j := 1) (by omega) (by omega)
  rcases h.n with e | e
  · rw [e] at h3
    simp only [Nat.add_one_sub_one, Nat.reduceSub] at h3
    exact ⟨by omega, fun h => by omega⟩
  · have b := getD_up h.bars (i := 1) (j := 2) (by omega) (by omega)
    rw [e] at h3
    simp only [Nat.reduceSub] at h3
    exact ⟨by omega, fun _ => by omega⟩
theorem mulU {a b : Int} (h1 : 1 ≤ a ∧ a ≤ 2000) (h2 : 1 ≤ b ∧ b ≤ 2000) : 1 ≤ a * b ∧ a * b ≤ 4000000 := by
  have e : (a * b).natAbs = a.natAbs * b.natAbs := Int.natAbs_mul a b
  have h3 : a.natAbs * b.natAbs ≤ 2000 * 2000 := Nat.mul_le_mul (by omega) (by omega)
  have h4 : 1 * 1 ≤ a.natAbs * b.natAbs := Nat.mul_le_mul (by omega) (by omega)
  have h5 : 0 ≤ a * b := Int.mul_nonneg (by omega) (by omega)
  omega
theorem lvU_bd {xs : List Int} {ls : List (Int × Int)} (h : LevOk xs ls) : 1 ≤ lvU xs ∧ lvU xs ≤ 4000000 := by
  obtain ⟨h1, h2⟩ := lv_ways h
  unfold lvU
  split
  · exact mulU h1 (h2 (by assumption))
  · omega
theorem lvC_bd {xs : List Int} {ls : List (Int × Int)} (h : LevOk xs ls) (i : Nat) : 1 ≤ lvC xs i ∧ lvC xs i ≤ 2000 := by
  obtain ⟨h1, h2⟩ := lv_ways h
  unfold lvC
  split
  · have := h2 (by assumption)
    split
    · omega
    · split <;> omega
  · omega
theorem lv_den {xs : List Int} {ls : List (Int × Int)} (h : LevOk xs ls) {i : Nat} (hi : i < xs.length) : befW xs i * behW xs i * lvC xs i = lvU xs := by
  unfold befW behW lvC lvU
  rcases h.n with e | e
  · rw [if_neg (by omega : ¬ xs.length = 3), if_neg (by omega : ¬ xs.length = 3)]
    have : i = 0 ∨ i = 1 := by omega
    rcases this with rfl | rfl
    · rw [if_neg (by omega), if_pos (by omega)]; simp
    · rw [if_pos (by omega), if_neg (by omega)]; simp
  · rw [if_pos e, if_pos e]
    have : i = 0 ∨ i = 1 ∨ i = 2 := by omega
    rcases this with rfl | rfl | rfl
    · rw [if_neg (by omega), if_pos (by omega), if_pos rfl]; simp
    · rw [if_pos (by omega), if_pos (by omega), if_neg (by omega), if_pos rfl]; simp
    · rw [if_pos (by omega), if_neg (by omega), if_neg (by omega), if_neg (by omega)]
      simp only [Int.mul_one]
      rw [Int.mul_comm]
/-- a load weighs at most its own weight on a bar -/
theorem numA_bd {xs : List Int} {ls : List (Int × Int)} (h : LevOk xs ls) {i : Nat} (hi : i < xs.length) {p : Int × Int} (hp : p ∈ ls) : -(1000000 * (befW xs i * behW xs i)) ≤ numA xs i p ∧ numA xs i p ≤ 1000000 * (befW xs i * behW xs i) := by
  obtain ⟨⟨p1, p2⟩, w1, w2⟩ := h.ok p hp
  obtain ⟨s1, s2, s3⟩ := seg_spec h.bars p1 p2
  have c1 := bef_bd h.bars hi
  have c2 := beh_bd h.bars hi
  have cc := mulDen c1 c2
  unfold numA
  generalize seg xs p.1 = s at s1 s2 s3
  have key : ∀ {w d k : Int}, -1000000 ≤ w → w ≤ 1000000 → 0 ≤ d → 0 ≤ k → -(1000000 * (d * k)) ≤ w * d * k ∧ w * d * k ≤ 1000000 * (d * k) := by
    intro w d k a1 a2 a3 a4
    have a5 : 0 ≤ d * k := Int.mul_nonneg a3 a4
    rw [Int.mul_assoc]
    have b1 := Int.mul_le_mul_of_nonneg_right a2 a5
    have b2 := Int.mul_le_mul_of_nonneg_right a1 a5
    omega
  have mono : ∀ {x y k : Int}, 0 ≤ x → x ≤ y → 0 ≤ k → x * k ≤ y * k := fun _ h2 h3 => Int.mul_le_mul_of_nonneg_right h2 h3
  by_cases q1 : i = s + 1
  · rw [if_pos q1, if_neg (by omega)]
    have hb : befW xs i = xs.getD (s + 1) 0 - xs.getD s 0 := by subst q1; unfold befW; rw [if_pos (by omega)]; rfl
    have k1 := key (w := p.2) (d := p.1 - xs.getD s 0) (k := behW xs i) w1 w2 (by omega) (by omega)
    have k2 := mono (x := p.1 - xs.getD s 0) (y := befW xs i) (k := behW xs i) (by omega) (by omega) (by omega)
    simp only [Int.zero_mul, Int.add_zero]
    omega
  · rw [if_neg q1]
    by_cases q2 : i = s
    · rw [if_pos q2]
      have hb : behW xs i = xs.getD (s + 1) 0 - xs.getD s 0 := by subst q2; unfold behW; rw [if_pos (by omega)]
      have k1 := key (w := p.2) (d := xs.getD (s + 1) 0 - p.1) (k := befW xs i) w1 w2 (by omega) (by omega)
      have k2 := mono (x := xs.getD (s + 1) 0 - p.1) (y := behW xs i) (k := befW xs i) (by omega) (by omega) (by omega)
      rw [Int.mul_comm (befW xs i)]
      simp only [Int.zero_mul, Int.zero_add]
      omega
    · rw [if_neg q2]
      simp only [Int.zero_mul, Int.zero_add]
      omega
theorem load_two {xs : List Int} {ls : List (Int × Int)} (h : LevOk xs ls) (e : xs.length = 2) {p : Int × Int} (hp : p ∈ ls) :
    numA xs 0 p * lvC xs 0 + numA xs 1 p * lvC xs 1 = p.2 * lvU xs ∧ numA xs 1 p * lvC xs 1 * (xs.getD 1 0 - xs.getD 0 0) = p.2 * (p.1 - xs.getD 0 0) * lvU xs ∧ numA xs 0 p = p.2 * (xs.getD 1 0 - p.1) ∧ numA xs 1 p = p.2 * (p.1 - xs.getD 0 0) := by
  obtain ⟨⟨p1, p2⟩, w1, w2⟩ := h.ok p hp
  obtain ⟨s1, s2, s3⟩ := seg_spec h.bars p1 p2
  have hs : seg xs p.1 = 0 := by omega
  have n0 : numA xs 0 p = p.2 * (xs.getD 1 0 - p.1) := by
    unfold numA befW; rw [hs, if_neg (by omega), if_pos rfl, if_neg (by omega)]; simp
  have n1 : numA xs 1 p = p.2 * (p.1 - xs.getD 0 0) := by
    unfold numA behW; rw [hs, if_pos rfl, if_neg (by omega), if_neg (by omega)]; simp
  have c0 : lvC xs 0 = 1 := by unfold lvC; rw [if_neg (by omega)]
  have c1 : lvC xs 1 = 1 := by unfold lvC; rw [if_neg (by omega)]
  have u : lvU xs = xs.getD 1 0 - xs.getD 0 0 := by unfold lvU; rw [if_neg (by omega)]
  rw [n0, n1, c0, c1, u]
  refine ⟨?_, ?_, rfl, rfl⟩
  · generalize xs.getD 0 0 = x0; generalize xs.getD 1 0 = x1; grind
  · generalize xs.getD 0 0 = x0; generalize xs.getD 1 0 = x1; grind
theorem load_three {xs : List Int} {ls : List (Int × Int)} (h : LevOk xs ls) (e : xs.length = 3) {p : Int × Int} (hp : p ∈ ls) :
    numA xs 0 p * lvC xs 0 + numA xs 1 p * lvC xs 1 + numA xs 2 p * lvC xs 2 = p.2 * lvU xs ∧ numA xs 1 p * lvC xs 1 * (xs.getD 1 0 - xs.getD 0 0) + numA xs 2 p * lvC xs 2 * (xs.getD 2 0 - xs.getD 0 0) = p.2 * (p.1 - xs.getD 0 0) * lvU xs := by
  obtain ⟨⟨p1, p2⟩, w1, w2⟩ := h.ok p hp
  obtain ⟨s1, s2, s3⟩ := seg_spec h.bars p1 p2
  have c0 : lvC xs 0 = xs.getD 2 0 - xs.getD 1 0 := by unfold lvC; rw [if_pos e, if_pos rfl]
  have c1 : lvC xs 1 = 1 := by unfold lvC; rw [if_pos e, if_neg (by omega), if_pos rfl]
  have c2 : lvC xs 2 = xs.getD 1 0 - xs.getD 0 0 := by unfold lvC; rw [if_pos e, if_neg (by omega), if_neg (by omega)]
  have u : lvU xs = (xs.getD 1 0 - xs.getD 0 0) * (xs.getD 2 0 - xs.getD 1 0) := by unfold lvU; rw [if_pos e]
  have hs : seg xs p.1 = 0 ∨ seg xs p.1 = 1 := by omega
  rcases hs with hs | hs
  · have n0 : numA xs 0 p = p.2 * (xs.getD 1 0 - p.1) := by
      unfold numA befW; rw [hs, if_neg (by omega), if_pos rfl, if_neg (by omega)]; simp
    have n1 : numA xs 1 p = p.2 * (p.1 - xs.getD 0 0) * (xs.getD 2 0 - xs.getD 1 0) := by
      unfold numA behW; rw [hs, if_pos rfl, if_pos (by omega), if_neg (by omega)]; simp
    have n2 : numA xs 2 p = 0 := by
      unfold numA; rw [hs, if_neg (by omega), if_neg (by omega)]; simp
    rw [n0, n1, n2, c0, c1, c2, u]
    generalize xs.getD 0 0 = x0
    generalize xs.getD 1 0 = x1
    generalize xs.getD 2 0 = x2
    constructor <;> grind
  · have n0 : numA xs 0 p = 0 := by
      unfold numA; rw [hs, if_neg (by omega), if_neg (by omega)]; simp
    have n1 : numA xs 1 p = p.2 * (xs.getD 2 0 - p.1) * (xs.getD 1 0 - xs.getD 0 0) := by
      unfold numA befW; rw [hs, if_neg (by omega), if_pos rfl, if_pos (by omega)]; simp
    have n2 : numA xs 2 p = p.2 * (p.1 - xs.getD 1 0) := by
      unfold numA behW; rw [hs, if_pos rfl, if_neg (by omega), if_neg (by omega)]; simp
    rw [n0, n1, n2, c0, c1, c2, u]
    generalize xs.getD 0 0 = x0
    generalize xs.getD 1 0 = x1
    generalize xs.getD 2 0 = x2
    constructor <;> grind
/-- what the first i bars bear, and its moment -/
def lvS (xs : List Int) (ls : List (Int × Int)) : Nat → Int
  | 0 => 0
  | i + 1 => lvS xs ls i + sumF (numA xs i) ls ls.length * lvC xs i
def lvM (xs : List Int) (ls : List (Int × Int)) : Nat → Int
  | 0 => 0
  | i + 1 => lvM xs ls i + sumF (numA xs i) ls ls.length * lvC xs i * (xs.getD i 0 - xs.getD 0 0)
def wtF (p : Int × Int) : Int := p.2
def moF (x0 : Int) (p : Int × Int) : Int := p.2 * (p.1 - x0)
theorem lin2 {f0 f1 g : Int × Int → Int} {c0 c1 U : Int} {ls : List (Int × Int)} (h : ∀ p ∈ ls, f0 p * c0 + f1 p * c1 = g p * U) : ∀ k, k ≤ ls.length → sumF f0 ls k * c0 + sumF f1 ls k * c1 = sumF g ls k * U
  | 0, _ => by simp [sumF]
  | k + 1, hk => by
    have ih := lin2 h k (by omega)
    have := h _ (List.getElem_mem (by omega : k < ls.length))
    rw [sumF_succ (by omega), sumF_succ (by omega), sumF_succ (by omega), Int.add_mul, Int.add_mul, Int.add_mul]
    omega
theorem lin3 {f0 f1 f2 g : Int × Int → Int} {c0 c1 c2 U : Int} {ls : List (Int × Int)} (h : ∀ p ∈ ls, f0 p * c0 + f1 p * c1 + f2 p * c2 = g p * U) : ∀ k, k ≤ ls.length → sumF f0 ls k * c0 + sumF f1 ls k * c1 + sumF f2 ls k * c2 = sumF g ls k * U
  | 0, _ => by simp [sumF]
  | k + 1, hk => by
    have ih := lin3 h k (by omega)
    have := h _ (List.getElem_mem (by omega : k < ls.length))
    rw [sumF_succ (by omega), sumF_succ (by omega), sumF_succ (by omega), sumF_succ (by omega), Int.add_mul, Int.add_mul, Int.add_mul, Int.add_mul]
    omega
theorem lv_sum {xs : List Int} {ls : List (Int × Int)} (h : LevOk xs ls) : lvS xs ls xs.length = sumF wtF ls ls.length * lvU xs ∧ lvM xs ls xs.length = sumF (moF (xs.getD 0 0)) ls ls.length * lvU xs := by
  rcases h.n with e | e
  · have a := lin2 (f0 := numA xs 0) (f1 := numA xs 1) (g := wtF) (ls := ls) (fun p hp => (load_two h e hp).1) ls.length (Nat.le_refl _)
    have b := lin2 (f0 := fun _ => 0) (f1 := numA xs 1) (c0 := 0) (c1 := lvC xs 1 * (xs.getD 1 0 - xs.getD 0 0)) (g := moF (xs.getD 0 0)) (U := lvU xs) (ls := ls) (fun p hp => by rw [← Int.mul_assoc, (load_two h e hp).2.1]; simp [moF]) ls.length (Nat.le_refl _)
    rw [e]
    simp only [lvS, lvM, Int.sub_self, Int.mul_zero, Int.zero_add, Int.mul_assoc] at *
    exact ⟨a, b⟩
  · have a := lin3 (f0 := numA xs 0) (f1 := numA xs 1) (f2 := numA xs 2) (g := wtF) (ls := ls) (fun p hp => (load_three h e hp).1) ls.length (Nat.le_refl _)
    have b := lin2 (f0 := numA xs 1) (f1 := numA xs 2) (c0 := lvC xs 1 * (xs.getD 1 0 - xs.getD 0 0)) (c1 := lvC xs 2 * (xs.getD 2 0 - xs.getD 0 0)) (g := moF (xs.getD 0 0)) (U := lvU xs) (ls := ls) (fun p hp => by rw [← Int.mul_assoc, ← Int.mul_assoc, (load_three h e hp).2]; rfl) ls.length (Nat.le_refl _)
    rw [e]
    simp only [lvS, lvM, Int.sub_self, Int.mul_zero, Int.zero_add, Int.mul_assoc] at *
    exact ⟨a, b⟩
theorem sumF_rev {f : Int × Int → Int} (ls : List (Int × Int)) : sumF f ls.reverse ls.reverse.length = sumF f ls ls.length := by
  unfold sumF
  rw [List.take_length, List.take_length, List.map_reverse, List.sum_reverse]
end Go.Proofs.Yteogokmbedmkjaa
