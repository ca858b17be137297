/- the law TopEnclosuresNest, over contracts -/
import Derived.Test.YtdkkhfkplpopdaaDoorK8
set_option linter.unusedSimpArgs false
set_option linter.unusedVariables false
namespace Go.Proofs.YtdkkhfkplpopdaaDoor
open Go.RowKit
attribute [local irreducible] WA WOs WDs WAn qThen qBlock tput
set_option maxHeartbeats 1000000
set_option maxRecDepth 20000
set_option linter.unusedSimpArgs false
set_option linter.unusedVariables false

theorem nest_out (a b c d m n : Int) (hout : ¬ (isNear a b c d ∧ (1 ≤ m ∧ m ≤ 30000) ∧ 1 ≤ n ∧ n ≤ 30000)) (M : Mem) : Gives Tryd.prog 3 [ptV a b c d, .int .i64 m, .int .i64 n] M (.bool true) := by
  refine Gives_in Tryd.func3 rfl Tryd.ntmps3 Tryd.results3 (by kernel_rfl) (by simp) rfl fun Q hQ => ?_
  (repeat' (first | (refine sx ?_ ?_ <;> intro h <;> first | (exfalso; omega) | skip) | (refine g_op ?_; refine g_call ?_; refine g_args ?_; (first | refine s_fn (tcounts_c _) ?_ | refine s_fn (tnear_c _ _ _ _ _) ?_ | refine s_fn (bwithin_c _ _ _ _) ?_) <;> try first | omega | assumption) | refine ny ?_ | refine WA_block ?_))
  all_goals (try (exfalso; first | omega | exact hout ⟨by assumption, by assumption, by assumption⟩))
  all_goals (refine r_es hQ ?_; try with_reducible rfl)
theorem nk {w u v : Int} {lo hi : Nat} (k : w = 0 ∧ u = lo ∧ v = hi ∧ (hi : Int) ≤ 1000000000000000 ∨ w = 8 ∧ u = 0 ∧ v = 0 ∧ (1000000000000000 : Int) < hi) (h : w = 0) : u = lo ∧ v = hi ∧ hi ≤ 1000000000000000 := by
  rcases k with ⟨_, h1, h2, h3⟩ | ⟨h1, _⟩
  · exact ⟨h1, h2, by omega⟩
  · omega
theorem nk8 {w u v : Int} {lo hi : Nat} (k : w = 0 ∧ u = lo ∧ v = hi ∧ (hi : Int) ≤ 1000000000000000 ∨ w = 8 ∧ u = 0 ∧ v = 0 ∧ (1000000000000000 : Int) < hi) (h : hi ≤ 1000000000000000) : w = 0 := by
  rcases k with ⟨h1, _⟩ | ⟨_, _, _, h3⟩
  · exact h1
  · omega
theorem nk9 {w u v : Int} {lo hi : Nat} (k : w = 0 ∧ u = lo ∧ v = hi ∧ (hi : Int) ≤ 1000000000000000 ∨ w = 8 ∧ u = 0 ∧ v = 0 ∧ (1000000000000000 : Int) < hi) (o : hi = lo ∨ hi = lo + 1) : (w = 0 ∨ w = 8) ∧ rgE u v = 0 ∧ (-1000000000000000 ≤ u ∧ u ≤ 1000000000000000) ∧ (-1000000000000000 ≤ v ∧ v ≤ 1000000000000000) := by
  have := rgE_0 (lo := u) (hi := v)
  rcases k with ⟨h1, h2, h3, h4⟩ | ⟨h1, h2, h3, h4⟩
  · exact ⟨.inl h1, this.2 (by omega), by omega, by omega⟩
  · exact ⟨.inr h1, this.2 (by omega), by omega, by omega⟩
theorem nest_law (a b c d m n : Int) (M : Mem) : Gives Tryd.prog 3 [ptV a b c d, .int .i64 m, .int .i64 n] M (.bool true) := by
  by_cases h : isNear a b c d ∧ (1 ≤ m ∧ m ≤ 30000) ∧ 1 ≤ n ∧ n ≤ 30000
  · obtain ⟨hnear, ⟨hm1, hm2⟩, hn1, hn2⟩ := h
    obtain ⟨p, rfl⟩ := Int.eq_ofNat_of_zero_le (show 0 ≤ m by omega)
    obtain ⟨q, rfl⟩ := Int.eq_ofNat_of_zero_le (show 0 ≤ n by omega)
    have hp1 : 1 ≤ p := by omega
    have hq1 : 1 ≤ q := by omega
    have hpt : isPt a b c d := by unfold isNear at hnear; unfold isPt; omega
    obtain ⟨D, num, den, hD, hd, hen⟩ := nenclose_c a b c d hpt
    obtain ⟨l1, h1⟩ := lo_has D num den p hD
    obtain ⟨l2, h2⟩ := lo_has D num den q hD
    obtain ⟨l3, h3⟩ := lo_has D num den (p * q) hD
    obtain ⟨l4, h4⟩ := lo_has D num den (p + q) hD
    have hpq : 1 ≤ p * q := Nat.mul_pos hp1 hq1
    have hpq2 : p * q ≤ 900000000 := by
      have : p * q ≤ 30000 * 30000 := Nat.mul_le_mul (by omega) (by omega)
      omega
    have le1 : p ≤ p * q := Nat.le_mul_of_pos_right p hq1
    have le2 : q ≤ p * q := Nat.le_mul_of_pos_left q hp1
    obtain ⟨u1, v1, w1, g1, k1⟩ := nenc_w a b c d p l1 _ hi_or (hen p hp1 (by omega) l1 h1)
    obtain ⟨u2, v2, w2, g2, k2⟩ := nenc_w a b c d q l2 _ hi_or (hen q hq1 (by omega) l2 h2)
    obtain ⟨u3, v3, w3, g3, k3⟩ := nenc_w a b c d (p * q) l3 _ hi_or (hen (p * q) hpq (by omega) l3 h3)
    obtain ⟨u4, v4, w4, g4, k4⟩ := nenc_w a b c d (p + q) l4 _ hi_or (hen (p + q) (by omega) (by omega) l4 h4)
    rw [Int.natCast_mul] at g3
    rw [Int.natCast_add] at g4
    have o1 := hi_or (D := D) (num := num) (den := den) (t := p) (lo := l1)
    have o2 := hi_or (D := D) (num := num) (den := den) (t := q) (lo := l2)
    have o3 := hi_or (D := D) (num := num) (den := den) (t := p * q) (lo := l3)
    have o4 := hi_or (D := D) (num := num) (den := den) (t := p + q) (lo := l4)
    have t1 := h1.1
    have t2 := h2.1
    have c1 : l3 < 1000000000000001 → l1 * q ≤ l3 := fun h => nest_lo hp1 h1 h3 h
    have c2 : l1 < 1000000000000001 → hiOf D num den (p * q) l3 ≤ hiOf D num den p l1 * q := fun h => nest_hi hD hd hp1 hq1 h1 h3 h
    have c3 : l3 < 1000000000000001 → hiOf D num den p l1 ≤ hiOf D num den (p * q) l3 := fun h => more_hi hD hd le1 h1 h3 h
    have c4 : l3 < 1000000000000001 → hiOf D num den q l2 ≤ hiOf D num den (p * q) l3 := fun h => more_hi hD hd le2 h2 h3 h
    have c5 : l4 < 1000000000000001 → l1 + l2 ≤ l4 := fun h => sum_lo hp1 hq1 h1 h2 h4 h
    have c6 : l1 < 1000000000000001 → l2 < 1000000000000001 → hiOf D num den (p + q) l4 ≤ hiOf D num den p l1 + hiOf D num den q l2 := fun a1 a2 => sum_hi hD hd hp1 hq1 h1 h2 h4 a1 a2
    have o5 : hiOf D num den p l1 * q = l1 * q ∨ hiOf D num den p l1 * q = l1 * q + q := by
      rcases o1 with o | o
      · exact .inl (by rw [o])
      · exact .inr (by rw [o, Nat.add_mul, Nat.one_mul])
    clear hen h1 h2 h3 h4
    generalize hiOf D num den p l1 = i1 at *
    generalize hiOf D num den q l2 = i2 at *
    generalize hiOf D num den (p * q) l3 = i3 at *
    generalize hiOf D num den (p + q) l4 = i4 at *
    obtain ⟨x1, r1, y1⟩ := nk9 k1 o1
    obtain ⟨x2, r2, y2⟩ := nk9 k2 o2
    obtain ⟨x3, _, _⟩ := nk9 k3 o3
    obtain ⟨x4, _, _⟩ := nk9 k4 o4
    have hmn : (0 : Int) ≤ (p : Int) * q ∧ (p : Int) * q ≤ 900000000 := by
      rw [← Int.natCast_mul]
      clear c1 c2 c3 c4 c5 c6 k1 k2 k3 k4 o1 o2 o3 o4 o5 x1 x2 x3 x4
      omega
    have key : w3 = 0 → w4 = 0 → (w1 = 0 ∧ w2 = 0) ∧ (u1 * (q : Int) = ((l1 * q : Nat) : Int) ∧ v1 * (q : Int) = ((i1 * q : Nat) : Int)) ∧ (u1 * (q : Int) ≤ u3 ∧ v3 ≤ v1 * (q : Int) ∧ u1 + u2 ≤ u4 ∧ v4 ≤ v1 + v2) ∧ (u3 ≤ 1000000000000000) := fun a3 a4 => by
      obtain ⟨e3, f3, m3⟩ := nk k3 a3
      obtain ⟨e4, f4, m4⟩ := nk k4 a4
      have l3t : l3 < 1000000000000001 := by clear c1 c2 c3 c4 c5 c6 k1 k2 k3 k4 o1 o2 o4 o5; omega
      have l4t : l4 < 1000000000000001 := by clear c1 c2 c3 c4 c5 c6 k1 k2 k3 k4 o1 o2 o3 o5; omega
      have c3 := c3 l3t
      have c4 := c4 l3t
      have a1 := nk8 k1 (Nat.le_trans c3 m3)
      have a2 := nk8 k2 (Nat.le_trans c4 m3)
      obtain ⟨e1, f1, m1⟩ := nk k1 a1
      obtain ⟨e2, f2, m2⟩ := nk k2 a2
      have l1t : l1 < 1000000000000001 := by clear c1 c2 c3 c4 c5 c6 k1 k2 k3 k4 o2 o3 o4 o5; omega
      have l2t : l2 < 1000000000000001 := by clear c1 c2 c3 c4 c5 c6 k1 k2 k3 k4 o1 o3 o4 o5; omega
      have c1 := c1 l3t
      have c2 := c2 l1t
      have c5 := c5 l4t
      have c6 := c6 l1t l2t
      subst e1 f1 e2 f2 e3 f3 e4 f4
      rw [Int.natCast_mul, Int.natCast_mul]
      refine ⟨⟨a1, a2⟩, ⟨rfl, rfl⟩, ⟨?_, ?_, ?_, ?_⟩, ?_⟩
      · rw [← Int.natCast_mul]; exact Int.ofNat_le.2 c1
      · rw [← Int.natCast_mul]; exact Int.ofNat_le.2 c2
      · rw [← Int.natCast_add]; exact Int.ofNat_le.2 c5
      · rw [← Int.natCast_add]; exact Int.ofNat_le.2 c6
      · clear c1 c2 c3 c4 c5 c6 k1 k2 k3 k4 o1 o2 o4 o5; omega
    have hfb : w3 = 0 → w4 = 0 → (0 ≤ u1 * (q : Int) ∧ u1 * (q : Int) ≤ 1000000000000000) ∧ (0 ≤ v1 * (q : Int) ∧ v1 * (q : Int) ≤ 2000000000000000) := fun a3 a4 => by
      obtain ⟨_, ⟨g1, g2⟩, ⟨g3, _⟩, g4⟩ := key a3 a4
      rw [g1, g2]
      rw [g1] at g3
      clear key c1 c2 c3 c4 c5 c6 k1 k2 k3 k4 o1 o2 o3 o4 x1 x2 x3 x4
      omega
    clear c1 c2 c3 c4 c5 c6 k1 k2 k3 k4 o1 o2 o3 o4 o5 hpq hpq2 le1 le2 t1 t2
    by_cases hr : rgE (u1 + u2) (v1 + v2) = 0
    · exact nest_w a b c d p q ⟨hm1, hm2⟩ ⟨hn1, hn2⟩ hmn hnear u1 v1 w1 u2 v2 w2 u3 v3 w3 u4 v4 w4 g1 g2 g3 g4 (u1 + u2) (v1 + v2) 0 (fun M => nplus_ok u1 v1 u2 v2 r1 r2 hr M) y1 hfb (fun a3 a4 => ⟨(key a3 a4).1, .inl rfl, fun _ => (key a3 a4).2.2.1⟩) ⟨x3, x4⟩ M
    · exact nest_w a b c d p q ⟨hm1, hm2⟩ ⟨hn1, hn2⟩ hmn hnear u1 v1 w1 u2 v2 w2 u3 v3 w3 u4 v4 w4 g1 g2 g3 g4 0 0 8 (fun M => nplus_bad u1 v1 u2 v2 r1 r2 hr M) y1 hfb (fun a3 a4 => ⟨(key a3 a4).1, .inr rfl, fun h => by cases h⟩) ⟨x3, x4⟩ M
  · exact nest_out a b c d m n h M
end Go.Proofs.YtdkkhfkplpopdaaDoor
