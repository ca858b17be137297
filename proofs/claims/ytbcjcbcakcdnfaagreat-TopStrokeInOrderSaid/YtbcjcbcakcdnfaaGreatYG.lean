import Derived.Test.YtbcjcbcakcdnfaaGreatC26
import Derived.Test.YtbcjcbcakcdnfaaGreatYE
import Derived.Laws.MathBits
import Derived.Test.YtbcjcbcakcdnfaaGreatC35
set_option linter.unusedSimpArgs false
set_option linter.unusedVariables false
/- contracts: gaps of events -/
namespace Go.Proofs.YtbcjcbcakcdnfaaGreat
open Go.RowKit
attribute [local irreducible] WA WOs WDs WAn qThen qBlock tput
set_option maxHeartbeats 1000000
set_option maxRecDepth 20000
set_option linter.unusedSimpArgs false
set_option linter.unusedVariables false
theorem sm_up {q : Rat} (h : sm q) : q.num ≤ 1000000000 ∧ (q.den : Int) ≤ 1000000000 := ⟨h.2.1, h.2.2⟩
attribute [local irreducible] smB cut sm
theorem shr32 {m : Mem} {z : Int} (h : 0 ≤ z) : evB Tryz.prog m .shr 133 (.int .u64 z) (.int .u64 32) = some (True, .int .u64 (z / 4294967296), m) := by
  have e : z.fdiv (2 ^ (min (32 : Int).toNat IntKind.u64.bits)) = z / 4294967296 := by
    rw [Int.fdiv_eq_ediv_of_nonneg z (by decide)]
    rfl
  have q : evEq Tryz.prog .shr 133 (.int .u64 z) (.int .u64 32) = none := rfl
  unfold evB
  rw [q]
  simp only [evBin, e]
  simp
theorem and32 {z : Int} (h0 : 0 ≤ z) (h1 : z < 18446744073709551616) : bits .and .u64 z 4294967295 = z % 4294967296 := and_low32 z h0 h1
theorem mul_hi (x1 x0 y1 y0 : Int) (b1 : 0 ≤ x1 ∧ x1 ≤ 4294967295) (b2 : 0 ≤ x0 ∧ x0 ≤ 4294967295) (b3 : 0 ≤ y1 ∧ y1 ≤ 4294967295) (b4 : 0 ≤ y0 ∧ y0 ≤ 4294967295) : x1 * y1 + (x1 * y0 + x0 * y0 / 4294967296) / 4294967296 + ((x1 * y0 + x0 * y0 / 4294967296) % 4294967296 + x0 * y1) / 4294967296 = (x1 * 4294967296 + x0) * (y1 * 4294967296 + y0) / 18446744073709551616 := by
  have pA := prod_bound x1 y1 b1.1 b1.2 b3.1 b3.2
  have pB := prod_bound x1 y0 b1.1 b1.2 b4.1 b4.2
  have pC := prod_bound x0 y0 b2.1 b2.2 b4.1 b4.2
  have pD := prod_bound x0 y1 b2.1 b2.2 b3.1 b3.2
  rw [split_mul]
  generalize x1 * y1 = A at *
  generalize x1 * y0 = B at *
  generalize x0 * y0 = C at *
  generalize x0 * y1 = D at *
  omega

theorem mmul64_c (x y : Int) (hx0 : 0 ≤ x) (hx : x < 18446744073709551616) (hy0 : 0 ≤ y) (hy : y < 18446744073709551616) (m : Mem) : Gives Tryz.prog 93 [.int .u64 x, .int .u64 y] m (.tup [.int .u64 (x * y / 18446744073709551616), .int .u64 (x * y % 18446744073709551616)]) := by
  have hsh := fun (m : Mem) (z : Int) h => shr32 (m := m) (z := z) h
  have han := fun (z : Int) h0 h1 => and32 (z := z) h0 h1
  have b1 : 0 ≤ x / 4294967296 ∧ x / 4294967296 ≤ 4294967295 := by omega
  have b2 : 0 ≤ x % 4294967296 ∧ x % 4294967296 ≤ 4294967295 := by omega
  have b3 : 0 ≤ y / 4294967296 ∧ y / 4294967296 ≤ 4294967295 := by omega
  have b4 : 0 ≤ y % 4294967296 ∧ y % 4294967296 ≤ 4294967295 := by omega
  have pA := prod_bound _ _ b1.1 b1.2 b3.1 b3.2
  have pB := prod_bound _ _ b1.1 b1.2 b4.1 b4.2
  have pC := prod_bound _ _ b2.1 b2.2 b4.1 b4.2
  have pD := prod_bound _ _ b2.1 b2.2 b3.1 b3.2
  refine Gives_in Tryz.func93 rfl Tryz.ntmps93 Tryz.results93 (by kernel_rfl) (by simp) rfl fun Q hQ => ?_
  (have FX := And.intro hsh han; repeat' (first | (refine sx ?_ ?_ <;> intro h <;> first | (exfalso; omega) | skip) | refine ny ?_ | refine WA_block ?_))
  all_goals (refine r_es hQ ?_; try with_reducible rfl)
  have e := mul_hi _ _ _ _ b1 b2 b3 b4
  have ex : x / 4294967296 * 4294967296 + x % 4294967296 = x := by omega
  have ey : y / 4294967296 * 4294967296 + y % 4294967296 = y := by omega
  rw [ex, ey] at e
  rw [← e, IntKind.wrap_u64]

theorem atoonear_c (p q : Rat) (g : Int) (hp : sm p) (hq : sm q) (hp0 : 0 ≤ p) (hq0 : 0 ≤ q) (hg : 0 ≤ g ∧ g ≤ 2000) (m : Mem) : Gives Tryz.prog 60 [.agg [.int .i64 (Rat.num (p)), .int .i64 ((Rat.den (p) : Nat) : Int)], .agg [.int .i64 (Rat.num (q)), .int .i64 ((Rat.den (q) : Nat) : Int)], .int .i64 g] m (.bool (tn p q g)) := by
  have n1 := Rat.num_nonneg.2 hp0
  have n2 := Rat.num_nonneg.2 hq0
  have d1 := den_pos' p
  have d2 := den_pos' q
  have s1 := sm_up hp
  have s2 := sm_up hq
  have hm : 0 ≤ g * (q.den : Int) ∧ g * (q.den : Int) ≤ 2000000000000 := by
    have a1 : 0 ≤ g * (q.den : Int) := Int.mul_nonneg hg.1 (by omega)
    have a2 : g * (q.den : Int) ≤ 2000 * 1000000000 := Int.mul_le_mul hg.2 s2.2 (by omega) (by omega)
    omega
  have h1 := fun m => mmul64_c p.num (q.den : Int) n1 (by omega) (by omega) (by omega) m
  have h2 := fun m => mmul64_c (q.num + g * (q.den : Int)) (p.den : Int) (by omega) (by omega) (by omega) (by omega) m
  have hne : p.num * (q.den : Int) < (q.num + g * (q.den : Int)) * (p.den : Int) ↔ tn p q g = true := by
    rw [near_iff]
    unfold tn
    exact decide_eq_true_iff.symm
  generalize tn p q g = b at *
  generalize p.num * (q.den : Int) = X at *
  generalize (q.num + g * (q.den : Int)) * (p.den : Int) = Y at *
  refine Gives_in Tryz.func60 rfl Tryz.ntmps60 Tryz.results60 (by kernel_rfl) (by simp) rfl fun Q hQ => ?_
  (have FX := hm; repeat' (first | (refine sx ?_ ?_ <;> intro h <;> first | (exfalso; omega) | skip) | (refine g_op ?_; refine g_call ?_; refine g_args ?_; (first | refine s_fn (h1 _) ?_ | refine s_fn (h2 _) ?_) <;> try first | omega | assumption) | refine ny ?_ | refine WA_block ?_))
  all_goals (try (exfalso; omega))
  all_goals ((refine r_es hQ ?_; try with_reducible rfl))
  all_goals first
    | exact congrArg V.bool (hne.1 (by omega)).symm
    | (cases b with
       | false => rfl
       | true => exact absurd (hne.2 rfl) (by omega))
end Go.Proofs.YtbcjcbcakcdnfaaGreat
/- contracts: gaps and names, in the reference and in the library -/
namespace Go.Proofs.YtbcjcbcakcdnfaaGreat
open Go.RowKit
attribute [local irreducible] WA WOs WDs WAn qThen qBlock tput
set_option maxHeartbeats 1000000
set_option maxRecDepth 20000
set_option linter.unusedSimpArgs false
set_option linter.unusedVariables false
attribute [local irreducible] smB cut sm
theorem fl_ng {n d : Int} (hd : 0 < d) (h : n.tmod d < 0) : n.tdiv d - 1 = n / d := by
  have h1 := Int.tmod_add_mul_tdiv n d
  have h2 := Int.natAbs_tmod n d
  have h3 : n.natAbs % d.natAbs < d.natAbs := Nat.mod_lt _ (by omega)
  have h4 : n / d = n.tdiv d - 1 := by
    apply Int.le_antisymm
    · apply Int.le_sub_one_of_lt
      apply Int.ediv_lt_of_lt_mul hd
      rw [Int.mul_comm]; omega
    · apply Int.le_ediv_of_mul_le hd
      rw [Int.sub_mul, Int.mul_comm]; omega
  exact h4.symm
theorem fl_ps {n d : Int} (hd : 0 < d) (h : 0 ≤ n.tmod d) : n.tdiv d = n / d := by
  have h1 := Int.tmod_add_mul_tdiv n d
  have h2 := Int.natAbs_tmod n d
  have h3 : n.natAbs % d.natAbs < d.natAbs := Nat.mod_lt _ (by omega)
  have h4 : n / d = n.tdiv d := by
    apply Int.le_antisymm
    · apply Int.le_of_lt_add_one
      apply Int.ediv_lt_of_lt_mul hd
      rw [Int.add_mul, Int.mul_comm]; omega
    · apply Int.le_ediv_of_mul_le hd
      rw [Int.mul_comm]; omega
  exact h4.symm
theorem mod_eq (n d : Int) : n - n / d * d = n % d := by rw [Int.emod_def, Int.mul_comm]
theorem cmp_z1 {u v d k : Int} (hu : u = 0) (hv : v = 0) : cmpI (u * k) (v * d) = 0 := by subst hu; subst hv; simp [cmpI]
theorem cmp_z2 {u v d k : Int} (hu : u = 0) (hv : 0 < v) (hd : 1 ≤ d) : cmpI (u * k) (v * d) = -1 := by
  subst hu
  have := Int.mul_pos hv (show 0 < d by omega)
  unfold cmpI
  rw [Int.zero_mul, if_pos this]
theorem cmp_z3 {u v d k : Int} (hu : 0 < u) (hv : v = 0) (hk : 1 ≤ k) : cmpI (u * k) (v * d) = 1 := by
  subst hv
  have := Int.mul_pos hu (show 0 < k by omega)
  unfold cmpI
  rw [Int.zero_mul, if_neg (by omega), if_pos this]
theorem mem_of_at {o : Nms} {s : List UInt8} {i : Nat} (h : i < o.length) (he : nmAt o i = s) : s ∈ o := by
  rw [← he]; unfold nmAt
  rw [List.getD_eq_getElem?_getD, List.getElem?_eq_getElem h]
  exact List.getElem_mem h
theorem not_mem_at {o : Nms} {s : List UInt8} (h : ∀ j, j < o.length → nmAt o j ≠ s) : s ∉ o := by
  intro hm
  obtain ⟨j, hj, he⟩ := List.getElem_of_mem hm
  refine h j hj ?_
  unfold nmAt
  rw [List.getD_eq_getElem?_getD, List.getElem?_eq_getElem hj]
  exact he

theorem bhastext_c (o : Nms) (s : List UInt8) (hl : o.length ≤ 1000000) (m : Mem) : Gives Tryz.prog 33 [.lst (txV o), .str s] m (.bool (decide (s ∈ o))) := by
  have hlo := txV_length (o := o)
  have hgo := hlo
  refine Gives_in Tryz.func33 rfl Tryz.ntmps33 Tryz.results33 (by kernel_rfl) (by simp) rfl fun Q hQ => ?_
  (have FX := And.intro hlo hgo; repeat' (first | (refine sx ?_ ?_ <;> intro h <;> first | (exfalso; omega) | skip) | refine ny ?_ | refine WA_block ?_))
  refine WA_while (σ := Nat) [0, 1, 5] (fun i => [.lst (txV o), .str s, .int .i64 i]) (fun _ => lend m ++ []) (fun i => i ≤ o.length ∧ ∀ j, j < i → nmAt o j ≠ s) (fun i => o.length - i) 0 ⟨Nat.zero_le _, fun j h => absurd h (Nat.not_lt_zero _)⟩ tv_ rfl ?_
  rintro i ⟨hi, hj⟩ L hL
  simp only [zipT]
  clear FX hgo
  rcases Nat.lt_or_ge i o.length with hlt | hge
  · have hgo := txV_get hlt
    (have FX := And.intro hlo hgo; repeat' (first | (refine sx ?_ ?_ <;> intro h <;> first | (exfalso; omega) | skip) | refine ny ?_ | refine WA_block ?_))
    all_goals (try (exfalso; omega))
    all_goals try
      ((refine r_es hQ ?_; try with_reducible rfl)
       exact congrArg V.bool (decide_eq_true (mem_of_at hlt (by assumption))).symm)
    all_goals (refine next_ hL (i + 1) ⟨by omega, fun j h => ?_⟩ (by omega))
    all_goals (rcases Nat.lt_or_ge j i with h2 | h2)
    all_goals first
      | exact hj j h2
      | (obtain rfl : j = i := by omega
         assumption)
  · have e : i = o.length := by omega
    subst e
    have hgo := hlo
    (have FX := And.intro hlo hgo; repeat' (first | (refine sx ?_ ?_ <;> intro h <;> first | (exfalso; omega) | skip) | refine ny ?_ | refine WA_block ?_))
    all_goals (try (exfalso; omega))
    all_goals ((refine r_es hQ ?_; try with_reducible rfl))
    all_goals exact congrArg V.bool (decide_eq_false (not_mem_at hj)).symm
def eqS (s t : List UInt8) : Bool := decide (t = s)
theorem fidx_mem (o : Nms) (s : List UInt8) : 0 ≤ fidx (eqS s) o ↔ s ∈ o := by
  rcases fidx_cases (eqS s) o [] with ⟨h1, h2⟩ | ⟨i, h1, h2, h3, _⟩
  · rw [h1]
    constructor
    · intro h; omega
    · intro h
      exact absurd h (not_mem_at fun j hj he => by have := h2 j hj; unfold eqS at this; exact absurd he (of_decide_eq_false this))
  · rw [h2]
    constructor
    · intro _; exact mem_of_at h1 (of_decide_eq_true h3)
    · intro _; omega

theorem sindex_c (o : Nms) (s : List UInt8) (hl : o.length ≤ 1000000) (m : Mem) : Gives Tryz.prog 92 [.lst (txV o), .str s] m (.int .i64 (fidx (eqS s) o)) := by
  have hlo := txV_length (o := o)
  have hgo := hlo
  refine Gives_in Tryz.func92 rfl Tryz.ntmps92 Tryz.results92 (by kernel_rfl) (by simp) rfl fun Q hQ => ?_
  (have FX := And.intro hlo hgo; repeat' (first | (refine sx ?_ ?_ <;> intro h <;> first | (exfalso; omega) | skip) | refine ny ?_ | refine WA_block ?_))
  refine WA_while (σ := Nat) [0, 1, 7, 8] (fun i => [.lst (txV o), .str s, .int .i64 o.length, .int .i64 i]) (fun _ => lend m ++ []) (fun i => i ≤ o.length ∧ ∀ j, j < i → eqS s (o.getD j []) = false) (fun i => o.length - i) 0 ⟨Nat.zero_le _, fun j h => absurd h (Nat.not_lt_zero _)⟩ tv_ rfl ?_
  rintro i ⟨hi, hj⟩ L hL
  simp only [zipT]
  clear FX hgo
  rcases Nat.lt_or_ge i o.length with hlt | hge
  · have hgo := txV_get hlt
    have hq : eqS s (o.getD i []) = decide (nmAt o i = s) := rfl
    (have FX := And.intro hlo hgo; repeat' (first | (refine sx ?_ ?_ <;> intro h <;> first | (exfalso; omega) | skip) | refine ny ?_ | refine WA_block ?_))
    all_goals (try (exfalso; omega))
    all_goals try
      ((refine r_es hQ ?_; try with_reducible rfl)
       exact congrArg (V.int .i64) (fidx_at (d := []) hlt hj (by rw [hq]; exact decide_eq_true (by first | assumption | exact Eq.symm (by assumption)))).symm)
    all_goals (refine next_ hL (i + 1) ⟨by omega, fun j h => ?_⟩ (by omega))
    all_goals (rcases Nat.lt_or_ge j i with h2 | h2)
    all_goals first
      | exact hj j h2
      | (obtain rfl : j = i := by omega
         rw [hq]
         exact decide_eq_false (by first | assumption | exact fun h => absurd h.symm (by assumption)))
  · have e : i = o.length := by omega
    subst e
    have hgo := hlo
    (have FX := And.intro hlo hgo; repeat' (first | (refine sx ?_ ?_ <;> intro h <;> first | (exfalso; omega) | skip) | refine ny ?_ | refine WA_block ?_))
    all_goals (try (exfalso; omega))
    all_goals ((refine r_es hQ ?_; try with_reducible rfl))
    all_goals (exact congrArg (V.int .i64) (fidx_no (d := []) hj).symm)

theorem scontains_c (o : Nms) (s : List UInt8) (hl : o.length ≤ 1000000) (m : Mem) : Gives Tryz.prog 58 [.lst (txV o), .str s] m (.bool (decide (s ∈ o))) := by
  have e : decide (s ∈ o) = decide (0 ≤ fidx (eqS s) o) := decide_eq_decide.2 (fidx_mem o s).symm
  rw [e]
  refine Gives_in Tryz.func58 rfl Tryz.ntmps58 Tryz.results58 (by kernel_rfl) (by simp) rfl fun Q hQ => ?_
  (repeat' (first | (refine sx ?_ ?_ <;> intro h <;> first | (exfalso; omega) | skip) | (refine g_op ?_; refine g_call ?_; refine g_args ?_; (first | refine s_fn (sindex_c o s hl _) ?_) <;> try first | omega | assumption) | refine ny ?_ | refine WA_block ?_))
  all_goals ((refine r_es hQ ?_; try with_reducible rfl))
  all_goals first
    | rfl
    | exact congrArg V.bool (decide_eq_true (by assumption)).symm
    | exact congrArg V.bool (decide_eq_false (by assumption)).symm
end Go.Proofs.YtbcjcbcakcdnfaaGreat
