/- contracts: how many bits a small number has -/
import Derived.Test.YtgmlbabnffopdaaGreatC28
set_option linter.unusedSimpArgs false
set_option linter.unusedVariables false
namespace Go.Proofs.YtgmlbabnffopdaaGreat
open Go.RowKit
attribute [local irreducible] WA WOs WDs WAn qThen qBlock tput
set_option maxHeartbeats 1000000
set_option maxRecDepth 20000
set_option linter.unusedSimpArgs false
set_option linter.unusedVariables false
theorem evI_str {P : Program} {m : Mem} {T : TypeId} {k : IntKind} {n : Int} {s : List UInt8} {b : UInt8} (hT : strT P T = true) (h : s[n.toNat]? = some b) : evI P m T (.str s) (.int k n) = some (0 ≤ n, .int .u8 b.toNat, m) := by
  simp only [evI, evStrIdx, hT, if_true, h]
theorem u8w {n : Nat} (h : n ≤ 12) : IntKind.u8.wrap ((n : Nat) : Int) = n := by
  have hc : n = 0 ∨ n = 1 ∨ n = 2 ∨ n = 3 ∨ n = 4 ∨ n = 5 ∨ n = 6 ∨ n = 7 ∨ n = 8 ∨ n = 9 ∨ n = 10 ∨ n = 11 ∨ n = 12 := by omega
  rcases hc with rfl | rfl | rfl | rfl | rfl | rfl | rfl | rfl | rfl | rfl | rfl | rfl | rfl <;> rfl
def lenB (n : Nat) : UInt8 := [0, 1, 2, 2, 3, 3, 3, 3, 4, 4, 4, 4, 4].getD n 0

theorem mlen64_c (n : Nat) (h : n ≤ 12) (m : Mem) : Gives Tryz.prog 96 [.int .u64 n] m (.int .i64 ((lenB n).toNat : Int)) := by
  have hw := u8w h
  have hb := hw
  have hc : n = 0 ∨ n = 1 ∨ n = 2 ∨ n = 3 ∨ n = 4 ∨ n = 5 ∨ n = 6 ∨ n = 7 ∨ n = 8 ∨ n = 9 ∨ n = 10 ∨ n = 11 ∨ n = 12 := by omega
  refine Gives_in Tryz.func96 rfl Tryz.ntmps96 Tryz.results96 (by kernel_rfl) (by simp) rfl fun Q hQ => ?_
  (have FX := And.intro hw hb; repeat' (first | (refine sx ?_ ?_ <;> intro h <;> first | (exfalso; omega) | skip) | refine ny ?_ | refine WA_block ?_))
  all_goals (try (exfalso; omega))
  have hlb : (lenB n).toNat ≤ 4 := by rcases hc with rfl | rfl | rfl | rfl | rfl | rfl | rfl | rfl | rfl | rfl | rfl | rfl | rfl <;> decide
  refine g_op ?_
  refine s_ix (v := .int .u8 (lenB n).toNat) ?_ (hx := by first | exact lk_ | fail) (hy := by first | exact lk_ | fail) (hb := fun m => evI_str (b := lenB n) (by kernel_rfl) (by rcases hc with rfl | rfl | rfl | rfl | rfl | rfl | rfl | rfl | rfl | rfl | rfl | rfl | rfl <;> rfl)) (hp := Int.natCast_nonneg n)
  (have FX := And.intro hw hb; repeat' (first | (refine sx ?_ ?_ <;> intro h <;> first | (exfalso; omega) | skip) | refine ny ?_ | refine WA_block ?_))
  all_goals (try (exfalso; omega))
  all_goals (refine r_es hQ ?_; try with_reducible rfl)
  all_goals (rw [Int.zero_add])
end Go.Proofs.YtgmlbabnffopdaaGreat
