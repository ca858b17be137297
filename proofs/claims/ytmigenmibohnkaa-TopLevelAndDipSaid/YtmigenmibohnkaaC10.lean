/- contracts: values and slopes in the reference -/
import Derived.Test.YtmigenmibohnkaaC6
import Derived.Test.YtmigenmibohnkaaC9
set_option linter.unusedSimpArgs false
set_option linter.unusedVariables false
namespace Go.Proofs.Ytmigenmibohnkaa
open Go.RowKit
attribute [local irreducible] WA WOs WDs WAn qThen qBlock tput
set_option maxHeartbeats 1000000
set_option maxRecDepth 20000
set_option linter.unusedSimpArgs false
set_option linter.unusedVariables false
attribute [local irreducible] smB cut sm

theorem rwhole_c (n : Int) (m : Mem) : Gives Try.prog 16 [.int .i64 n] m (.agg [.int .i64 n, .int .i64 1]) := by
  refine Gives_in Try.func16 rfl Try.ntmps16 Try.results16 (by kernel_rfl) (by simp) rfl fun Q hQ => ?_
  (repeat' (first | (refine sx ?_ ?_ <;> intro h <;> first | (exfalso; omega) | skip) | refine ny ?_ | refine WA_block ?_))
  all_goals (refine r_es hQ ?_; try with_reducible rfl)
theorem rslope_ok {a b : Pt} (a1 : sm a.1) (a2 : sm a.2) (b1 : sm b.1) (b2 : sm b.2) (hlt : a.1 < b.1) (hs : slOk a b) (m : Mem) : Gives Try.prog 52 [.agg (ptV a), .agg (ptV b)] m (.tup [.agg [.int .i64 (Rat.num (sl a b)), .int .i64 ((Rat.den (sl a b) : Nat) : Int)], .bool true]) := by
  have h := rslope_c a b a1 a2 b1 b2 hlt m
  rw [if_pos ⟨hs.1, hs.2.1⟩, smB_of hs.2.2] at h
  exact h
end Go.Proofs.Ytmigenmibohnkaa
