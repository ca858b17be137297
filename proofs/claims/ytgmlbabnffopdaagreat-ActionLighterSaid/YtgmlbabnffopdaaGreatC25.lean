/- contracts: the curve of a part at a dip; positions and ratios -/
import Derived.Test.YtgmlbabnffopdaaGreatC24
set_option linter.unusedSimpArgs false
set_option linter.unusedVariables false
namespace Go.Proofs.YtgmlbabnffopdaaGreat
open Go.RowKit
attribute [local irreducible] WA WOs WDs WAn qThen qBlock tput
set_option maxHeartbeats 1000000
set_option maxRecDepth 20000
set_option linter.unusedSimpArgs false
set_option linter.unusedVariables false
attribute [local irreducible] smB cut sm
theorem dip_q {a : ActR} {n d : Int} (h : dipErr a n d = 0) : frErr n d = 0 ∧ (toQ (n, d)).num = n ∧ ((toQ (n, d)).den : Int) = d ∧ sm (toQ (n, d)) ∧ 0 ≤ n ∧ n ≤ a.dip * d := by
  unfold dipErr at h
  split at h
  · contradiction
  · rename_i h0
    have h0 : frErr n d = 0 := by omega
    obtain ⟨h1, h2⟩ := frErr_q h0
    unfold rawQ at h1
    injection h1 with h3 h4
    split at h
    · simp at h
    · exact ⟨h0, h3, h4, h2, by omega, by omega⟩
end Go.Proofs.YtgmlbabnffopdaaGreat
