/- contracts: the chapter's examples -/
import Derived.Test.YtgmlbabnffopdaaGreatC37
import Derived.Test.YtgmlbabnffopdaaGreatC34
import Derived.Test.YtgmlbabnffopdaaGreatC36
set_option linter.unusedSimpArgs false
set_option linter.unusedVariables false
namespace Go.Proofs.YtgmlbabnffopdaaGreat
open Go.RowKit
attribute [local irreducible] WA WOs WDs WAn qThen qBlock tput
set_option maxHeartbeats 1000000
set_option maxRecDepth 20000
set_option linter.unusedSimpArgs false
set_option linter.unusedVariables false
def wippenB : List UInt8 := [119, 105, 112, 112, 101, 110]
def hammerB : List UInt8 := [104, 97, 109, 109, 101, 114]
def liftB : List UInt8 := [108, 105, 102, 116]
def letoffB : List UInt8 := [108, 101, 116, 45, 111, 102, 102]
def dropB : List UInt8 := [100, 114, 111, 112]
def upA : ActR := ⟨1000, [⟨wippenB, [], [wk 0 0, wk 1000 500], 100, 20⟩, ⟨hammerB, wippenB, [wk 0 0, wk 450 4500, wk 500 4300], 30, 10⟩], [⟨liftB, wippenB, 1, false⟩, ⟨letoffB, hammerB, 4500, false⟩, ⟨dropB, hammerB, 4600, false⟩], []⟩
theorem upA_lt : Lt upA := by
  refine ⟨by decide, by decide, by decide, ?_, ?_⟩
  · intro i hi
    have : i = 0 ∨ i = 1 := by simp only [upA, List.length_cons, List.length_nil] at hi; omega
    rcases this with rfl | rfl <;> decide
  · intro i hi
    have : i = 0 ∨ i = 1 ∨ i = 2 := by simp only [upA, List.length_cons, List.length_nil] at hi; omega
    rcases this with rfl | rfl | rfl <;> decide
theorem upA_ok : acErr upA = 0 := by decide +kernel
theorem upA_dip : chkDip upA 0 1 = 0 := by decide +kernel
theorem upA_tou : touP upA (toQ (0, 1)) = some ((260 : Rat), (140 : Rat)) := by decide +kernel
theorem upA_hap : hapS upA = some [(0, (2 : Rat)), (1, (900 : Rat))] := by decide +kernel
def exL : List Rk := [wk 0 0, wk 10 5, wk 20 25]
theorem exL_val : valR exL 15 1 = (some (15 : Rat), 0) := by decide +kernel
theorem exL_b : RkB exL := by
  intro i hi
  have : i = 0 ∨ i = 1 ∨ i = 2 := by simp only [exL, List.length_cons, List.length_nil] at hi; omega
  rcases this with rfl | rfl | rfl <;> decide
end Go.Proofs.YtgmlbabnffopdaaGreat
