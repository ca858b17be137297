/- proofs of refusal: the plain reading -/
import Derived.Test.YtaoakololkcepaaB34
import Derived.Test.YtaoakololkcepaaBF
set_option linter.unusedSimpArgs false
set_option linter.unusedVariables false
namespace Go.Proofs.Ytaoakololkcepaa
open Go.RowKit
/-- do the weighed values meet the weighed tolerances -/
def mtW (b : BnR) (ws : List Int) : Prop := cnL b ws b.ads.length ≤ wtH b ws b.ms.length ∧ wtL b ws b.ms.length ≤ cnH b ws b.ads.length
instance (b : BnR) (ws : List Int) : Decidable (mtW b ws) := inferInstanceAs (Decidable (_ ∧ _))
/-- the error of weights -/
def ckW (b : BnR) (ws : List Int) : Int := if ws.length ≠ b.ms.length then 10 else if ¬ smallP 100 ws then 2 else if mtW b ws then 22 else 0
theorem wOk_of {ws : List Int} (h : smallP 100 ws) : wOk ws := fun k => by
  rcases Nat.lt_or_ge k ws.length with hk | hk
  · exact h k hk
  · rw [List.getD_eq_getElem?_getD, List.getElem?_eq_none hk]; decide
end Go.Proofs.Ytaoakololkcepaa
