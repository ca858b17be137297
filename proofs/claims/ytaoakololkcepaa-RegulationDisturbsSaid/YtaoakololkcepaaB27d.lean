/- how the code keeps values, and numbers of measures -/
import Derived.Test.YtaoakololkcepaaB9
set_option linter.unusedSimpArgs false
set_option linter.unusedVariables false
namespace Go.Proofs.Ytaoakololkcepaa
open Go.RowKit
def niSt (k : Nat) : List Int → TV
  | [] => .v .nilsl
  | _ :: r => .sl k (r.length + 1)
def niE : List Int → List TB
  | [] => []
  | p :: r => [.cells .own 3 1 ((nsV (p :: r)).map (List.map TV.v))]
def rvE (b : BnR) (out : List Int) : List TB := benT b :: niE out
theorem rvE_ok {b : BnR} {out : List Int} : (rvE b out).all (TB.ok (rvE b out).length) = true := by
  unfold rvE benT
  cases out with
  | nil => simp [TB.ok, TV.okT, niE]
  | cons p r => simp only [niE, List.all_cons, TB.ok, TV.okT, List.all_nil, Bool.and_true, Bool.and_self, tvs_ok, List.length_cons, List.length_nil]
theorem rvS_ok {b : BnR} {l : V} {out : List Int} {ls : List V} : (.v l :: .ptr 0 0 0 :: niSt 1 out :: ls.map TV.v).all (TV.okT (rvE b out).length) = true := by
  have h : ∀ n, (ls.map TV.v).all (TV.okT n) = true := fun n => by simp [TV.okT]
  cases out with
  | nil => simp only [rvE, niSt, niE, List.all_cons, TV.okT, h, Bool.and_true, List.length_cons, List.length_nil]; decide
  | cons p r => simp only [rvE, niSt, niE, List.all_cons, TV.okT, h, Bool.and_true, List.length_cons, List.length_nil]; decide
end Go.Proofs.Ytaoakololkcepaa
