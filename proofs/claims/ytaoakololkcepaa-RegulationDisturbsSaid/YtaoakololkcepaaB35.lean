/- contracts: ranges of measures -/
import Derived.Test.YtaoakololkcepaaB34
import Derived.Test.YtaoakololkcepaaB25
set_option linter.unusedSimpArgs false
set_option linter.unusedVariables false
namespace Go.Proofs.Ytaoakololkcepaa
open Go.RowKit
attribute [local irreducible] WA WOs WDs WAn qThen qBlock tput
set_option maxHeartbeats 1000000
set_option maxRecDepth 20000
set_option linter.unusedSimpArgs false
set_option linter.unusedVariables false
set_option maxHeartbeats 2000000
theorem fin_sli3 {m0 D X B : Mem} {j k : Nat} {st : Sta} {ty sz : Nat} {es : List (List V)} {c : Int} {R : V → Option Mem → Prop} (hB : B = lend m0 ++ D) (hX : X[j]? = some (.cells st ty sz es)) (hk : es.length = k) (hp : plainLL es = true) (h : R (.tup [.lst es, .int .i64 c]) none) : Fin m0 R (.tup [.sl (B.length + j) k, .int .i64 c]) (B ++ X) := by
  subst hB
  refine .inr ⟨D ++ X, _, by simp, ?_, h⟩
  show (frzs (frz _ _ 3) [_, _]).map V.tup = _
  have e : frz ((lend m0 ++ D) ++ X) m0.length 3 (.sl ((lend m0 ++ D).length + j) k) = some (.lst es) := frz_own (m0 := m0) (D := D) (n := 2) (j := j) hX hk hp
  rw [frzs_cons e (frzs_cons (frz_int _ _ _ _ _) rfl)]
  rfl

end Go.Proofs.Ytaoakololkcepaa
