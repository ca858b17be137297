/- how the code keeps values, and numbers of measures -/
import Derived.Test.YtaoakololkcepaaB9
set_option linter.unusedSimpArgs false
set_option linter.unusedVariables false
namespace Go.Proofs.Ytaoakololkcepaa
open Go.RowKit
def niSt (k : Nat) : List Int → TV
  | [] => .v .nilsl
  | _ :: r => .sl k (r.length + 1)
def niE : List Int → List TB
  | [] => []
  | p :: r => [.cells .own 3 1 ((nsV (p :: r)).map (List.map TV.v))]
end Go.Proofs.Ytaoakololkcepaa
