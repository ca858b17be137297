/-
  NARROWER THAN 'FOR EVERY INPUT', by the rows' own cells (each row's printed sentence says how): TopEnclosuresNest: laid · TopNothingGreater: laid.
  DERIVED. THE GIVEN ROWS OF THIS SEAT. 2 by the template 'for every input the law returns true; each argument reads behind the call as it read before'; 0 by the template 'total and deterministic' (their statements: YtdkkhfkplpopdaaDoorTotals.lean).
  GIVEN WITH THE SEED: the statements are not yours to turn. If you find one false, say at which input.
  Laid BY PROGRAM, IN A SANDBOX (cutbox-rows.mjs): the forced cells as the released guide's own fill.sh prints them over the translation 1166933d7998c820… (all of the seat's roots in one cut). By AI agents, Wed Nov 11 2026. No macro, syntax, notation, axiom, sorry.
-/
import Derived.Test.YtdkkhfkplpopdaaDoorChecked
import GoSem.Claim
import GoSem.ClaimJoined
import GoSem.ClaimMapViews
import Derived.JoinedTies
import Derived.KernelRfl
namespace Go.Proofs.YtdkkhfkplpopdaaDoor
/- THE CELL 'sum', in the pinned program and in every row, IS THE sha256 OF THE DUMP (.gsa) THAT YtdkkhfkplpopdaaDoorProg.lean LOADS. Nothing in Lean hashes anything: it is a label: what it is worth is what the hold of that sum in a sandbox is worth. -/
noncomputable def Tryd.pinned : Pinned := { name := "ytdkkhfkplpopdaadoor", sum := "1166933d7998c820d4d622fa872379c0de24c696ef6cd4bbb4018579c6e87c7b", checked := Tryd.checked }
namespace Rows
def none {H : Type} : Left H := { results := [], args := [] }

/- WHAT THE LISTED PACKAGE-LEVEL VARIABLES READ AS WHEN THE CALL BEGINS. Each datum BY PROGRAM (the guide's laid-datum.mjs) off the statement by which the dump's own 'gosem.cut.vars' lays the variable. In a bare row this is a premise. The card (YtdkkhfkplpopdaaDoorCards.lean) ties it to the program's text. -/
def laid_agraffe_number_primes {H : Type} : DataW H := .agg [.lit (.int .u64 2), .lit (.int .u64 3), .lit (.int .u64 5)]

/-- 'agraffetop.TopEnclosuresNest': WHATEVER THE INPUT: true; the input reads as it did. -/
def topEnclosuresNestSpec : ChangeSpec := { name := "topEnclosuresNest", fn := fun _ => fun
  | [d1, d2, d3] => { results := [.lit (.bool true)], args := [d1, d2, d3] }
  | _ => none }
def topEnclosuresNestRow : OpenClaim := { program := "ytdkkhfkplpopdaadoor", sum := "1166933d7998c820d4d622fa872379c0de24c696ef6cd4bbb4018579c6e87c7b", func := "agraffe/agraffetop.TopEnclosuresNest", spec := "topEnclosuresNest", inPlace := ["math/bits.Add64"], unfollowed := true, recurses := true, named := ["agraffe/number.primes"], apart := false, laid := [("agraffe/number.primes", laid_agraffe_number_primes)] }
def TopEnclosuresNestSaid : Prop := topEnclosuresNestRow.holds Tryd.pinned (OpenSpec.ofChange topEnclosuresNestSpec)

/-- ITS FALSE NEIGHBOUR: 'it returns false'. Refute it at one input. -/
def topEnclosuresNestWrong : ChangeSpec := { name := "topEnclosuresNest", fn := fun _ => fun
  | [d1, d2, d3] => { results := [.lit (.bool false)], args := [d1, d2, d3] }
  | _ => none }
def TopEnclosuresNestWrongFalsely : Prop := topEnclosuresNestRow.holds Tryd.pinned (OpenSpec.ofChange topEnclosuresNestWrong)

/-- 'agraffetop.TopNothingGreater': WHATEVER THE INPUT: true; the input reads as it did. -/
def topNothingGreaterSpec : ChangeSpec := { name := "topNothingGreater", fn := fun _ => fun
  | [d1, d2, d3] => { results := [.lit (.bool true)], args := [d1, d2, d3] }
  | _ => none }
def topNothingGreaterRow : OpenClaim := { program := "ytdkkhfkplpopdaadoor", sum := "1166933d7998c820d4d622fa872379c0de24c696ef6cd4bbb4018579c6e87c7b", func := "agraffe/agraffetop.TopNothingGreater", spec := "topNothingGreater", inPlace := ["math/bits.Add64"], unfollowed := true, recurses := true, named := ["agraffe/number.primes"], apart := false, laid := [("agraffe/number.primes", laid_agraffe_number_primes)] }
def TopNothingGreaterSaid : Prop := topNothingGreaterRow.holds Tryd.pinned (OpenSpec.ofChange topNothingGreaterSpec)

/-- ITS FALSE NEIGHBOUR: 'it returns false'. Refute it at one input. -/
def topNothingGreaterWrong : ChangeSpec := { name := "topNothingGreater", fn := fun _ => fun
  | [d1, d2, d3] => { results := [.lit (.bool false)], args := [d1, d2, d3] }
  | _ => none }
def TopNothingGreaterWrongFalsely : Prop := topNothingGreaterRow.holds Tryd.pinned (OpenSpec.ofChange topNothingGreaterWrong)

/- THE SECOND FORM. 'bulk': how many values and letters a reading holds, each counted each time it is reached (what is shared counts as often as it is met; a slice's spare places count too). A statement '..UptoSaid' is the law's where the arguments, and the package variables that the reading takes, are together of bulk at most 1048576: NARROWER than '..Said'. Prove '..Said' where nothing that the law and all that it calls make is longer than what came in: it says more and counts as full. Else prove '..UptoSaid'. A law counts once. -/
mutual
def uptoBulk {H : Type} : DataW H → Nat
  | .lit (.string bytes) => bytes.length + 1
  | .lit _ => 1
  | .nil => 1
  | .ptr d => uptoBulk d + 1
  | .slice elems spare => uptoBulkAll elems + uptoBulkAll spare + 1
  | .agg parts => uptoBulkAll parts + 1
  | .iface _ d => uptoBulk d + 1
  | .map entries => uptoBulkEntries entries + 1
  | .held _ => 1
def uptoBulkAll {H : Type} : List (DataW H) → Nat
  | [] => 0
  | d :: r => uptoBulk d + uptoBulkAll r
def uptoBulkEntries {H : Type} : List (Lit × DataW H) → Nat
  | [] => 0
  | x :: r => uptoBulkEntry x + uptoBulkEntries r
def uptoBulkEntry {H : Type} : Lit × DataW H → Nat
  | (.string bytes, d) => bytes.length + uptoBulk d + 1
  | (_, d) => uptoBulk d + 1
 end
def uptoSmall : (H : Type) → List (DataW H) → Bool := fun _ ds => decide (uptoBulkAll ds ≤ 1048576)
def OpenSpec.upto (s : _root_.Go.ChangeSpec) : _root_.Go.OpenSpec := { _root_.Go.OpenSpec.ofChange s with cond := some uptoSmall }

/-- 'agraffetop.TopEnclosuresNest', WHERE WHAT IT READS IS OF BULK AT MOST 1048576: true; the input reads as it did. -/
def topEnclosuresNestUptoRow : OpenClaim := { program := "ytdkkhfkplpopdaadoor", sum := "1166933d7998c820d4d622fa872379c0de24c696ef6cd4bbb4018579c6e87c7b", func := "agraffe/agraffetop.TopEnclosuresNest", spec := "topEnclosuresNest", inPlace := ["math/bits.Add64"], unfollowed := true, recurses := true, named := ["agraffe/number.primes"], apart := false, laid := [("agraffe/number.primes", laid_agraffe_number_primes)], narrowed := true }
def TopEnclosuresNestUptoSaid : Prop := topEnclosuresNestUptoRow.holds Tryd.pinned (OpenSpec.upto topEnclosuresNestSpec)

/-- 'agraffetop.TopNothingGreater', WHERE WHAT IT READS IS OF BULK AT MOST 1048576: true; the input reads as it did. -/
def topNothingGreaterUptoRow : OpenClaim := { program := "ytdkkhfkplpopdaadoor", sum := "1166933d7998c820d4d622fa872379c0de24c696ef6cd4bbb4018579c6e87c7b", func := "agraffe/agraffetop.TopNothingGreater", spec := "topNothingGreater", inPlace := ["math/bits.Add64"], unfollowed := true, recurses := true, named := ["agraffe/number.primes"], apart := false, laid := [("agraffe/number.primes", laid_agraffe_number_primes)], narrowed := true }
def TopNothingGreaterUptoSaid : Prop := topNothingGreaterUptoRow.holds Tryd.pinned (OpenSpec.upto topNothingGreaterSpec)

end Rows
end Go.Proofs.YtdkkhfkplpopdaaDoor
