/- a measure that is out of reach proves a refusal -/
import Derived.Test.YtaoakololkcepaaB35
import Derived.Test.YtaoakololkcepaaBZ
set_option linter.unusedSimpArgs false
set_option linter.unusedVariables false
namespace Go.Proofs.Ytaoakololkcepaa
open Go.RowKit
theorem aln_small {n i : Nat} (hi : i < n) : smallP 100 (alnL n i) := fun k _ => by
  have := alnL_ok hi k
  omega
/-- a measure that is out of reach proves it alone -/
theorem out_alone {b : BnR} (hb : Bnd b) {i : Nat} (hi : i < b.ms.length) (ho : outB b i = true) : ckW b (alnL b.ms.length i) = 0 := by
  have hv := (hb.va i hi).2.1.2
  have h1 := ind_wl (b := b) (n := b.ms.length) hi hv b.ms.length
  have h2 := ind_cn (b := b) hi b.ads.length
  have hn : ¬ mtW b (alnL b.ms.length i) := by
    unfold mtW
    rw [h2.1, h2.2, h1.1, h1.2, if_pos hi, if_pos hi]
    unfold outB at ho
    intro h
    rw [decide_eq_true h] at ho
    cases ho
  unfold ckW
  rw [alnL_length, if_neg (by omega), if_neg (fun g => g (aln_small hi)), if_neg hn]
end Go.Proofs.Ytaoakololkcepaa
