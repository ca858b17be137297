/- The law RegulationApplies holds: whatever the input, it answers true, and the input reads as it did. No condition. -/
import Derived.Test.YtaoakololkcepaaRows
import Derived.Test.YtaoakololkcepaaE6
import Derived.Test.YtaoakololkcepaaR10
import Derived.ProofKit
import Derived.OpenShut
set_option linter.unusedSimpArgs false
set_option linter.unusedVariables false
namespace Go.Proofs.Ytaoakololkcepaa
open Go.RowKit Go.ChangeShapes Go.WideShapes Go.ChangeAt
theorem own : ownKnob Try.prog.godebug = none := by kernel_rfl
theorem laidOut : laidOutB Try.prog = true := by kernel_rfl
theorem regulationApplies_tys : tysOf Try.prog Try.f4.params.toList = some [.agg TyBn, .sl (.int .i64), .sl (.int .i64)] := by kernel_rfl
theorem regulationApplies_in (us : List V) (h : OkVs [.agg TyBn, .sl (.int .i64), .sl (.int .i64)] us) : Gives Try.prog 4 us [] (.bool true) := by
  obtain ⟨c0, uc0, rfl, hc0, h⟩ := okVs_agg h
  obtain ⟨es, ues, rfl, hes, h⟩ := okVs_sl h
  obtain ⟨fs, ufs, rfl, hfs, h⟩ := okVs_sl h
  obtain rfl := okVs_nil h
  obtain ⟨b, rfl⟩ := okbn hc0
  obtain ⟨l, rfl⟩ := okns hes.2
  obtain ⟨r, rfl⟩ := okns hfs.2
  exact applies_law b l r []
set_option maxRecDepth 100000 in
theorem regulationApplies_lifted (os : Os) (started : os.Started) (H : Type) (enc : TypeId × Value → H) :
    ReturnsInHanded {} Try.checked os 4 .any (Rows.regulationAppliesSpec.pre6 enc Try.prog Try.f4 Rows.regulationAppliesRow.domain false) (Rows.regulationAppliesSpec.post enc Try.prog Try.f4 false true false false) := by
  refine returnsInHanded_of_change (C := Try.checked) own started (by kernel_rfl) Try.func4
    (ChangeSpec.witness6 (enc := enc) (C := Try.checked) false ⟨#[], #[.agg #[.slice none 0 0, .slice none 0 0], .slice none 0 0, .slice none 0 0], []⟩ 12 (by kernel_rfl) (by kernel_rfl) (by kernel_rfl) (by kernel_rfl)) ?_
  intro W base args ds gs before hval hW hcnd _
  exact law_calls (P := Try.prog) (fn := Try.f4) laidOut rfl rfl (fun ds h => match ds, h with | [d1, d2, d3], _ => rfl) (by kernel_rfl) regulationApplies_tys (by kernel_rfl) Try.underlying4 regulationApplies_in hval hW
theorem regulationApplies_over : Rows.regulationAppliesRow.holds Try.pinned (OpenSpec.ofChange Rows.regulationAppliesSpec) :=
  OpenClaim.holds_of_wide 4 Try.f4 rfl rfl rfl rfl rfl rfl rfl ⟨rfl, rfl, rfl, rfl, rfl⟩ rfl rfl rfl rfl rfl (by kernel_rfl) Try.func4 (by kernel_rfl)
    (of_decide_eq_true (by kernel_rfl)) (by unfold Func.isWrapper; first | (rw [if_pos (by decide +kernel)]; kernel_rfl) | (rw [if_neg (by decide +kernel)]; exact ⟨rfl, rfl⟩))
    (fun os started H enc _ => regulationApplies_lifted os started H enc)
theorem regulationApplies_holds : Rows.RegulationAppliesSaid := regulationApplies_over
end Go.Proofs.Ytaoakololkcepaa
