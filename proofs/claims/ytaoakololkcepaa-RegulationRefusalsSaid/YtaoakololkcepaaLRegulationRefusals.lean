/- The law RegulationRefusals holds: whatever the input, it answers true, and the input reads as it did. No condition. -/
import Derived.Test.YtaoakololkcepaaRows
import Derived.Test.YtaoakololkcepaaE6
import Derived.Test.YtaoakololkcepaaR12
import Derived.ProofKit
import Derived.OpenShut
set_option linter.unusedSimpArgs false
set_option linter.unusedVariables false
namespace Go.Proofs.Ytaoakololkcepaa
open Go.RowKit Go.ChangeShapes Go.WideShapes Go.ChangeAt
theorem own : ownKnob Try.prog.godebug = none := by kernel_rfl
theorem laidOut : laidOutB Try.prog = true := by kernel_rfl
theorem regulationRefusals_tys : tysOf Try.prog Try.f7.params.toList = some [.agg TyBn, .sl (.int .i64)] := by kernel_rfl
theorem regulationRefusals_in (us : List V) (h : OkVs [.agg TyBn, .sl (.int .i64)] us) : Gives Try.prog 7 us [] (.bool true) := by
  obtain ⟨c0, uc0, rfl, hc0, h⟩ := okVs_agg h
  obtain ⟨es, ues, rfl, hes, h⟩ := okVs_sl h
  obtain rfl := okVs_nil h
  obtain ⟨b, rfl⟩ := okbn hc0
  obtain ⟨l, rfl⟩ := okns hes.2
  exact refusals_law b l []
set_option maxRecDepth 100000 in
theorem regulationRefusals_lifted (os : Os) (started : os.Started) (H : Type) (enc : TypeId × Value → H) :
    ReturnsInHanded {} Try.checked os 7 .any (Rows.regulationRefusalsSpec.pre6 enc Try.prog Try.f7 Rows.regulationRefusalsRow.domain false) (Rows.regulationRefusalsSpec.post enc Try.prog Try.f7 false true false false) := by
  refine returnsInHanded_of_change (C := Try.checked) own started (by kernel_rfl) Try.func7
    (ChangeSpec.witness6 (enc := enc) (C := Try.checked) false ⟨#[], #[.agg #[.slice none 0 0, .slice none 0 0], .slice none 0 0], []⟩ 12 (by kernel_rfl) (by kernel_rfl) (by kernel_rfl) (by kernel_rfl)) ?_
  intro W base args ds gs before hval hW hcnd _
  exact law_calls (P := Try.prog) (fn := Try.f7) laidOut rfl rfl (fun ds h => match ds, h with | [d1, d2], _ => rfl) (by kernel_rfl) regulationRefusals_tys (by kernel_rfl) Try.underlying4 regulationRefusals_in hval hW
theorem regulationRefusals_over : Rows.regulationRefusalsRow.holds Try.pinned (OpenSpec.ofChange Rows.regulationRefusalsSpec) :=
  OpenClaim.holds_of_wide 7 Try.f7 rfl rfl rfl rfl rfl rfl rfl ⟨rfl, rfl, rfl, rfl, rfl⟩ rfl rfl rfl rfl rfl (by kernel_rfl) Try.func7 (by kernel_rfl)
    (of_decide_eq_true (by kernel_rfl)) (by unfold Func.isWrapper; first | (rw [if_pos (by decide +kernel)]; kernel_rfl) | (rw [if_neg (by decide +kernel)]; exact ⟨rfl, rfl⟩))
    (fun os started H enc _ => regulationRefusals_lifted os started H enc)
theorem regulationRefusals_holds : Rows.RegulationRefusalsSaid := regulationRefusals_over
end Go.Proofs.Ytaoakololkcepaa
