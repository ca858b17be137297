/- The law RegulationDisturbs holds: whatever the input, it answers true, and the input reads as it did. No condition. -/
import Derived.Test.YtaoakololkcepaaRows
import Derived.Test.YtaoakololkcepaaE6
import Derived.Test.YtaoakololkcepaaR11
import Derived.ProofKit
import Derived.OpenShut
set_option linter.unusedSimpArgs false
set_option linter.unusedVariables false
namespace Go.Proofs.Ytaoakololkcepaa
open Go.RowKit Go.ChangeShapes Go.WideShapes Go.ChangeAt
theorem own : ownKnob Try.prog.godebug = none := by kernel_rfl
theorem laidOut : laidOutB Try.prog = true := by kernel_rfl
theorem regulationDisturbs_tys : tysOf Try.prog Try.f13.params.toList = some [.agg TyBn] := by kernel_rfl
theorem regulationDisturbs_in (us : List V) (h : OkVs [.agg TyBn] us) : Gives Try.prog 13 us [] (.bool true) := by
  obtain ⟨c0, uc0, rfl, hc0, h⟩ := okVs_agg h
  obtain rfl := okVs_nil h
  obtain ⟨b, rfl⟩ := okbn hc0
  exact disturbs_law b []
set_option maxRecDepth 100000 in
theorem regulationDisturbs_lifted (os : Os) (started : os.Started) (H : Type) (enc : TypeId × Value → H) :
    ReturnsInHanded {} Try.checked os 13 .any (Rows.regulationDisturbsSpec.pre6 enc Try.prog Try.f13 Rows.regulationDisturbsRow.domain false) (Rows.regulationDisturbsSpec.post enc Try.prog Try.f13 false true false false) := by
  refine returnsInHanded_of_change (C := Try.checked) own started (by kernel_rfl) Try.func13
    (ChangeSpec.witness6 (enc := enc) (C := Try.checked) false ⟨#[], #[.agg #[.slice none 0 0, .slice none 0 0]], []⟩ 12 (by kernel_rfl) (by kernel_rfl) (by kernel_rfl) (by kernel_rfl)) ?_
  intro W base args ds gs before hval hW hcnd _
  exact law_calls (P := Try.prog) (fn := Try.f13) laidOut rfl rfl (fun ds h => match ds, h with | [d1], _ => rfl) (by kernel_rfl) regulationDisturbs_tys (by kernel_rfl) Try.underlying4 regulationDisturbs_in hval hW
theorem regulationDisturbs_over : Rows.regulationDisturbsRow.holds Try.pinned (OpenSpec.ofChange Rows.regulationDisturbsSpec) :=
  OpenClaim.holds_of_wide 13 Try.f13 rfl rfl rfl rfl rfl rfl rfl ⟨rfl, rfl, rfl, rfl, rfl⟩ rfl rfl rfl rfl rfl (by kernel_rfl) Try.func13 (by kernel_rfl)
    (of_decide_eq_true (by kernel_rfl)) (by unfold Func.isWrapper; first | (rw [if_pos (by decide +kernel)]; kernel_rfl) | (rw [if_neg (by decide +kernel)]; exact ⟨rfl, rfl⟩))
    (fun os started H enc _ => regulationDisturbs_lifted os started H enc)
theorem regulationDisturbs_holds : Rows.RegulationDisturbsSaid := regulationDisturbs_over
end Go.Proofs.Ytaoakololkcepaa
