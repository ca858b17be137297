/- The law RegulationPlans holds: whatever the input, it answers true, and the input reads as it did. No condition. -/
import Derived.Test.YtaoakololkcepaaRows
import Derived.Test.YtaoakololkcepaaE7
import Derived.Test.YtaoakololkcepaaR4
import Derived.ProofKit
import Derived.OpenShut
set_option linter.unusedSimpArgs false
set_option linter.unusedVariables false
namespace Go.Proofs.Ytaoakololkcepaa
open Go.RowKit Go.ChangeShapes Go.WideShapes Go.ChangeAt
theorem own : ownKnob Try.prog.godebug = none := by kernel_rfl
theorem laidOut : laidOutB Try.prog = true := by kernel_rfl
theorem regulationPlans_tys : tysOf Try.prog Try.f8.params.toList = some [.agg TyBn, .sl (.sl TySt)] := by kernel_rfl
theorem regulationPlans_in (us : List V) (h : OkVs [.agg TyBn, .sl (.sl TySt)] us) : Gives Try.prog 8 us [] (.bool true) := by
  obtain ⟨c0, uc0, rfl, hc0, h⟩ := okVs_agg h
  obtain ⟨es, ues, rfl, hes, h⟩ := okVs_sl h
  obtain rfl := okVs_nil h
  obtain ⟨b, rfl⟩ := okbn hc0
  obtain ⟨l, rfl⟩ := okpls hes.2
  exact plans_law b l []
set_option maxRecDepth 100000 in
theorem regulationPlans_lifted (os : Os) (started : os.Started) (H : Type) (enc : TypeId × Value → H) :
    ReturnsInHanded {} Try.checked os 8 .any (Rows.regulationPlansSpec.pre6 enc Try.prog Try.f8 Rows.regulationPlansRow.domain false) (Rows.regulationPlansSpec.post enc Try.prog Try.f8 false true false false) := by
  refine returnsInHanded_of_change (C := Try.checked) own started (by kernel_rfl) Try.func8
    (ChangeSpec.witness6 (enc := enc) (C := Try.checked) false ⟨#[], #[.agg #[.slice none 0 0, .slice none 0 0], .slice none 0 0], []⟩ 12 (by kernel_rfl) (by kernel_rfl) (by kernel_rfl) (by kernel_rfl)) ?_
  intro W base args ds gs before hval hW hcnd _
  exact law_calls (P := Try.prog) (fn := Try.f8) laidOut rfl rfl (fun ds h => match ds, h with | [d1, d2], _ => rfl) (by kernel_rfl) regulationPlans_tys (by kernel_rfl) Try.underlying4 regulationPlans_in hval hW
theorem regulationPlans_over : Rows.regulationPlansRow.holds Try.pinned (OpenSpec.ofChange Rows.regulationPlansSpec) :=
  OpenClaim.holds_of_wide 8 Try.f8 rfl rfl rfl rfl rfl rfl rfl ⟨rfl, rfl, rfl, rfl, rfl⟩ rfl rfl rfl rfl rfl (by kernel_rfl) Try.func8 (by kernel_rfl)
    (of_decide_eq_true (by kernel_rfl)) (by unfold Func.isWrapper; first | (rw [if_pos (by decide +kernel)]; kernel_rfl) | (rw [if_neg (by decide +kernel)]; exact ⟨rfl, rfl⟩))
    (fun os started H enc _ => regulationPlans_lifted os started H enc)
theorem regulationPlans_holds : Rows.RegulationPlansSaid := regulationPlans_over
end Go.Proofs.Ytaoakololkcepaa
