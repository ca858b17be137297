/- The law RegulationMakes holds: whatever the input, it answers true, and the input reads as it did. No condition. -/
import Derived.Test.YtaoakololkcepaaRows
import Derived.Test.YtaoakololkcepaaE6
import Derived.Test.YtaoakololkcepaaR6
import Derived.ProofKit
import Derived.OpenShut
set_option linter.unusedSimpArgs false
set_option linter.unusedVariables false
namespace Go.Proofs.Ytaoakololkcepaa
open Go.RowKit Go.ChangeShapes Go.WideShapes Go.ChangeAt
theorem own : ownKnob Try.prog.godebug = none := by kernel_rfl
theorem laidOut : laidOutB Try.prog = true := by kernel_rfl
theorem regulationMakes_tys : tysOf Try.prog Try.f10.params.toList = some [.agg TyBn, .sl (.int .i64)] := by kernel_rfl
theorem regulationMakes_in (us : List V) (h : OkVs [.agg TyBn, .sl (.int .i64)] us) : Gives Try.prog 10 us [] (.bool true) := by
  obtain ⟨c0, uc0, rfl, hc0, h⟩ := okVs_agg h
  obtain ⟨es, ues, rfl, hes, h⟩ := okVs_sl h
  obtain rfl := okVs_nil h
  obtain ⟨b, rfl⟩ := okbn hc0
  obtain ⟨l, rfl⟩ := okns hes.2
  exact makes_law b l []
set_option maxRecDepth 100000 in
theorem regulationMakes_lifted (os : Os) (started : os.Started) (H : Type) (enc : TypeId × Value → H) :
    ReturnsInHanded {} Try.checked os 10 .any (Rows.regulationMakesSpec.pre6 enc Try.prog Try.f10 Rows.regulationMakesRow.domain false) (Rows.regulationMakesSpec.post enc Try.prog Try.f10 false true false false) := by
  refine returnsInHanded_of_change (C := Try.checked) own started (by kernel_rfl) Try.func10
    (ChangeSpec.witness6 (enc := enc) (C := Try.checked) false ⟨#[], #[.agg #[.slice none 0 0, .slice none 0 0], .slice none 0 0], []⟩ 12 (by kernel_rfl) (by kernel_rfl) (by kernel_rfl) (by kernel_rfl)) ?_
  intro W base args ds gs before hval hW hcnd _
  exact law_calls (P := Try.prog) (fn := Try.f10) laidOut rfl rfl (fun ds h => match ds, h with | [d1, d2], _ => rfl) (by kernel_rfl) regulationMakes_tys (by kernel_rfl) Try.underlying4 regulationMakes_in hval hW
theorem regulationMakes_over : Rows.regulationMakesRow.holds Try.pinned (OpenSpec.ofChange Rows.regulationMakesSpec) :=
  OpenClaim.holds_of_wide 10 Try.f10 rfl rfl rfl rfl rfl rfl rfl ⟨rfl, rfl, rfl, rfl, rfl⟩ rfl rfl rfl rfl rfl (by kernel_rfl) Try.func10 (by kernel_rfl)
    (of_decide_eq_true (by kernel_rfl)) (by unfold Func.isWrapper; first | (rw [if_pos (by decide +kernel)]; kernel_rfl) | (rw [if_neg (by decide +kernel)]; exact ⟨rfl, rfl⟩))
    (fun os started H enc _ => regulationMakes_lifted os started H enc)
theorem regulationMakes_holds : Rows.RegulationMakesSaid := regulationMakes_over
end Go.Proofs.Ytaoakololkcepaa
