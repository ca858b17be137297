/- The law RegulationReach holds: whatever the input, it answers true, and the input reads as it did. No condition. -/
import Derived.Test.YtaoakololkcepaaRows
import Derived.Test.YtaoakololkcepaaE6
import Derived.Test.YtaoakololkcepaaR2
import Derived.ProofKit
import Derived.OpenShut
set_option linter.unusedSimpArgs false
set_option linter.unusedVariables false
namespace Go.Proofs.Ytaoakololkcepaa
open Go.RowKit Go.ChangeShapes Go.WideShapes Go.ChangeAt
theorem own : ownKnob Try.prog.godebug = none := by kernel_rfl
theorem laidOut : laidOutB Try.prog = true := by kernel_rfl
theorem regulationReach_tys : tysOf Try.prog Try.f5.params.toList = some [.agg TyBn, .int .i64] := by kernel_rfl
theorem regulationReach_in (us : List V) (h : OkVs [.agg TyBn, .int .i64] us) : Gives Try.prog 5 us [] (.bool true) := by
  obtain ⟨c0, uc0, rfl, hc0, h⟩ := okVs_agg h
  obtain ⟨g, ug, rfl, hg, h⟩ := okVs_int h
  obtain rfl := okVs_nil h
  obtain ⟨b, rfl⟩ := okbn hc0
  exact reach_law b g []
set_option maxRecDepth 100000 in
theorem regulationReach_lifted (os : Os) (started : os.Started) (H : Type) (enc : TypeId × Value → H) :
    ReturnsInHanded {} Try.checked os 5 .any (Rows.regulationReachSpec.pre6 enc Try.prog Try.f5 Rows.regulationReachRow.domain false) (Rows.regulationReachSpec.post enc Try.prog Try.f5 false true false false) := by
  refine returnsInHanded_of_change (C := Try.checked) own started (by kernel_rfl) Try.func5
    (ChangeSpec.witness6 (enc := enc) (C := Try.checked) false ⟨#[], #[.agg #[.slice none 0 0, .slice none 0 0], .int .i64 0], []⟩ 12 (by kernel_rfl) (by kernel_rfl) (by kernel_rfl) (by kernel_rfl)) ?_
  intro W base args ds gs before hval hW hcnd _
  exact law_calls (P := Try.prog) (fn := Try.f5) laidOut rfl rfl (fun ds h => match ds, h with | [d1, d2], _ => rfl) (by kernel_rfl) regulationReach_tys (by kernel_rfl) Try.underlying4 regulationReach_in hval hW
theorem regulationReach_over : Rows.regulationReachRow.holds Try.pinned (OpenSpec.ofChange Rows.regulationReachSpec) :=
  OpenClaim.holds_of_wide 5 Try.f5 rfl rfl rfl rfl rfl rfl rfl ⟨rfl, rfl, rfl, rfl, rfl⟩ rfl rfl rfl rfl rfl (by kernel_rfl) Try.func5 (by kernel_rfl)
    (of_decide_eq_true (by kernel_rfl)) (by unfold Func.isWrapper; first | (rw [if_pos (by decide +kernel)]; kernel_rfl) | (rw [if_neg (by decide +kernel)]; exact ⟨rfl, rfl⟩))
    (fun os started H enc _ => regulationReach_lifted os started H enc)
theorem regulationReach_holds : Rows.RegulationReachSaid := regulationReach_over
end Go.Proofs.Ytaoakololkcepaa
