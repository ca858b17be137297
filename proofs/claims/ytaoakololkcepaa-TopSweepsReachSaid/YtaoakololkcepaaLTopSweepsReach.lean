/- The law TopSweepsReach holds: whatever the input, it answers true, and the input reads as it did. No condition. -/
import Derived.Test.YtaoakololkcepaaRows
import Derived.Test.YtaoakololkcepaaE6
import Derived.Test.YtaoakololkcepaaR8
import Derived.ProofKit
import Derived.OpenShut
set_option linter.unusedSimpArgs false
set_option linter.unusedVariables false
namespace Go.Proofs.Ytaoakololkcepaa
open Go.RowKit Go.ChangeShapes Go.WideShapes Go.ChangeAt
theorem own : ownKnob Try.prog.godebug = none := by kernel_rfl
theorem laidOut : laidOutB Try.prog = true := by kernel_rfl
theorem topSweepsReach_tys : tysOf Try.prog Try.f14.params.toList = some [.agg TyBn, .sl (.int .i64)] := by kernel_rfl
theorem topSweepsReach_in (us : List V) (h : OkVs [.agg TyBn, .sl (.int .i64)] us) : Gives Try.prog 14 us [] (.bool true) := by
  obtain ⟨c0, uc0, rfl, hc0, h⟩ := okVs_agg h
  obtain ⟨es, ues, rfl, hes, h⟩ := okVs_sl h
  obtain rfl := okVs_nil h
  obtain ⟨b, rfl⟩ := okbn hc0
  obtain ⟨l, rfl⟩ := okns hes.2
  exact reach_top b l []
set_option maxRecDepth 100000 in
theorem topSweepsReach_lifted (os : Os) (started : os.Started) (H : Type) (enc : TypeId × Value → H) :
    ReturnsInHanded {} Try.checked os 14 .any (Rows.topSweepsReachSpec.pre6 enc Try.prog Try.f14 Rows.topSweepsReachRow.domain false) (Rows.topSweepsReachSpec.post enc Try.prog Try.f14 false true false false) := by
  refine returnsInHanded_of_change (C := Try.checked) own started (by kernel_rfl) Try.func14
    (ChangeSpec.witness6 (enc := enc) (C := Try.checked) false ⟨#[], #[.agg #[.slice none 0 0, .slice none 0 0], .slice none 0 0], []⟩ 12 (by kernel_rfl) (by kernel_rfl) (by kernel_rfl) (by kernel_rfl)) ?_
  intro W base args ds gs before hval hW hcnd _
  exact law_calls (P := Try.prog) (fn := Try.f14) laidOut rfl rfl (fun ds h => match ds, h with | [d1, d2], _ => rfl) (by kernel_rfl) topSweepsReach_tys (by kernel_rfl) Try.underlying4 topSweepsReach_in hval hW
theorem topSweepsReach_over : Rows.topSweepsReachRow.holds Try.pinned (OpenSpec.ofChange Rows.topSweepsReachSpec) :=
  OpenClaim.holds_of_wide 14 Try.f14 rfl rfl rfl rfl rfl rfl rfl ⟨rfl, rfl, rfl, rfl, rfl⟩ rfl rfl rfl rfl rfl (by kernel_rfl) Try.func14 (by kernel_rfl)
    (of_decide_eq_true (by kernel_rfl)) (by unfold Func.isWrapper; first | (rw [if_pos (by decide +kernel)]; kernel_rfl) | (rw [if_neg (by decide +kernel)]; exact ⟨rfl, rfl⟩))
    (fun os started H enc _ => topSweepsReach_lifted os started H enc)
theorem topSweepsReach_holds : Rows.TopSweepsReachSaid := topSweepsReach_over
end Go.Proofs.Ytaoakololkcepaa
