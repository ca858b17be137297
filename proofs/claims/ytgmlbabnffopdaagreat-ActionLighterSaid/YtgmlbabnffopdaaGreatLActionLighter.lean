/- The law ActionLighter holds: whatever the input, it answers true, and the input reads as it did. No condition. -/
import Derived.Test.YtgmlbabnffopdaaGreatRows
import Derived.Test.YtgmlbabnffopdaaGreatE4
import Derived.Test.YtgmlbabnffopdaaGreatH19
import Derived.ProofKit
import Derived.OpenShut
set_option linter.unusedSimpArgs false
set_option linter.unusedVariables false
namespace Go.Proofs.YtgmlbabnffopdaaGreat
open Go.RowKit Go.ChangeShapes Go.WideShapes Go.ChangeAt
theorem own : ownKnob Tryz.prog.godebug = none := by kernel_rfl
theorem laidOut : laidOutB Tryz.prog = true := by kernel_rfl
theorem actionLighter_tys : tysOf Tryz.prog Tryz.f3.params.toList = some [.agg TyAc, TyLd, TyFr] := by kernel_rfl
theorem actionLighter_in (us : List V) (h : OkVs [.agg TyAc, TyLd, TyFr] us) : Gives Tryz.prog 3 us [] (.bool true) := by
  obtain ⟨c0, uc0, rfl, hc0, h⟩ := okVs_agg h
  obtain ⟨c1, uc1, rfl, hc1, h⟩ := okVs_agg h
  obtain ⟨c2, uc2, rfl, hc2, h⟩ := okVs_agg h
  obtain rfl := okVs_nil h
  obtain ⟨a, rfl⟩ := okact hc0
  obtain ⟨w, p, rfl, _, _⟩ := okfr hc1
  obtain ⟨n, d, rfl, _, _⟩ := okfr hc2
  exact lighter_law a (w, p) n d []
set_option maxRecDepth 100000 in
theorem actionLighter_lifted (os : Os) (started : os.Started) (H : Type) (enc : TypeId × Value → H) :
    ReturnsInHanded {} Tryz.checked os 3 .any (Rows.actionLighterSpec.pre6 enc Tryz.prog Tryz.f3 Rows.actionLighterRow.domain false) (Rows.actionLighterSpec.post enc Tryz.prog Tryz.f3 false true false false) := by
  refine returnsInHanded_of_change (C := Tryz.checked) own started (by kernel_rfl) Tryz.func3
    (ChangeSpec.witness6 (enc := enc) (C := Tryz.checked) false ⟨#[], #[.agg #[.int .i64 0, .slice none 0 0, .slice none 0 0, .slice none 0 0], .agg #[.int .i64 0, .int .i64 0], .agg #[.int .i64 0, .int .i64 0]], []⟩ 12 (by kernel_rfl) (by kernel_rfl) (by kernel_rfl) (by kernel_rfl)) ?_
  intro W base args ds gs before hval hW hcnd _
  exact law_calls (P := Tryz.prog) (fn := Tryz.f3) laidOut rfl rfl (fun ds h => match ds, h with | [d1, d2, d3], _ => rfl) (by kernel_rfl) actionLighter_tys (by kernel_rfl) Tryz.underlying4 actionLighter_in hval hW
theorem actionLighter_over : Rows.actionLighterRow.holds Tryz.pinned (OpenSpec.ofChange Rows.actionLighterSpec) :=
  OpenClaim.holds_of_wide 3 Tryz.f3 rfl rfl rfl rfl rfl rfl rfl ⟨rfl, rfl, rfl, rfl, rfl⟩ rfl rfl rfl rfl rfl (by kernel_rfl) Tryz.func3 (by kernel_rfl)
    (of_decide_eq_true (by kernel_rfl)) (by unfold Func.isWrapper; first | (rw [if_pos (by decide +kernel)]; kernel_rfl) | (rw [if_neg (by decide +kernel)]; exact ⟨rfl, rfl⟩))
    (fun os started H enc _ => actionLighter_lifted os started H enc)
theorem actionLighter_holds : Rows.ActionLighterSaid := actionLighter_over
end Go.Proofs.YtgmlbabnffopdaaGreat
