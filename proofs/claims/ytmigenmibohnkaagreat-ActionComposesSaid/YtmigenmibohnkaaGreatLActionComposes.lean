/- The law ActionComposes holds: whatever the input, it answers true, and the input reads as it did. No condition. -/
import Derived.Test.YtmigenmibohnkaaGreatRows
import Derived.Test.YtmigenmibohnkaaGreatE4
import Derived.Test.YtmigenmibohnkaaGreatH3
import Derived.ProofKit
import Derived.OpenShut
set_option linter.unusedSimpArgs false
set_option linter.unusedVariables false
namespace Go.Proofs.YtmigenmibohnkaaGreat
open Go.RowKit Go.ChangeShapes Go.WideShapes Go.ChangeAt
theorem own : ownKnob Tryz.prog.godebug = none := by kernel_rfl
theorem laidOut : laidOutB Tryz.prog = true := by kernel_rfl
theorem actionComposes_tys : tysOf Tryz.prog Tryz.f4.params.toList = some [.agg [.sl TyKn], .agg [.sl TyKn]] := by kernel_rfl
theorem actionComposes_in (us : List V) (h : OkVs [.agg [.sl TyKn], .agg [.sl TyKn]] us) : Gives Tryz.prog 4 us [] (.bool true) := by
  obtain ⟨c0, uc0, rfl, hc0, h⟩ := okVs_agg h
  obtain ⟨c1, uc1, rfl, hc1, h⟩ := okVs_agg h
  obtain rfl := okVs_nil h
  obtain ⟨l, rfl⟩ := okcv hc0
  obtain ⟨k, rfl⟩ := okcv hc1
  exact composes_law l k []
set_option maxRecDepth 100000 in
theorem actionComposes_lifted (os : Os) (started : os.Started) (H : Type) (enc : TypeId × Value → H) :
    ReturnsInHanded {} Tryz.checked os 4 .any (Rows.actionComposesSpec.pre6 enc Tryz.prog Tryz.f4 Rows.actionComposesRow.domain false) (Rows.actionComposesSpec.post enc Tryz.prog Tryz.f4 false true false false) := by
  refine returnsInHanded_of_change (C := Tryz.checked) own started (by kernel_rfl) Tryz.func4
    (ChangeSpec.witness6 (enc := enc) (C := Tryz.checked) false ⟨#[], #[.agg #[.slice none 0 0], .agg #[.slice none 0 0]], []⟩ 12 (by kernel_rfl) (by kernel_rfl) (by kernel_rfl) (by kernel_rfl)) ?_
  intro W base args ds gs before hval hW hcnd _
  exact law_calls (P := Tryz.prog) (fn := Tryz.f4) laidOut rfl rfl (fun ds h => match ds, h with | [d1, d2], _ => rfl) (by kernel_rfl) actionComposes_tys (by kernel_rfl) Tryz.underlying4 actionComposes_in hval hW
theorem actionComposes_over : Rows.actionComposesRow.holds Tryz.pinned (OpenSpec.ofChange Rows.actionComposesSpec) :=
  OpenClaim.holds_of_wide 4 Tryz.f4 rfl rfl rfl rfl rfl rfl rfl ⟨rfl, rfl, rfl, rfl, rfl⟩ rfl rfl rfl rfl rfl (by kernel_rfl) Tryz.func4 (by kernel_rfl)
    (of_decide_eq_true (by kernel_rfl)) (by unfold Func.isWrapper; first | (rw [if_pos (by decide +kernel)]; kernel_rfl) | (rw [if_neg (by decide +kernel)]; exact ⟨rfl, rfl⟩))
    (fun os started H enc _ => actionComposes_lifted os started H enc)
theorem actionComposes_holds : Rows.ActionComposesSaid := actionComposes_over
end Go.Proofs.YtmigenmibohnkaaGreat
