/- The law TopLevelAndDip holds: whatever the input, it answers true, and the input reads as it did. No condition. -/
import Derived.Test.YtmigenmibohnkaaRows
import Derived.Test.YtmigenmibohnkaaE4
import Derived.Test.YtmigenmibohnkaaH10
import Derived.ProofKit
import Derived.OpenShut
set_option linter.unusedSimpArgs false
set_option linter.unusedVariables false
namespace Go.Proofs.Ytmigenmibohnkaa
open Go.RowKit Go.ChangeShapes Go.WideShapes Go.ChangeAt
theorem own : ownKnob Try.prog.godebug = none := by kernel_rfl
theorem laidOut : laidOutB Try.prog = true := by kernel_rfl
theorem topLevelAndDip_tys : tysOf Try.prog Try.f3.params.toList = some [.agg TyAc, .str] := by kernel_rfl
theorem topLevelAndDip_in (us : List V) (h : OkVs [.agg TyAc, .str] us) : Gives Try.prog 3 us [] (.bool true) := by
  obtain ⟨c0, uc0, rfl, hc0, h⟩ := okVs_agg h
  obtain ⟨s, us, rfl, hs, h⟩ := okVs_str h
  obtain rfl := okVs_nil h
  obtain ⟨a, rfl⟩ := okact hc0
  exact lad_law a s []
set_option maxRecDepth 100000 in
theorem topLevelAndDip_lifted (os : Os) (started : os.Started) (H : Type) (enc : TypeId × Value → H) :
    ReturnsInHanded {} Try.checked os 3 .any (Rows.topLevelAndDipSpec.pre6 enc Try.prog Try.f3 Rows.topLevelAndDipRow.domain false) (Rows.topLevelAndDipSpec.post enc Try.prog Try.f3 false true false false) := by
  refine returnsInHanded_of_change (C := Try.checked) own started (by kernel_rfl) Try.func3
    (ChangeSpec.witness6 (enc := enc) (C := Try.checked) false ⟨#[], #[.agg #[.int .i64 0, .slice none 0 0, .slice none 0 0, .slice none 0 0], .string ⟨#[]⟩], []⟩ 12 (by kernel_rfl) (by kernel_rfl) (by kernel_rfl) (by kernel_rfl)) ?_
  intro W base args ds gs before hval hW hcnd _
  exact law_calls (P := Try.prog) (fn := Try.f3) laidOut rfl rfl (fun ds h => match ds, h with | [d1, d2], _ => rfl) (by kernel_rfl) topLevelAndDip_tys (by kernel_rfl) Try.underlying4 topLevelAndDip_in hval hW
theorem topLevelAndDip_over : Rows.topLevelAndDipRow.holds Try.pinned (OpenSpec.ofChange Rows.topLevelAndDipSpec) :=
  OpenClaim.holds_of_wide 3 Try.f3 rfl rfl rfl rfl rfl rfl rfl ⟨rfl, rfl, rfl, rfl, rfl⟩ rfl rfl rfl rfl rfl (by kernel_rfl) Try.func3 (by kernel_rfl)
    (of_decide_eq_true (by kernel_rfl)) (by unfold Func.isWrapper; first | (rw [if_pos (by decide +kernel)]; kernel_rfl) | (rw [if_neg (by decide +kernel)]; exact ⟨rfl, rfl⟩))
    (fun os started H enc _ => topLevelAndDip_lifted os started H enc)
theorem topLevelAndDip_holds : Rows.TopLevelAndDipSaid := topLevelAndDip_over
end Go.Proofs.Ytmigenmibohnkaa
