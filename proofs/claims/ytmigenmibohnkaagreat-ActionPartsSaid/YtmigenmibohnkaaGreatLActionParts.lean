/- The law ActionParts holds: whatever the input, it answers true, and the input reads as it did. No condition. -/
import Derived.Test.YtmigenmibohnkaaGreatRows
import Derived.Test.YtmigenmibohnkaaGreatE4
import Derived.Test.YtmigenmibohnkaaGreatH11
import Derived.ProofKit
import Derived.OpenShut
set_option linter.unusedSimpArgs false
set_option linter.unusedVariables false
namespace Go.Proofs.YtmigenmibohnkaaGreat
open Go.RowKit Go.ChangeShapes Go.WideShapes Go.ChangeAt
theorem own : ownKnob Tryz.prog.godebug = none := by kernel_rfl
theorem laidOut : laidOutB Tryz.prog = true := by kernel_rfl
theorem actionParts_tys : tysOf Tryz.prog Tryz.f7.params.toList = some [.agg TyAc, .str, TyFr] := by kernel_rfl
theorem actionParts_in (us : List V) (h : OkVs [.agg TyAc, .str, TyFr] us) : Gives Tryz.prog 7 us [] (.bool true) := by
  obtain ⟨c0, uc0, rfl, hc0, h⟩ := okVs_agg h
  obtain ⟨s, us, rfl, hs, h⟩ := okVs_str h
  obtain ⟨c1, uc1, rfl, hc1, h⟩ := okVs_agg h
  obtain rfl := okVs_nil h
  obtain ⟨a, rfl⟩ := okact hc0
  obtain ⟨n, d, rfl, _, _⟩ := okfr hc1
  exact parts_law a s n d []
set_option maxRecDepth 100000 in
theorem actionParts_lifted (os : Os) (started : os.Started) (H : Type) (enc : TypeId × Value → H) :
    ReturnsInHanded {} Tryz.checked os 7 .any (Rows.actionPartsSpec.pre6 enc Tryz.prog Tryz.f7 Rows.actionPartsRow.domain false) (Rows.actionPartsSpec.post enc Tryz.prog Tryz.f7 false true false false) := by
  refine returnsInHanded_of_change (C := Tryz.checked) own started (by kernel_rfl) Tryz.func7
    (ChangeSpec.witness6 (enc := enc) (C := Tryz.checked) false ⟨#[], #[.agg #[.int .i64 0, .slice none 0 0, .slice none 0 0, .slice none 0 0], .string ⟨#[]⟩, .agg #[.int .i64 0, .int .i64 0]], []⟩ 12 (by kernel_rfl) (by kernel_rfl) (by kernel_rfl) (by kernel_rfl)) ?_
  intro W base args ds gs before hval hW hcnd _
  exact law_calls (P := Tryz.prog) (fn := Tryz.f7) laidOut rfl rfl (fun ds h => match ds, h with | [d1, d2, d3], _ => rfl) (by kernel_rfl) actionParts_tys (by kernel_rfl) Tryz.underlying4 actionParts_in hval hW
theorem actionParts_over : Rows.actionPartsRow.holds Tryz.pinned (OpenSpec.ofChange Rows.actionPartsSpec) :=
  OpenClaim.holds_of_wide 7 Tryz.f7 rfl rfl rfl rfl rfl rfl rfl ⟨rfl, rfl, rfl, rfl, rfl⟩ rfl rfl rfl rfl rfl (by kernel_rfl) Tryz.func7 (by kernel_rfl)
    (of_decide_eq_true (by kernel_rfl)) (by unfold Func.isWrapper; first | (rw [if_pos (by decide +kernel)]; kernel_rfl) | (rw [if_neg (by decide +kernel)]; exact ⟨rfl, rfl⟩))
    (fun os started H enc _ => actionParts_lifted os started H enc)
theorem actionParts_holds : Rows.ActionPartsSaid := actionParts_over
end Go.Proofs.YtmigenmibohnkaaGreat
