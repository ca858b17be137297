/- The law ActionLeast holds: whatever the input, it answers true, and the input reads as it did. No condition. -/
import Derived.Test.YtmigenmibohnkaaRows
import Derived.Test.YtmigenmibohnkaaE4
import Derived.Test.YtmigenmibohnkaaH6
import Derived.ProofKit
import Derived.OpenShut
set_option linter.unusedSimpArgs false
set_option linter.unusedVariables false
namespace Go.Proofs.Ytmigenmibohnkaa
open Go.RowKit Go.ChangeShapes Go.WideShapes Go.ChangeAt
theorem own : ownKnob Try.prog.godebug = none := by kernel_rfl
theorem laidOut : laidOutB Try.prog = true := by kernel_rfl
theorem actionLeast_tys : tysOf Try.prog Try.f5.params.toList = some [.agg [.sl TyKn], TyFr, TyFr] := by kernel_rfl
theorem actionLeast_in (us : List V) (h : OkVs [.agg [.sl TyKn], TyFr, TyFr] us) : Gives Try.prog 5 us [] (.bool true) := by
  obtain ⟨c0, uc0, rfl, hc0, h⟩ := okVs_agg h
  obtain ⟨c1, uc1, rfl, hc1, h⟩ := okVs_agg h
  obtain ⟨c2, uc2, rfl, hc2, h⟩ := okVs_agg h
  obtain rfl := okVs_nil h
  obtain ⟨l, rfl⟩ := okcv hc0
  obtain ⟨a, b, rfl, _, _⟩ := okfr hc1
  obtain ⟨n, d, rfl, _, _⟩ := okfr hc2
  exact least_law l a b n d []
set_option maxRecDepth 100000 in
theorem actionLeast_lifted (os : Os) (started : os.Started) (H : Type) (enc : TypeId × Value → H) :
    ReturnsInHanded {} Try.checked os 5 .any (Rows.actionLeastSpec.pre6 enc Try.prog Try.f5 Rows.actionLeastRow.domain false) (Rows.actionLeastSpec.post enc Try.prog Try.f5 false true false false) := by
  refine returnsInHanded_of_change (C := Try.checked) own started (by kernel_rfl) Try.func5
    (ChangeSpec.witness6 (enc := enc) (C := Try.checked) false ⟨#[], #[.agg #[.slice none 0 0], .agg #[.int .i64 0, .int .i64 0], .agg #[.int .i64 0, .int .i64 0]], []⟩ 12 (by kernel_rfl) (by kernel_rfl) (by kernel_rfl) (by kernel_rfl)) ?_
  intro W base args ds gs before hval hW hcnd _
  exact law_calls (P := Try.prog) (fn := Try.f5) laidOut rfl rfl (fun ds h => match ds, h with | [d1, d2, d3], _ => rfl) (by kernel_rfl) actionLeast_tys (by kernel_rfl) Try.underlying4 actionLeast_in hval hW
theorem actionLeast_over : Rows.actionLeastRow.holds Try.pinned (OpenSpec.ofChange Rows.actionLeastSpec) :=
  OpenClaim.holds_of_wide 5 Try.f5 rfl rfl rfl rfl rfl rfl rfl ⟨rfl, rfl, rfl, rfl, rfl⟩ rfl rfl rfl rfl rfl (by kernel_rfl) Try.func5 (by kernel_rfl)
    (of_decide_eq_true (by kernel_rfl)) (by unfold Func.isWrapper; first | (rw [if_pos (by decide +kernel)]; kernel_rfl) | (rw [if_neg (by decide +kernel)]; exact ⟨rfl, rfl⟩))
    (fun os started H enc _ => actionLeast_lifted os started H enc)
theorem actionLeast_holds : Rows.ActionLeastSaid := actionLeast_over
end Go.Proofs.Ytmigenmibohnkaa
