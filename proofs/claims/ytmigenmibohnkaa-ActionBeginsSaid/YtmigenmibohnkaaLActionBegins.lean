/- The law ActionBegins holds: whatever the input, it answers true, and the input reads as it did. No condition. -/
import Derived.Test.YtmigenmibohnkaaRows
import Derived.Test.YtmigenmibohnkaaE4
import Derived.Test.YtmigenmibohnkaaH8
import Derived.ProofKit
import Derived.OpenShut
set_option linter.unusedSimpArgs false
set_option linter.unusedVariables false
namespace Go.Proofs.Ytmigenmibohnkaa
open Go.RowKit Go.ChangeShapes Go.WideShapes Go.ChangeAt
theorem own : ownKnob Try.prog.godebug = none := by kernel_rfl
theorem laidOut : laidOutB Try.prog = true := by kernel_rfl
theorem actionBegins_tys : tysOf Try.prog Try.f7.params.toList = some [.agg TyAc, TyFr, TyFr] := by kernel_rfl
theorem actionBegins_in (us : List V) (h : OkVs [.agg TyAc, TyFr, TyFr] us) : Gives Try.prog 7 us [] (.bool true) := by
  obtain ⟨c0, uc0, rfl, hc0, h⟩ := okVs_agg h
  obtain ⟨c1, uc1, rfl, hc1, h⟩ := okVs_agg h
  obtain ⟨c2, uc2, rfl, hc2, h⟩ := okVs_agg h
  obtain rfl := okVs_nil h
  obtain ⟨a, rfl⟩ := okact hc0
  obtain ⟨w, p, rfl, _, _⟩ := okfr hc1
  obtain ⟨n, d, rfl, _, _⟩ := okfr hc2
  exact begins_law a w p n d []
set_option maxRecDepth 100000 in
theorem actionBegins_lifted (os : Os) (started : os.Started) (H : Type) (enc : TypeId × Value → H) :
    ReturnsInHanded {} Try.checked os 7 .any (Rows.actionBeginsSpec.pre6 enc Try.prog Try.f7 Rows.actionBeginsRow.domain false) (Rows.actionBeginsSpec.post enc Try.prog Try.f7 false true false false) := by
  refine returnsInHanded_of_change (C := Try.checked) own started (by kernel_rfl) Try.func7
    (ChangeSpec.witness6 (enc := enc) (C := Try.checked) false ⟨#[], #[.agg #[.int .i64 0, .slice none 0 0, .slice none 0 0, .slice none 0 0], .agg #[.int .i64 0, .int .i64 0], .agg #[.int .i64 0, .int .i64 0]], []⟩ 12 (by kernel_rfl) (by kernel_rfl) (by kernel_rfl) (by kernel_rfl)) ?_
  intro W base args ds gs before hval hW hcnd _
  exact law_calls (P := Try.prog) (fn := Try.f7) laidOut rfl rfl (fun ds h => match ds, h with | [d1, d2, d3], _ => rfl) (by kernel_rfl) actionBegins_tys (by kernel_rfl) Try.underlying4 actionBegins_in hval hW
theorem actionBegins_over : Rows.actionBeginsRow.holds Try.pinned (OpenSpec.ofChange Rows.actionBeginsSpec) :=
  OpenClaim.holds_of_wide 7 Try.f7 rfl rfl rfl rfl rfl rfl rfl ⟨rfl, rfl, rfl, rfl, rfl⟩ rfl rfl rfl rfl rfl (by kernel_rfl) Try.func7 (by kernel_rfl)
    (of_decide_eq_true (by kernel_rfl)) (by unfold Func.isWrapper; first | (rw [if_pos (by decide +kernel)]; kernel_rfl) | (rw [if_neg (by decide +kernel)]; exact ⟨rfl, rfl⟩))
    (fun os started H enc _ => actionBegins_lifted os started H enc)
theorem actionBegins_holds : Rows.ActionBeginsSaid := actionBegins_over
end Go.Proofs.Ytmigenmibohnkaa
