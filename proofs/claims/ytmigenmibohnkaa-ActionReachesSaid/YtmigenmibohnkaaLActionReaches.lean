/- The law ActionReaches holds: whatever the input, it answers true, and the input reads as it did. No condition. -/
import Derived.Test.YtmigenmibohnkaaRows
import Derived.Test.YtmigenmibohnkaaE4
import Derived.Test.YtmigenmibohnkaaH9
import Derived.ProofKit
import Derived.OpenShut
set_option linter.unusedSimpArgs false
set_option linter.unusedVariables false
namespace Go.Proofs.Ytmigenmibohnkaa
open Go.RowKit Go.ChangeShapes Go.WideShapes Go.ChangeAt
theorem own : ownKnob Try.prog.godebug = none := by kernel_rfl
theorem laidOut : laidOutB Try.prog = true := by kernel_rfl
theorem actionReaches_tys : tysOf Try.prog Try.f4.params.toList = some [.agg [.sl TyKn], TyFr, .bool] := by kernel_rfl
theorem okVs_bool {r : List Ty} {us : List V} (h : OkVs (.bool :: r) us) : ∃ b us', us = .bool b :: us' ∧ OkVs r us' := by
  obtain ⟨u, us', rfl, ⟨b, h1⟩, h4⟩ := h
  simp at h1
  subst h1
  exact ⟨b, us', rfl, h4⟩
theorem actionReaches_in (us : List V) (h : OkVs [.agg [.sl TyKn], TyFr, .bool] us) : Gives Try.prog 4 us [] (.bool true) := by
  obtain ⟨c0, uc0, rfl, hc0, h⟩ := okVs_agg h
  obtain ⟨c1, uc1, rfl, hc1, h⟩ := okVs_agg h
  obtain ⟨f, uf, ef, gf⟩ := okVs_bool h
  subst ef
  have h := gf
  obtain rfl := okVs_nil h
  obtain ⟨l, rfl⟩ := okcv hc0
  obtain ⟨n, d, rfl, _, _⟩ := okfr hc1
  exact reaches_law l n d f []
set_option maxRecDepth 100000 in
theorem actionReaches_lifted (os : Os) (started : os.Started) (H : Type) (enc : TypeId × Value → H) :
    ReturnsInHanded {} Try.checked os 4 .any (Rows.actionReachesSpec.pre6 enc Try.prog Try.f4 Rows.actionReachesRow.domain false) (Rows.actionReachesSpec.post enc Try.prog Try.f4 false true false false) := by
  refine returnsInHanded_of_change (C := Try.checked) own started (by kernel_rfl) Try.func4
    (ChangeSpec.witness6 (enc := enc) (C := Try.checked) false ⟨#[], #[.agg #[.slice none 0 0], .agg #[.int .i64 0, .int .i64 0], .bool false], []⟩ 12 (by kernel_rfl) (by kernel_rfl) (by kernel_rfl) (by kernel_rfl)) ?_
  intro W base args ds gs before hval hW hcnd _
  exact law_calls (P := Try.prog) (fn := Try.f4) laidOut rfl rfl (fun ds h => match ds, h with | [d1, d2, d3], _ => rfl) (by kernel_rfl) actionReaches_tys (by kernel_rfl) Try.underlying4 actionReaches_in hval hW
theorem actionReaches_over : Rows.actionReachesRow.holds Try.pinned (OpenSpec.ofChange Rows.actionReachesSpec) :=
  OpenClaim.holds_of_wide 4 Try.f4 rfl rfl rfl rfl rfl rfl rfl ⟨rfl, rfl, rfl, rfl, rfl⟩ rfl rfl rfl rfl rfl (by kernel_rfl) Try.func4 (by kernel_rfl)
    (of_decide_eq_true (by kernel_rfl)) (by unfold Func.isWrapper; first | (rw [if_pos (by decide +kernel)]; kernel_rfl) | (rw [if_neg (by decide +kernel)]; exact ⟨rfl, rfl⟩))
    (fun os started H enc _ => actionReaches_lifted os started H enc)
theorem actionReaches_holds : Rows.ActionReachesSaid := actionReaches_over
end Go.Proofs.Ytmigenmibohnkaa
