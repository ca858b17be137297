/- The law ActionRises holds: whatever the input, it answers true, and the input reads as it did. No condition. -/
import Derived.Test.YtmigenmibohnkaaRows
import Derived.Test.YtmigenmibohnkaaE4
import Derived.Test.YtmigenmibohnkaaH5
import Derived.ProofKit
import Derived.OpenShut
set_option linter.unusedSimpArgs false
set_option linter.unusedVariables false
namespace Go.Proofs.Ytmigenmibohnkaa
open Go.RowKit Go.ChangeShapes Go.WideShapes Go.ChangeAt
theorem own : ownKnob Try.prog.godebug = none := by kernel_rfl
theorem laidOut : laidOutB Try.prog = true := by kernel_rfl
theorem actionRises_tys : tysOf Try.prog Try.f8.params.toList = some [.agg TyAc, .str, .agg [TyFr, TyFr]] := by kernel_rfl
theorem okf2x {cs : List V} (h : OkcL [TyFr, TyFr] cs) : ∃ a b c d : Int, cs = [.int .i64 a, .int .i64 b, .int .i64 c, .int .i64 d] := by
  obtain ⟨p, q, rfl, h1, h2⟩ := h
  obtain ⟨p2, q2, rfl, h3, h4⟩ := h2
  obtain rfl := okcL_nil h4
  obtain ⟨a, _, rfl, _, g1⟩ := okcL_int h1
  obtain ⟨b, _, rfl, _, g2⟩ := okcL_int g1
  obtain rfl := okcL_nil g2
  obtain ⟨c, _, rfl, _, g3⟩ := okcL_int h3
  obtain ⟨d, _, rfl, _, g4⟩ := okcL_int g3
  obtain rfl := okcL_nil g4
  exact ⟨a, b, c, d, rfl⟩
theorem actionRises_in (us : List V) (h : OkVs [.agg TyAc, .str, .agg [TyFr, TyFr]] us) : Gives Try.prog 8 us [] (.bool true) := by
  obtain ⟨c0, uc0, rfl, hc0, h⟩ := okVs_agg h
  obtain ⟨s, us, rfl, hs, h⟩ := okVs_str h
  obtain ⟨c1, uc1, rfl, hc1, h⟩ := okVs_agg h
  obtain rfl := okVs_nil h
  obtain ⟨a, rfl⟩ := okact hc0
  obtain ⟨n1, d1, n2, d2, rfl⟩ := okf2x hc1
  exact rises_law a s n1 d1 n2 d2 []
set_option maxRecDepth 100000 in
theorem actionRises_lifted (os : Os) (started : os.Started) (H : Type) (enc : TypeId × Value → H) :
    ReturnsInHanded {} Try.checked os 8 .any (Rows.actionRisesSpec.pre6 enc Try.prog Try.f8 Rows.actionRisesRow.domain false) (Rows.actionRisesSpec.post enc Try.prog Try.f8 false true false false) := by
  refine returnsInHanded_of_change (C := Try.checked) own started (by kernel_rfl) Try.func8
    (ChangeSpec.witness6 (enc := enc) (C := Try.checked) false ⟨#[], #[.agg #[.int .i64 0, .slice none 0 0, .slice none 0 0, .slice none 0 0], .string ⟨#[]⟩, .agg #[.int .i64 0, .int .i64 0, .int .i64 0, .int .i64 0]], []⟩ 12 (by kernel_rfl) (by kernel_rfl) (by kernel_rfl) (by kernel_rfl)) ?_
  intro W base args ds gs before hval hW hcnd _
  exact law_calls (P := Try.prog) (fn := Try.f8) laidOut rfl rfl (fun ds h => match ds, h with | [d1, d2, d3], _ => rfl) (by kernel_rfl) actionRises_tys (by kernel_rfl) Try.underlying4 actionRises_in hval hW
theorem actionRises_over : Rows.actionRisesRow.holds Try.pinned (OpenSpec.ofChange Rows.actionRisesSpec) :=
  OpenClaim.holds_of_wide 8 Try.f8 rfl rfl rfl rfl rfl rfl rfl ⟨rfl, rfl, rfl, rfl, rfl⟩ rfl rfl rfl rfl rfl (by kernel_rfl) Try.func8 (by kernel_rfl)
    (of_decide_eq_true (by kernel_rfl)) (by unfold Func.isWrapper; first | (rw [if_pos (by decide +kernel)]; kernel_rfl) | (rw [if_neg (by decide +kernel)]; exact ⟨rfl, rfl⟩))
    (fun os started H enc _ => actionRises_lifted os started H enc)
theorem actionRises_holds : Rows.ActionRisesSaid := actionRises_over
end Go.Proofs.Ytmigenmibohnkaa
