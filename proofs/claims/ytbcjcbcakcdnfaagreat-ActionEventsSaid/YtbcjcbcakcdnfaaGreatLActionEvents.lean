/- The law ActionEvents holds: whatever the input, it answers true, and the input reads as it did. No condition. -/
import Derived.Test.YtbcjcbcakcdnfaaGreatRows
import Derived.Test.YtbcjcbcakcdnfaaGreatE4
import Derived.Test.YtbcjcbcakcdnfaaGreatH18
import Derived.ProofKit
import Derived.OpenShut
set_option linter.unusedSimpArgs false
set_option linter.unusedVariables false
namespace Go.Proofs.YtbcjcbcakcdnfaaGreat
open Go.RowKit Go.ChangeShapes Go.WideShapes Go.ChangeAt
theorem own : ownKnob Tryz.prog.godebug = none := by kernel_rfl
theorem laidOut : laidOutB Tryz.prog = true := by kernel_rfl
theorem actionEvents_tys : tysOf Tryz.prog Tryz.f4.params.toList = some [.agg TyAc, .str, TyFr] := by kernel_rfl
theorem actionEvents_in (us : List V) (h : OkVs [.agg TyAc, .str, TyFr] us) : Gives Tryz.prog 4 us [] (.bool true) := by
  obtain ⟨c0, uc0, rfl, hc0, h⟩ := okVs_agg h
  obtain ⟨s, us, rfl, hs, h⟩ := okVs_str h
  obtain ⟨c1, uc1, rfl, hc1, h⟩ := okVs_agg h
  obtain rfl := okVs_nil h
  obtain ⟨a, rfl⟩ := okact hc0
  obtain ⟨n, d, rfl, _, _⟩ := okfr hc1
  exact events_law a s n d []
set_option maxRecDepth 100000 in
theorem actionEvents_lifted (os : Os) (started : os.Started) (H : Type) (enc : TypeId × Value → H) :
    ReturnsInHanded {} Tryz.checked os 4 .any (Rows.actionEventsSpec.pre6 enc Tryz.prog Tryz.f4 Rows.actionEventsRow.domain false) (Rows.actionEventsSpec.post enc Tryz.prog Tryz.f4 false true false false) := by
  refine returnsInHanded_of_change (C := Tryz.checked) own started (by kernel_rfl) Tryz.func4
    (ChangeSpec.witness6 (enc := enc) (C := Tryz.checked) false ⟨#[], #[.agg #[.int .i64 0, .slice none 0 0, .slice none 0 0, .slice none 0 0], .string ⟨#[]⟩, .agg #[.int .i64 0, .int .i64 0]], []⟩ 12 (by kernel_rfl) (by kernel_rfl) (by kernel_rfl) (by kernel_rfl)) ?_
  intro W base args ds gs before hval hW hcnd _
  exact law_calls (P := Tryz.prog) (fn := Tryz.f4) laidOut rfl rfl (fun ds h => match ds, h with | [d1, d2, d3], _ => rfl) (by kernel_rfl) actionEvents_tys (by kernel_rfl) Tryz.underlying4 actionEvents_in hval hW
theorem actionEvents_over : Rows.actionEventsRow.holds Tryz.pinned (OpenSpec.ofChange Rows.actionEventsSpec) :=
  OpenClaim.holds_of_wide 4 Tryz.f4 rfl rfl rfl rfl rfl rfl rfl ⟨rfl, rfl, rfl, rfl, rfl⟩ rfl rfl rfl rfl rfl (by kernel_rfl) Tryz.func4 (by kernel_rfl)
    (of_decide_eq_true (by kernel_rfl)) (by unfold Func.isWrapper; first | (rw [if_pos (by decide +kernel)]; kernel_rfl) | (rw [if_neg (by decide +kernel)]; exact ⟨rfl, rfl⟩))
    (fun os started H enc _ => actionEvents_lifted os started H enc)
theorem actionEvents_holds : Rows.ActionEventsSaid := actionEvents_over
end Go.Proofs.YtbcjcbcakcdnfaaGreat
