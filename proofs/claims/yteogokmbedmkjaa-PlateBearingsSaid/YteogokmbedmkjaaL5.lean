/- The law PlateBearings holds: whatever the input, it answers true, and the input reads as it did. No condition. -/
import Derived.Test.YteogokmbedmkjaaRows
import Derived.Test.YteogokmbedmkjaaE1
import Derived.Test.YteogokmbedmkjaaG20
import Derived.ProofKit
import Derived.OpenShut
namespace Go.Proofs.Yteogokmbedmkjaa
open Go.RowKit Go.ChangeShapes Go.WideShapes Go.ChangeAt
theorem own : ownKnob Try.prog.godebug = none := by kernel_rfl
theorem laidOut : laidOutB Try.prog = true := by kernel_rfl
theorem plateBearings_tys : tysOf Try.prog Try.f5.params.toList = some [.agg [.int .i64, .int .i64, .int .i64, .int .i64, .int .i64], .int .i64] := by kernel_rfl
theorem plateBearings_in (us : List V) (h : OkVs [.agg [.int .i64, .int .i64, .int .i64, .int .i64, .int .i64], .int .i64] us) : Gives Try.prog 5 us [] (.bool true) := by
  obtain ⟨c0, u1, rfl, h0, h⟩ := okVs_agg h
  obtain ⟨t, u2, rfl, _, h⟩ := okVs_int h
  obtain rfl := okVs_nil h
  obtain ⟨a, _, rfl, _, h0⟩ := okcL_int h0
  obtain ⟨b, _, rfl, _, h0⟩ := okcL_int h0
  obtain ⟨c, _, rfl, _, h0⟩ := okcL_int h0
  obtain ⟨d, _, rfl, _, h0⟩ := okcL_int h0
  obtain ⟨e, _, rfl, _, h0⟩ := okcL_int h0
  obtain rfl := okcL_nil h0
  exact bearings_law a b c d e t []
set_option maxRecDepth 100000 in
theorem plateBearings_lifted (os : Os) (started : os.Started) (H : Type) (enc : TypeId × Value → H) :
    ReturnsInHanded {} Try.checked os 5 .any (Rows.plateBearingsSpec.pre6 enc Try.prog Try.f5 Rows.plateBearingsRow.domain false) (Rows.plateBearingsSpec.post enc Try.prog Try.f5 false true false false) := by
  refine returnsInHanded_of_change (C := Try.checked) own started (by kernel_rfl) Try.func5
    (ChangeSpec.witness6 (enc := enc) (C := Try.checked) false ⟨#[], #[.agg #[.int .i64 0, .int .i64 0, .int .i64 0, .int .i64 0, .int .i64 0], .int .i64 0], []⟩ 12 (by kernel_rfl) (by kernel_rfl) (by kernel_rfl) (by kernel_rfl)) ?_
  intro W base args ds gs before hval hW hcnd _
  exact law_calls (P := Try.prog) (fn := Try.f5) laidOut rfl rfl (fun ds h => match ds, h with | [d1, d2], _ => rfl) (by kernel_rfl) plateBearings_tys (by kernel_rfl) Try.underlying4 plateBearings_in hval hW
theorem plateBearings_over : Rows.plateBearingsRow.holds Try.pinned (OpenSpec.ofChange Rows.plateBearingsSpec) :=
  OpenClaim.holds_of_wide 5 Try.f5 rfl rfl rfl rfl rfl rfl rfl ⟨rfl, rfl, rfl, rfl, rfl⟩ rfl rfl rfl rfl rfl (by kernel_rfl) Try.func5 (by kernel_rfl)
    (of_decide_eq_true (by kernel_rfl)) (by unfold Func.isWrapper; first | (rw [if_pos (by decide +kernel)]; kernel_rfl) | (rw [if_neg (by decide +kernel)]; exact ⟨rfl, rfl⟩))
    (fun os started H enc _ => plateBearings_lifted os started H enc)
theorem plateBearings_holds : Rows.PlateBearingsSaid := plateBearings_over
end Go.Proofs.Yteogokmbedmkjaa
