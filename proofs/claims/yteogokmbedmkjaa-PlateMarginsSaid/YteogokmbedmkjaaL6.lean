/- The law PlateMargins holds: whatever the input, it answers true, and the input reads as it did. No condition. -/
import Derived.Test.YteogokmbedmkjaaRows
import Derived.Test.YteogokmbedmkjaaE1
import Derived.Test.YteogokmbedmkjaaG21
import Derived.ProofKit
import Derived.OpenShut
namespace Go.Proofs.Yteogokmbedmkjaa
open Go.RowKit Go.ChangeShapes Go.WideShapes Go.ChangeAt
theorem own : ownKnob Try.prog.godebug = none := by kernel_rfl
theorem laidOut : laidOutB Try.prog = true := by kernel_rfl
theorem plateMargins_tys : tysOf Try.prog Try.f6.params.toList = some [.agg [.int .i64, .int .i64], .agg [.int .i64, .int .i64]] := by kernel_rfl
theorem plateMargins_in (us : List V) (h : OkVs [.agg [.int .i64, .int .i64], .agg [.int .i64, .int .i64]] us) : Gives Try.prog 6 us [] (.bool true) := by
  obtain ⟨c0, u1, rfl, h0, h⟩ := okVs_agg h
  obtain ⟨c1, u2, rfl, h1, h⟩ := okVs_agg h
  obtain rfl := okVs_nil h
  obtain ⟨a, _, rfl, ba, h0⟩ := okcL_int h0
  obtain ⟨b, _, rfl, bb, h0⟩ := okcL_int h0
  obtain rfl := okcL_nil h0
  obtain ⟨c, _, rfl, bc, h1⟩ := okcL_int h1
  obtain ⟨d, _, rfl, bd, h1⟩ := okcL_int h1
  obtain rfl := okcL_nil h1
  simp only [i64min, i64max'] at ba bb bc bd
  exact margins_law a b c d ba.1 ba.2 bb.2 bc.1 bc.2 bd.2 []
set_option maxRecDepth 100000 in
theorem plateMargins_lifted (os : Os) (started : os.Started) (H : Type) (enc : TypeId × Value → H) :
    ReturnsInHanded {} Try.checked os 6 .any (Rows.plateMarginsSpec.pre6 enc Try.prog Try.f6 Rows.plateMarginsRow.domain false) (Rows.plateMarginsSpec.post enc Try.prog Try.f6 false true false false) := by
  refine returnsInHanded_of_change (C := Try.checked) own started (by kernel_rfl) Try.func6
    (ChangeSpec.witness6 (enc := enc) (C := Try.checked) false ⟨#[], #[.agg #[.int .i64 0, .int .i64 0], .agg #[.int .i64 0, .int .i64 0]], []⟩ 12 (by kernel_rfl) (by kernel_rfl) (by kernel_rfl) (by kernel_rfl)) ?_
  intro W base args ds gs before hval hW hcnd _
  exact law_calls (P := Try.prog) (fn := Try.f6) laidOut rfl rfl (fun ds h => match ds, h with | [d1, d2], _ => rfl) (by kernel_rfl) plateMargins_tys (by kernel_rfl) Try.underlying4 plateMargins_in hval hW
theorem plateMargins_over : Rows.plateMarginsRow.holds Try.pinned (OpenSpec.ofChange Rows.plateMarginsSpec) :=
  OpenClaim.holds_of_wide 6 Try.f6 rfl rfl rfl rfl rfl rfl rfl ⟨rfl, rfl, rfl, rfl, rfl⟩ rfl rfl rfl rfl rfl (by kernel_rfl) Try.func6 (by kernel_rfl)
    (of_decide_eq_true (by kernel_rfl)) (by unfold Func.isWrapper; first | (rw [if_pos (by decide +kernel)]; kernel_rfl) | (rw [if_neg (by decide +kernel)]; exact ⟨rfl, rfl⟩))
    (fun os started H enc _ => plateMargins_lifted os started H enc)
theorem plateMargins_holds : Rows.PlateMarginsSaid := plateMargins_over
end Go.Proofs.Yteogokmbedmkjaa
