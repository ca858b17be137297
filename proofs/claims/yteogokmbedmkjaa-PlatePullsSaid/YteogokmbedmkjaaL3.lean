/- The law PlatePulls holds: whatever the input, it answers true, and the input reads as it did. No condition. -/
import Derived.Test.YteogokmbedmkjaaRows
import Derived.Test.YteogokmbedmkjaaE1
import Derived.Test.YteogokmbedmkjaaG16
import Derived.ProofKit
import Derived.OpenShut
namespace Go.Proofs.Yteogokmbedmkjaa
open Go.RowKit Go.ChangeShapes Go.WideShapes Go.ChangeAt
theorem own : ownKnob Try.prog.godebug = none := by kernel_rfl
theorem laidOut : laidOutB Try.prog = true := by kernel_rfl
theorem platePulls_tys : tysOf Try.prog Try.f3.params.toList = some [.agg [.int .i64, .int .i64], .agg [.agg [.int .i64, .int .i64, .int .i64], .agg [.int .i64, .int .i64, .int .i64]]] := by kernel_rfl
theorem platePulls_in (us : List V) (h : OkVs [.agg [.int .i64, .int .i64], .agg [.agg [.int .i64, .int .i64, .int .i64], .agg [.int .i64, .int .i64, .int .i64]]] us) : Gives Try.prog 3 us [] (.bool true) := by
  obtain ⟨c0, u1, rfl, h0, h⟩ := okVs_agg h
  obtain ⟨c1, u2, rfl, h1, h⟩ := okVs_agg h
  obtain rfl := okVs_nil h
  obtain ⟨lo, _, rfl, _, h0⟩ := okcL_int h0
  obtain ⟨hi, _, rfl, _, h0⟩ := okcL_int h0
  obtain rfl := okcL_nil h0
  obtain ⟨p, q, rfl, hp, hq⟩ := okcL_agg h1
  obtain ⟨q1, q', rfl, hq1, hq'⟩ := okcL_agg hq
  obtain rfl := okcL_nil hq'
  obtain ⟨a, _, rfl, _, hp⟩ := okcL_int hp
  obtain ⟨b, _, rfl, _, hp⟩ := okcL_int hp
  obtain ⟨c, _, rfl, _, hp⟩ := okcL_int hp
  obtain rfl := okcL_nil hp
  obtain ⟨x, _, rfl, _, hq1⟩ := okcL_int hq1
  obtain ⟨y, _, rfl, _, hq1⟩ := okcL_int hq1
  obtain ⟨z, _, rfl, _, hq1⟩ := okcL_int hq1
  obtain rfl := okcL_nil hq1
  exact pulls_law lo hi a b c x y z []
set_option maxRecDepth 100000 in
theorem platePulls_lifted (os : Os) (started : os.Started) (H : Type) (enc : TypeId × Value → H) :
    ReturnsInHanded {} Try.checked os 3 .any (Rows.platePullsSpec.pre6 enc Try.prog Try.f3 Rows.platePullsRow.domain false) (Rows.platePullsSpec.post enc Try.prog Try.f3 false true false false) := by
  refine returnsInHanded_of_change (C := Try.checked) own started (by kernel_rfl) Try.func3
    (ChangeSpec.witness6 (enc := enc) (C := Try.checked) false ⟨#[], #[.agg #[.int .i64 0, .int .i64 0], .agg #[.int .i64 0, .int .i64 0, .int .i64 0, .int .i64 0, .int .i64 0, .int .i64 0]], []⟩ 12 (by kernel_rfl) (by kernel_rfl) (by kernel_rfl) (by kernel_rfl)) ?_
  intro W base args ds gs before hval hW hcnd _
  exact law_calls (P := Try.prog) (fn := Try.f3) laidOut rfl rfl (fun ds h => match ds, h with | [d1, d2], _ => rfl) (by kernel_rfl) platePulls_tys (by kernel_rfl) Try.underlying4 platePulls_in hval hW
theorem platePulls_over : Rows.platePullsRow.holds Try.pinned (OpenSpec.ofChange Rows.platePullsSpec) :=
  OpenClaim.holds_of_wide 3 Try.f3 rfl rfl rfl rfl rfl rfl rfl ⟨rfl, rfl, rfl, rfl, rfl⟩ rfl rfl rfl rfl rfl (by kernel_rfl) Try.func3 (by kernel_rfl)
    (of_decide_eq_true (by kernel_rfl)) (by unfold Func.isWrapper; first | (rw [if_pos (by decide +kernel)]; kernel_rfl) | (rw [if_neg (by decide +kernel)]; exact ⟨rfl, rfl⟩))
    (fun os started H enc _ => platePulls_lifted os started H enc)
theorem platePulls_holds : Rows.PlatePullsSaid := platePulls_over
end Go.Proofs.Yteogokmbedmkjaa
