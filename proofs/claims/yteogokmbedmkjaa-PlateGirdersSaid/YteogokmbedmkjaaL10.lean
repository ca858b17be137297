/- The law PlateGirders holds: whatever the input, it answers true, and the input reads as it did. No condition. -/
import Derived.Test.YteogokmbedmkjaaRows
import Derived.Test.YteogokmbedmkjaaE3
import Derived.Test.YteogokmbedmkjaaG42
import Derived.ProofKit
import Derived.OpenShut
namespace Go.Proofs.Yteogokmbedmkjaa
open Go.RowKit Go.ChangeShapes Go.WideShapes Go.ChangeAt
theorem own : ownKnob Try.prog.godebug = none := by kernel_rfl
theorem laidOut : laidOutB Try.prog = true := by kernel_rfl
theorem plateGirders_tys : tysOf Try.prog Try.f10.params.toList = some [.agg [.int .i64, .int .i64, .int .i64], .sl (.agg [.int .i64, .int .i64])] := by kernel_rfl
theorem plateGirders_in (us : List V) (h : OkVs [.agg [.int .i64, .int .i64, .int .i64], .sl (.agg [.int .i64, .int .i64])] us) : Gives Try.prog 10 us [] (.bool true) := by
  obtain ⟨c0, u1, rfl, h0, h⟩ := okVs_agg h
  obtain ⟨c1, u2, rfl, h1, h⟩ := okVs_sl h
  obtain rfl := okVs_nil h
  obtain ⟨a, b, c, rfl, ha, hb, hc⟩ := okv3 h0
  obtain ⟨ls, rfl, _⟩ := oks_pairs h1.2
  exact girders_law a b c ls []
set_option maxRecDepth 100000 in
theorem plateGirders_lifted (os : Os) (started : os.Started) (H : Type) (enc : TypeId × Value → H) :
    ReturnsInHanded {} Try.checked os 10 .any (Rows.plateGirdersSpec.pre6 enc Try.prog Try.f10 Rows.plateGirdersRow.domain false) (Rows.plateGirdersSpec.post enc Try.prog Try.f10 false true false false) := by
  refine returnsInHanded_of_change (C := Try.checked) own started (by kernel_rfl) Try.func10
    (ChangeSpec.witness6 (enc := enc) (C := Try.checked) false ⟨#[], #[.agg #[.int .i64 0, .int .i64 0, .int .i64 0], .slice none 0 0], []⟩ 12 (by kernel_rfl) (by kernel_rfl) (by kernel_rfl) (by kernel_rfl)) ?_
  intro W base args ds gs before hval hW hcnd _
  exact law_calls (P := Try.prog) (fn := Try.f10) laidOut rfl rfl (fun ds h => match ds, h with | [d1, d2], _ => rfl) (by kernel_rfl) plateGirders_tys (by kernel_rfl) Try.underlying4 plateGirders_in hval hW
theorem plateGirders_over : Rows.plateGirdersRow.holds Try.pinned (OpenSpec.ofChange Rows.plateGirdersSpec) :=
  OpenClaim.holds_of_wide 10 Try.f10 rfl rfl rfl rfl rfl rfl rfl ⟨rfl, rfl, rfl, rfl, rfl⟩ rfl rfl rfl rfl rfl (by kernel_rfl) Try.func10 (by kernel_rfl)
    (of_decide_eq_true (by kernel_rfl)) (by unfold Func.isWrapper; first | (rw [if_pos (by decide +kernel)]; kernel_rfl) | (rw [if_neg (by decide +kernel)]; exact ⟨rfl, rfl⟩))
    (fun os started H enc _ => plateGirders_lifted os started H enc)
theorem plateGirders_holds : Rows.PlateGirdersSaid := plateGirders_over
end Go.Proofs.Yteogokmbedmkjaa
