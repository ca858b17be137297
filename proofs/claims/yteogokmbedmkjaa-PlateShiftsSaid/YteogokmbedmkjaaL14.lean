/- The law PlateShifts holds: whatever the input, it answers true, and the input reads as it did. No condition. -/
import Derived.Test.YteogokmbedmkjaaRows
import Derived.Test.YteogokmbedmkjaaE3
import Derived.Test.YteogokmbedmkjaaG35
import Derived.ProofKit
import Derived.OpenShut
namespace Go.Proofs.Yteogokmbedmkjaa
open Go.RowKit Go.ChangeShapes Go.WideShapes Go.ChangeAt
theorem own : ownKnob Try.prog.godebug = none := by kernel_rfl
theorem laidOut : laidOutB Try.prog = true := by kernel_rfl
theorem plateShifts_tys : tysOf Try.prog Try.f14.params.toList = some [.sl (.agg [.agg [.int .i64, .int .i64, .int .i64], .agg [.int .i64, .int .i64, .int .i64]]), .agg [.int .i64, .int .i64, .int .i64]] := by kernel_rfl
theorem plateShifts_in (us : List V) (h : OkVs [.sl (.agg [.agg [.int .i64, .int .i64, .int .i64], .agg [.int .i64, .int .i64, .int .i64]]), .agg [.int .i64, .int .i64, .int .i64]] us) : Gives Try.prog 14 us [] (.bool true) := by
  obtain ⟨c0, u1, rfl, h0, h⟩ := okVs_sl h
  obtain ⟨c1, u2, rfl, h1, h⟩ := okVs_agg h
  obtain rfl := okVs_nil h
  obtain ⟨l, rfl⟩ := oks_pls h0.2
  obtain ⟨a, b, c, rfl, ha, hb, hc⟩ := okv3 h1
  exact shifts_law l a b c []
set_option maxRecDepth 100000 in
theorem plateShifts_lifted (os : Os) (started : os.Started) (H : Type) (enc : TypeId × Value → H) :
    ReturnsInHanded {} Try.checked os 14 .any (Rows.plateShiftsSpec.pre6 enc Try.prog Try.f14 Rows.plateShiftsRow.domain false) (Rows.plateShiftsSpec.post enc Try.prog Try.f14 false true false false) := by
  refine returnsInHanded_of_change (C := Try.checked) own started (by kernel_rfl) Try.func14
    (ChangeSpec.witness6 (enc := enc) (C := Try.checked) false ⟨#[], #[.slice none 0 0, .agg #[.int .i64 0, .int .i64 0, .int .i64 0]], []⟩ 12 (by kernel_rfl) (by kernel_rfl) (by kernel_rfl) (by kernel_rfl)) ?_
  intro W base args ds gs before hval hW hcnd _
  exact law_calls (P := Try.prog) (fn := Try.f14) laidOut rfl rfl (fun ds h => match ds, h with | [d1, d2], _ => rfl) (by kernel_rfl) plateShifts_tys (by kernel_rfl) Try.underlying4 plateShifts_in hval hW
theorem plateShifts_over : Rows.plateShiftsRow.holds Try.pinned (OpenSpec.ofChange Rows.plateShiftsSpec) :=
  OpenClaim.holds_of_wide 14 Try.f14 rfl rfl rfl rfl rfl rfl rfl ⟨rfl, rfl, rfl, rfl, rfl⟩ rfl rfl rfl rfl rfl (by kernel_rfl) Try.func14 (by kernel_rfl)
    (of_decide_eq_true (by kernel_rfl)) (by unfold Func.isWrapper; first | (rw [if_pos (by decide +kernel)]; kernel_rfl) | (rw [if_neg (by decide +kernel)]; exact ⟨rfl, rfl⟩))
    (fun os started H enc _ => plateShifts_lifted os started H enc)
theorem plateShifts_holds : Rows.PlateShiftsSaid := plateShifts_over
end Go.Proofs.Yteogokmbedmkjaa
