/- The law PlateLevers holds: whatever the input, it answers true, and the input reads as it did. No condition. -/
import Derived.Test.YteogokmbedmkjaaRows
import Derived.Test.YteogokmbedmkjaaYC
import Derived.Test.YteogokmbedmkjaaG51
import Derived.ProofKit
import Derived.OpenShut
namespace Go.Proofs.Yteogokmbedmkjaa
open Go.RowKit Go.ChangeShapes Go.WideShapes Go.ChangeAt
theorem own : ownKnob Try.prog.godebug = none := by kernel_rfl
theorem laidOut : laidOutB Try.prog = true := by kernel_rfl
theorem plateLevers_tys : tysOf Try.prog Try.f9.params.toList = some [.sl (.int .i64), .sl (.agg [.int .i64, .int .i64])] := by kernel_rfl
theorem plateLevers_in (us : List V) (h : OkVs [.sl (.int .i64), .sl (.agg [.int .i64, .int .i64])] us) : Gives Try.prog 9 us [] (.bool true) := by
  obtain ⟨c0, u1, rfl, h0, h⟩ := okVs_sl h
  obtain ⟨c1, u2, rfl, h1, h⟩ := okVs_sl h
  obtain rfl := okVs_nil h
  obtain ⟨xs, rfl, _⟩ := oks_ints h0.2
  obtain ⟨ls, rfl, _⟩ := oks_pairs h1.2
  exact levers_law xs ls []
set_option maxRecDepth 100000 in
theorem plateLevers_lifted (os : Os) (started : os.Started) (H : Type) (enc : TypeId × Value → H) :
    ReturnsInHanded {} Try.checked os 9 .any (Rows.plateLeversSpec.pre6 enc Try.prog Try.f9 Rows.plateLeversRow.domain false) (Rows.plateLeversSpec.post enc Try.prog Try.f9 false true false false) := by
  refine returnsInHanded_of_change (C := Try.checked) own started (by kernel_rfl) Try.func9
    (ChangeSpec.witness6 (enc := enc) (C := Try.checked) false ⟨#[], #[.slice none 0 0, .slice none 0 0], []⟩ 12 (by kernel_rfl) (by kernel_rfl) (by kernel_rfl) (by kernel_rfl)) ?_
  intro W base args ds gs before hval hW hcnd _
  exact law_calls (P := Try.prog) (fn := Try.f9) laidOut rfl rfl (fun ds h => match ds, h with | [d1, d2], _ => rfl) (by kernel_rfl) plateLevers_tys (by kernel_rfl) Try.underlying4 plateLevers_in hval hW
theorem plateLevers_over : Rows.plateLeversRow.holds Try.pinned (OpenSpec.ofChange Rows.plateLeversSpec) :=
  OpenClaim.holds_of_wide 9 Try.f9 rfl rfl rfl rfl rfl rfl rfl ⟨rfl, rfl, rfl, rfl, rfl⟩ rfl rfl rfl rfl rfl (by kernel_rfl) Try.func9 (by kernel_rfl)
    (of_decide_eq_true (by kernel_rfl)) (by unfold Func.isWrapper; first | (rw [if_pos (by decide +kernel)]; kernel_rfl) | (rw [if_neg (by decide +kernel)]; exact ⟨rfl, rfl⟩))
    (fun os started H enc _ => plateLevers_lifted os started H enc)
theorem plateLevers_holds : Rows.PlateLeversSaid := plateLevers_over
end Go.Proofs.Yteogokmbedmkjaa
