/- The law PlateBars holds: whatever the input, it answers true, and the input reads as it did. No condition. -/
import Derived.Test.YteogokmbedmkjaaRows
import Derived.Test.YteogokmbedmkjaaYC
import Derived.Test.YteogokmbedmkjaaG30
import Derived.ProofKit
import Derived.OpenShut
namespace Go.Proofs.Yteogokmbedmkjaa
open Go.RowKit Go.ChangeShapes Go.WideShapes Go.ChangeAt
theorem own : ownKnob Try.prog.godebug = none := by kernel_rfl
theorem laidOut : laidOutB Try.prog = true := by kernel_rfl
theorem plateBars_tys : tysOf Try.prog Try.f4.params.toList = some [.sl (.int .i64), .sl (.agg [.int .i64, .int .i64])] := by kernel_rfl
theorem plateBars_in (us : List V) (h : OkVs [.sl (.int .i64), .sl (.agg [.int .i64, .int .i64])] us) : Gives Try.prog 4 us [] (.bool true) := by
  obtain ⟨c0, u1, rfl, h0, h⟩ := okVs_sl h
  obtain ⟨c1, u2, rfl, h1, h⟩ := okVs_sl h
  obtain rfl := okVs_nil h
  obtain ⟨xs, rfl, _⟩ := oks_ints h0.2
  obtain ⟨ls, rfl, _⟩ := oks_pairs h1.2
  exact bars_law xs ls []
set_option maxRecDepth 100000 in
theorem plateBars_lifted (os : Os) (started : os.Started) (H : Type) (enc : TypeId × Value → H) :
    ReturnsInHanded {} Try.checked os 4 .any (Rows.plateBarsSpec.pre6 enc Try.prog Try.f4 Rows.plateBarsRow.domain false) (Rows.plateBarsSpec.post enc Try.prog Try.f4 false true false false) := by
  refine returnsInHanded_of_change (C := Try.checked) own started (by kernel_rfl) Try.func4
    (ChangeSpec.witness6 (enc := enc) (C := Try.checked) false ⟨#[], #[.slice none 0 0, .slice none 0 0], []⟩ 12 (by kernel_rfl) (by kernel_rfl) (by kernel_rfl) (by kernel_rfl)) ?_
  intro W base args ds gs before hval hW hcnd _
  exact law_calls (P := Try.prog) (fn := Try.f4) laidOut rfl rfl (fun ds h => match ds, h with | [d1, d2], _ => rfl) (by kernel_rfl) plateBars_tys (by kernel_rfl) Try.underlying4 plateBars_in hval hW
theorem plateBars_over : Rows.plateBarsRow.holds Try.pinned (OpenSpec.ofChange Rows.plateBarsSpec) :=
  OpenClaim.holds_of_wide 4 Try.f4 rfl rfl rfl rfl rfl rfl rfl ⟨rfl, rfl, rfl, rfl, rfl⟩ rfl rfl rfl rfl rfl (by kernel_rfl) Try.func4 (by kernel_rfl)
    (of_decide_eq_true (by kernel_rfl)) (by unfold Func.isWrapper; first | (rw [if_pos (by decide +kernel)]; kernel_rfl) | (rw [if_neg (by decide +kernel)]; exact ⟨rfl, rfl⟩))
    (fun os started H enc _ => plateBars_lifted os started H enc)
theorem plateBars_holds : Rows.PlateBarsSaid := plateBars_over
end Go.Proofs.Yteogokmbedmkjaa
