/- The law PlateBridges holds: whatever the input, it answers true, and the input reads as it did. No condition. -/
import Derived.Test.YteogokmbedmkjaaRows
import Derived.Test.YteogokmbedmkjaaG47
import Derived.Test.YteogokmbedmkjaaG49
import Derived.ProofKit
import Derived.OpenShut
namespace Go.Proofs.Yteogokmbedmkjaa
open Go.RowKit Go.ChangeShapes Go.WideShapes Go.ChangeAt
theorem own : ownKnob Try.prog.godebug = none := by kernel_rfl
theorem laidOut : laidOutB Try.prog = true := by kernel_rfl
theorem plateBridges_tys : tysOf Try.prog Try.f8.params.toList = some [.sl (.agg [.int .i64, .int .i64, .int .i64, .int .i64, .int .i64]), .sl (.agg [.int .i64, .int .i64])] := by kernel_rfl
theorem plateBridges_in (us : List V) (h : OkVs [.sl (.agg [.int .i64, .int .i64, .int .i64, .int .i64, .int .i64]), .sl (.agg [.int .i64, .int .i64])] us) : Gives Try.prog 8 us [] (.bool true) := by
  obtain ⟨c0, u1, rfl, h0, h⟩ := okVs_sl h
  obtain ⟨c1, u2, rfl, h1, h⟩ := okVs_sl h
  obtain rfl := okVs_nil h
  obtain ⟨bs, rfl⟩ := oks_brs h0.2
  obtain ⟨ts, rfl, _⟩ := oks_pairs h1.2
  exact bridges_law bs ts []
set_option maxRecDepth 100000 in
theorem plateBridges_lifted (os : Os) (started : os.Started) (H : Type) (enc : TypeId × Value → H) :
    ReturnsInHanded {} Try.checked os 8 .any (Rows.plateBridgesSpec.pre6 enc Try.prog Try.f8 Rows.plateBridgesRow.domain false) (Rows.plateBridgesSpec.post enc Try.prog Try.f8 false true false false) := by
  refine returnsInHanded_of_change (C := Try.checked) own started (by kernel_rfl) Try.func8
    (ChangeSpec.witness6 (enc := enc) (C := Try.checked) false ⟨#[], #[.slice none 0 0, .slice none 0 0], []⟩ 12 (by kernel_rfl) (by kernel_rfl) (by kernel_rfl) (by kernel_rfl)) ?_
  intro W base args ds gs before hval hW hcnd _
  exact law_calls (P := Try.prog) (fn := Try.f8) laidOut rfl rfl (fun ds h => match ds, h with | [d1, d2], _ => rfl) (by kernel_rfl) plateBridges_tys (by kernel_rfl) Try.underlying4 plateBridges_in hval hW
theorem plateBridges_over : Rows.plateBridgesRow.holds Try.pinned (OpenSpec.ofChange Rows.plateBridgesSpec) :=
  OpenClaim.holds_of_wide 8 Try.f8 rfl rfl rfl rfl rfl rfl rfl ⟨rfl, rfl, rfl, rfl, rfl⟩ rfl rfl rfl rfl rfl (by kernel_rfl) Try.func8 (by kernel_rfl)
    (of_decide_eq_true (by kernel_rfl)) (by unfold Func.isWrapper; first | (rw [if_pos (by decide +kernel)]; kernel_rfl) | (rw [if_neg (by decide +kernel)]; exact ⟨rfl, rfl⟩))
    (fun os started H enc _ => plateBridges_lifted os started H enc)
theorem plateBridges_holds : Rows.PlateBridgesSaid := plateBridges_over
end Go.Proofs.Yteogokmbedmkjaa
