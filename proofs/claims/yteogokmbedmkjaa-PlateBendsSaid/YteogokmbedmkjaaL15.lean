/- The law PlateBends holds: whatever the input, it answers true, and the input reads as it did. No condition. -/
import Derived.Test.YteogokmbedmkjaaRows
import Derived.Test.YteogokmbedmkjaaE3
import Derived.Test.YteogokmbedmkjaaG46
import Derived.ProofKit
import Derived.OpenShut
namespace Go.Proofs.Yteogokmbedmkjaa
open Go.RowKit Go.ChangeShapes Go.WideShapes Go.ChangeAt
theorem own : ownKnob Try.prog.godebug = none := by kernel_rfl
theorem laidOut : laidOutB Try.prog = true := by kernel_rfl
theorem plateBends_tys : tysOf Try.prog Try.f15.params.toList = some [.agg [.int .i64, .int .i64, .int .i64], .sl (.agg [.int .i64, .int .i64]), .int .i64] := by kernel_rfl
theorem plateBends_in (us : List V) (h : OkVs [.agg [.int .i64, .int .i64, .int .i64], .sl (.agg [.int .i64, .int .i64]), .int .i64] us) : Gives Try.prog 15 us [] (.bool true) := by
  obtain ⟨c0, u1, rfl, h0, h⟩ := okVs_agg h
  obtain ⟨c1, u2, rfl, h1, h⟩ := okVs_sl h
  obtain ⟨x, u3, rfl, hx, h⟩ := okVs_int h
  obtain rfl := okVs_nil h
  obtain ⟨a, b, c, rfl, ha, hb, hc⟩ := okv3 h0
  obtain ⟨ls, rfl, _⟩ := oks_pairs h1.2
  exact bends_law a b c ls x []
set_option maxRecDepth 100000 in
theorem plateBends_lifted (os : Os) (started : os.Started) (H : Type) (enc : TypeId × Value → H) :
    ReturnsInHanded {} Try.checked os 15 .any (Rows.plateBendsSpec.pre6 enc Try.prog Try.f15 Rows.plateBendsRow.domain false) (Rows.plateBendsSpec.post enc Try.prog Try.f15 false true false false) := by
  refine returnsInHanded_of_change (C := Try.checked) own started (by kernel_rfl) Try.func15
    (ChangeSpec.witness6 (enc := enc) (C := Try.checked) false ⟨#[], #[.agg #[.int .i64 0, .int .i64 0, .int .i64 0], .slice none 0 0, .int .i64 0], []⟩ 12 (by kernel_rfl) (by kernel_rfl) (by kernel_rfl) (by kernel_rfl)) ?_
  intro W base args ds gs before hval hW hcnd _
  exact law_calls (P := Try.prog) (fn := Try.f15) laidOut rfl rfl (fun ds h => match ds, h with | [d1, d2, d3], _ => rfl) (by kernel_rfl) plateBends_tys (by kernel_rfl) Try.underlying4 plateBends_in hval hW
theorem plateBends_over : Rows.plateBendsRow.holds Try.pinned (OpenSpec.ofChange Rows.plateBendsSpec) :=
  OpenClaim.holds_of_wide 15 Try.f15 rfl rfl rfl rfl rfl rfl rfl ⟨rfl, rfl, rfl, rfl, rfl⟩ rfl rfl rfl rfl rfl (by kernel_rfl) Try.func15 (by kernel_rfl)
    (of_decide_eq_true (by kernel_rfl)) (by unfold Func.isWrapper; first | (rw [if_pos (by decide +kernel)]; kernel_rfl) | (rw [if_neg (by decide +kernel)]; exact ⟨rfl, rfl⟩))
    (fun os started H enc _ => plateBends_lifted os started H enc)
theorem plateBends_holds : Rows.PlateBendsSaid := plateBends_over
end Go.Proofs.Yteogokmbedmkjaa
