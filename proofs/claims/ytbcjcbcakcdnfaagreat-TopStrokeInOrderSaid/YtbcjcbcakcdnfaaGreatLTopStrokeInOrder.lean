/- The law TopStrokeInOrder holds: whatever the input, it answers true, and the input reads as it did. No condition. -/
import Derived.Test.YtbcjcbcakcdnfaaGreatRows
import Derived.Test.YtbcjcbcakcdnfaaGreatE4
import Derived.Test.YtbcjcbcakcdnfaaGreatH15
import Derived.ProofKit
import Derived.OpenShut
set_option linter.unusedSimpArgs false
set_option linter.unusedVariables false
namespace Go.Proofs.YtbcjcbcakcdnfaaGreat
open Go.RowKit Go.ChangeShapes Go.WideShapes Go.ChangeAt
theorem own : ownKnob Tryz.prog.godebug = none := by kernel_rfl
theorem laidOut : laidOutB Tryz.prog = true := by kernel_rfl
theorem topStrokeInOrder_tys : tysOf Tryz.prog Tryz.f5.params.toList = some [.agg TyAc, .sl .str, .agg [TyFr, .int .i64]] := by kernel_rfl
theorem oktxs {es : List (List V)} (h : ∀ x ∈ es, Okc .str x) : ∃ o : Nms, es = txV o := by
  induction es with
  | nil => exact ⟨[], rfl⟩
  | cons x xs ih =>
    obtain ⟨o, rfl⟩ := ih fun y hy => h y (List.mem_cons_of_mem _ hy)
    obtain ⟨s, rfl, _⟩ := h x List.mem_cons_self
    exact ⟨s :: o, rfl⟩
theorem okstk {cs : List V} (h : OkcL [TyFr, .int .i64] cs) : ∃ a b c : Int, cs = [.int .i64 a, .int .i64 b, .int .i64 c] := by
  obtain ⟨p, q, rfl, h1, h2⟩ := h
  obtain ⟨a, _, rfl, _, g1⟩ := okcL_int h1
  obtain ⟨b, _, rfl, _, g2⟩ := okcL_int g1
  obtain rfl := okcL_nil g2
  obtain ⟨c, _, rfl, _, g3⟩ := okcL_int h2
  obtain rfl := okcL_nil g3
  exact ⟨a, b, c, rfl⟩
theorem topStrokeInOrder_in (us : List V) (h : OkVs [.agg TyAc, .sl .str, .agg [TyFr, .int .i64]] us) : Gives Tryz.prog 5 us [] (.bool true) := by
  obtain ⟨c0, uc0, rfl, hc0, h⟩ := okVs_agg h
  obtain ⟨es, ues, rfl, hes, h⟩ := okVs_sl h
  obtain ⟨c1, uc1, rfl, hc1, h⟩ := okVs_agg h
  obtain rfl := okVs_nil h
  obtain ⟨a, rfl⟩ := okact hc0
  obtain ⟨o, rfl⟩ := oktxs hes.2
  obtain ⟨n, d, g, rfl⟩ := okstk hc1
  exact stroke_law a o n d g []
set_option maxRecDepth 100000 in
theorem topStrokeInOrder_lifted (os : Os) (started : os.Started) (H : Type) (enc : TypeId × Value → H) :
    ReturnsInHanded {} Tryz.checked os 5 .any (Rows.topStrokeInOrderSpec.pre6 enc Tryz.prog Tryz.f5 Rows.topStrokeInOrderRow.domain false) (Rows.topStrokeInOrderSpec.post enc Tryz.prog Tryz.f5 false true false false) := by
  refine returnsInHanded_of_change (C := Tryz.checked) own started (by kernel_rfl) Tryz.func5
    (ChangeSpec.witness6 (enc := enc) (C := Tryz.checked) false ⟨#[], #[.agg #[.int .i64 0, .slice none 0 0, .slice none 0 0, .slice none 0 0], .slice none 0 0, .agg #[.int .i64 0, .int .i64 0, .int .i64 0]], []⟩ 12 (by kernel_rfl) (by kernel_rfl) (by kernel_rfl) (by kernel_rfl)) ?_
  intro W base args ds gs before hval hW hcnd _
  exact law_calls (P := Tryz.prog) (fn := Tryz.f5) laidOut rfl rfl (fun ds h => match ds, h with | [d1, d2, d3], _ => rfl) (by kernel_rfl) topStrokeInOrder_tys (by kernel_rfl) Tryz.underlying4 topStrokeInOrder_in hval hW
theorem topStrokeInOrder_over : Rows.topStrokeInOrderRow.holds Tryz.pinned (OpenSpec.ofChange Rows.topStrokeInOrderSpec) :=
  OpenClaim.holds_of_wide 5 Tryz.f5 rfl rfl rfl rfl rfl rfl rfl ⟨rfl, rfl, rfl, rfl, rfl⟩ rfl rfl rfl rfl rfl (by kernel_rfl) Tryz.func5 (by kernel_rfl)
    (of_decide_eq_true (by kernel_rfl)) (by unfold Func.isWrapper; first | (rw [if_pos (by decide +kernel)]; kernel_rfl) | (rw [if_neg (by decide +kernel)]; exact ⟨rfl, rfl⟩))
    (fun os started H enc _ => topStrokeInOrder_lifted os started H enc)
theorem topStrokeInOrder_holds : Rows.TopStrokeInOrderSaid := topStrokeInOrder_over
end Go.Proofs.YtbcjcbcakcdnfaaGreat
