/- The law ActionOrders holds: whatever the input, it answers true, and the input reads as it did. No condition. -/
import Derived.Test.YtmigenmibohnkaaGreatRows
import Derived.Test.YtmigenmibohnkaaGreatE4
import Derived.Test.YtmigenmibohnkaaGreatH14
import Derived.ProofKit
import Derived.OpenShut
set_option linter.unusedSimpArgs false
set_option linter.unusedVariables false
namespace Go.Proofs.YtmigenmibohnkaaGreat
open Go.RowKit Go.ChangeShapes Go.WideShapes Go.ChangeAt
theorem own : ownKnob Tryz.prog.godebug = none := by kernel_rfl
theorem laidOut : laidOutB Tryz.prog = true := by kernel_rfl
theorem actionOrders_tys : tysOf Tryz.prog Tryz.f9.params.toList = some [.agg TyAc, .sl .str, .int .i64] := by kernel_rfl
theorem oktxs {es : List (List V)} (h : ∀ x ∈ es, Okc .str x) : ∃ o : Nms, es = txV o := by
  induction es with
  | nil => exact ⟨[], rfl⟩
  | cons x xs ih =>
    obtain ⟨o, rfl⟩ := ih fun y hy => h y (List.mem_cons_of_mem _ hy)
    obtain ⟨s, rfl, _⟩ := h x List.mem_cons_self
    exact ⟨s :: o, rfl⟩
theorem actionOrders_in (us : List V) (h : OkVs [.agg TyAc, .sl .str, .int .i64] us) : Gives Tryz.prog 9 us [] (.bool true) := by
  obtain ⟨c0, uc0, rfl, hc0, h⟩ := okVs_agg h
  obtain ⟨es, ues, rfl, hes, h⟩ := okVs_sl h
  obtain ⟨g, ug, rfl, hg, h⟩ := okVs_int h
  obtain rfl := okVs_nil h
  obtain ⟨a, rfl⟩ := okact hc0
  obtain ⟨o, rfl⟩ := oktxs hes.2
  exact orders_law a o g []
set_option maxRecDepth 100000 in
theorem actionOrders_lifted (os : Os) (started : os.Started) (H : Type) (enc : TypeId × Value → H) :
    ReturnsInHanded {} Tryz.checked os 9 .any (Rows.actionOrdersSpec.pre6 enc Tryz.prog Tryz.f9 Rows.actionOrdersRow.domain false) (Rows.actionOrdersSpec.post enc Tryz.prog Tryz.f9 false true false false) := by
  refine returnsInHanded_of_change (C := Tryz.checked) own started (by kernel_rfl) Tryz.func9
    (ChangeSpec.witness6 (enc := enc) (C := Tryz.checked) false ⟨#[], #[.agg #[.int .i64 0, .slice none 0 0, .slice none 0 0, .slice none 0 0], .slice none 0 0, .int .i64 0], []⟩ 12 (by kernel_rfl) (by kernel_rfl) (by kernel_rfl) (by kernel_rfl)) ?_
  intro W base args ds gs before hval hW hcnd _
  exact law_calls (P := Tryz.prog) (fn := Tryz.f9) laidOut rfl rfl (fun ds h => match ds, h with | [d1, d2, d3], _ => rfl) (by kernel_rfl) actionOrders_tys (by kernel_rfl) Tryz.underlying4 actionOrders_in hval hW
theorem actionOrders_over : Rows.actionOrdersRow.holds Tryz.pinned (OpenSpec.ofChange Rows.actionOrdersSpec) :=
  OpenClaim.holds_of_wide 9 Tryz.f9 rfl rfl rfl rfl rfl rfl rfl ⟨rfl, rfl, rfl, rfl, rfl⟩ rfl rfl rfl rfl rfl (by kernel_rfl) Tryz.func9 (by kernel_rfl)
    (of_decide_eq_true (by kernel_rfl)) (by unfold Func.isWrapper; first | (rw [if_pos (by decide +kernel)]; kernel_rfl) | (rw [if_neg (by decide +kernel)]; exact ⟨rfl, rfl⟩))
    (fun os started H enc _ => actionOrders_lifted os started H enc)
theorem actionOrders_holds : Rows.ActionOrdersSaid := actionOrders_over
end Go.Proofs.YtmigenmibohnkaaGreat
