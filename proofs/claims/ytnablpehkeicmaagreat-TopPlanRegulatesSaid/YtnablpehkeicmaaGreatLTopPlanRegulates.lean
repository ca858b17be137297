/- The law TopPlanRegulates holds: whatever the input, it answers true, and the input reads as it did. No condition. -/
import Derived.Test.YtnablpehkeicmaaGreatRows
import Derived.Test.YtnablpehkeicmaaGreatGAK
import Derived.Test.YtnablpehkeicmaaGreatH33
import Derived.ProofKit
import Derived.OpenShut
set_option linter.unusedSimpArgs false
set_option linter.unusedVariables false
namespace Go.Proofs.YtnablpehkeicmaaGreat
open Go.RowKit Go.ChangeShapes Go.WideShapes Go.ChangeAt
theorem own:ownKnob Tryz.prog.godebug=none:=by kernel_rfl
theorem laidOut:laidOutB Tryz.prog=true:=by kernel_rfl
theorem topPlanRegulates_tys:tysOf Tryz.prog Tryz.f3.params.toList=some [.agg TyBn,.sl (.sl TySt),.int .i64]:=by kernel_rfl
theorem topPlanRegulates_in(us:List V)(h:OkVs [.agg TyBn,.sl (.sl TySt),.int .i64] us):Gives Tryz.prog 3 us [] (.bool true):=by
  obtain⟨c0,uc0,rfl,hc0,h⟩:=okVs_agg h
  obtain⟨es,ues,rfl,hes,h⟩:=okVs_sl h
  obtain⟨g,ug,rfl,hg,h⟩:=okVs_int h
  obtain rfl:=okVs_nil h
  obtain⟨b,rfl⟩:=okbn hc0
  obtain⟨l,rfl⟩:=okpls hes.2
  exact plan_law b l g []
set_option maxRecDepth 100000 in
theorem topPlanRegulates_lifted(os:Os)(started:os.Started)(H:Type)(enc:TypeId×Value→H):
    ReturnsInHanded {} Tryz.checked os 3 .any (Rows.topPlanRegulatesSpec.pre6 enc Tryz.prog Tryz.f3 Rows.topPlanRegulatesRow.domain false) (Rows.topPlanRegulatesSpec.post enc Tryz.prog Tryz.f3 false true false false):=by
  refine returnsInHanded_of_change (C:=Tryz.checked) own started (by kernel_rfl) Tryz.func3
    (ChangeSpec.witness6 (enc:=enc) (C:=Tryz.checked) false ⟨#[],#[.agg #[.slice none 0 0,.slice none 0 0],.slice none 0 0,.int .i64 0],[]⟩ 12 (by kernel_rfl) (by kernel_rfl) (by kernel_rfl) (by kernel_rfl)) ?_
  intro W base args ds gs before hval hW hcnd _
  exact law_calls (P:=Tryz.prog) (fn:=Tryz.f3) laidOut rfl rfl (fun ds h=>match ds,h with|[d1,d2,d3],_=>rfl) (by kernel_rfl) topPlanRegulates_tys (by kernel_rfl) Tryz.underlying4 topPlanRegulates_in hval hW
theorem topPlanRegulates_over:Rows.topPlanRegulatesRow.holds Tryz.pinned (OpenSpec.ofChange Rows.topPlanRegulatesSpec):=
  OpenClaim.holds_of_wide 3 Tryz.f3 rfl rfl rfl rfl rfl rfl rfl ⟨rfl,rfl,rfl,rfl,rfl⟩ rfl rfl rfl rfl rfl (by kernel_rfl) Tryz.func3 (by kernel_rfl)
    (of_decide_eq_true (by kernel_rfl)) (by unfold Func.isWrapper;first|(rw [if_pos (by decide +kernel)];kernel_rfl)|(rw [if_neg (by decide +kernel)];exact⟨rfl,rfl⟩))
    (fun os started H enc _=>topPlanRegulates_lifted os started H enc)
theorem topPlanRegulates_holds:Rows.TopPlanRegulatesSaid:=topPlanRegulates_over
end Go.Proofs.YtnablpehkeicmaaGreat
