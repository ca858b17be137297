/- The law PlateWorst holds: whatever the input, it answers true, and the input reads as it did. No condition. -/
import Derived.Test.YtppbjbfilkileaaRows
import Derived.Test.YtppbjbfilkileaaGAA
import Derived.Test.YtppbjbfilkileaaW6
import Derived.ProofKit
import Derived.OpenShut
set_option linter.unusedSimpArgs false
set_option linter.unusedVariables false
namespace Go.Proofs.Ytppbjbfilkileaa
open Go.RowKit Go.ChangeShapes Go.WideShapes Go.ChangeAt
theorem own:ownKnob Try.prog.godebug=none:=by kernel_rfl
theorem laidOut:laidOutB Try.prog=true:=by kernel_rfl
theorem plateWorst_tys:tysOf Try.prog Try.f3.params.toList=some [.agg [.int .i64,.int .i64,.int .i64],.sl (.agg [.int .i64,.int .i64]),.int .i64]:=by kernel_rfl
theorem plateWorst_in(us:List V)(h:OkVs [.agg [.int .i64,.int .i64,.int .i64],.sl (.agg [.int .i64,.int .i64]),.int .i64] us):Gives Try.prog 3 us [] (.bool true):=by
  obtain⟨c0,u1,rfl,h0,h⟩:=okVs_agg h
  obtain⟨c1,u2,rfl,h1,h⟩:=okVs_sl h
  obtain⟨x,u3,rfl,hx,h⟩:=okVs_int h
  obtain rfl:=okVs_nil h
  obtain⟨a,b,c,rfl,ha,hb,hc⟩:=okv3 h0
  obtain⟨ls,rfl,_⟩:=oks_pairs h1.2
  exact worst_law a b c ls x []
set_option maxRecDepth 100000 in
theorem plateWorst_lifted(os:Os)(started:os.Started)(H:Type)(enc:TypeId×Value→H):
    ReturnsInHanded {} Try.checked os 3 .any (Rows.plateWorstSpec.pre6 enc Try.prog Try.f3 Rows.plateWorstRow.domain false) (Rows.plateWorstSpec.post enc Try.prog Try.f3 false true false false):=by
  refine returnsInHanded_of_change (C:=Try.checked) own started (by kernel_rfl) Try.func3
    (ChangeSpec.witness6 (enc:=enc) (C:=Try.checked) false ⟨#[],#[.agg #[.int .i64 0,.int .i64 0,.int .i64 0],.slice none 0 0,.int .i64 0],[]⟩ 12 (by kernel_rfl) (by kernel_rfl) (by kernel_rfl) (by kernel_rfl)) ?_
  intro W base args ds gs before hval hW hcnd _
  exact law_calls (P:=Try.prog) (fn:=Try.f3) laidOut rfl rfl (fun ds h=>match ds,h with|[d1,d2,d3],_=>rfl) (by kernel_rfl) plateWorst_tys (by kernel_rfl) Try.underlying4 plateWorst_in hval hW
theorem plateWorst_over:Rows.plateWorstRow.holds Try.pinned (OpenSpec.ofChange Rows.plateWorstSpec):=
  OpenClaim.holds_of_wide 3 Try.f3 rfl rfl rfl rfl rfl rfl rfl ⟨rfl,rfl,rfl,rfl,rfl⟩ rfl rfl rfl rfl rfl (by kernel_rfl) Try.func3 (by kernel_rfl)
    (of_decide_eq_true (by kernel_rfl)) (by unfold Func.isWrapper;first|(rw [if_pos (by decide +kernel)];kernel_rfl)|(rw [if_neg (by decide +kernel)];exact⟨rfl,rfl⟩))
    (fun os started H enc _=>plateWorst_lifted os started H enc)
theorem plateWorst_holds:Rows.PlateWorstSaid:=plateWorst_over
end Go.Proofs.Ytppbjbfilkileaa
