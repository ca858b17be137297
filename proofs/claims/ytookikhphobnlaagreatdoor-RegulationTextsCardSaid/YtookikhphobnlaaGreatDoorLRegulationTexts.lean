/- The law RegulationTexts holds: whatever the input, it answers true, and the input reads as it did. The variables that it reads are tied to the program's text. No condition. -/
import Derived.Test.YtookikhphobnlaaGreatDoorCards
import Derived.Test.YtookikhphobnlaaGreatDoorTie
import Derived.Test.YtookikhphobnlaaGreatDoorE8
import Derived.Test.YtookikhphobnlaaGreatDoorGAR
import Derived.SevenTiedAt
set_option linter.unusedSimpArgs false
set_option linter.unusedVariables false
namespace Go.Proofs.YtookikhphobnlaaGreatDoor
open Go.RowKit Go.ChangeShapes Go.WideShapes Go.ChangeAt
theorem regulationTexts_tys:tysOf Tryz.prog Tryz.f3.params.toList=some [.str,.agg [.int .i64,.int .i64],.str]:=by kernel_rfl
theorem regulationTexts_in(us:List V)(h:OkVs [.str,.agg [.int .i64,.int .i64],.str] us):Gives Tryz.prog 3 us [] (.bool true):=by
  obtain⟨s,us,rfl,_,h⟩:=okVs_str h
  obtain⟨c0,uc0,rfl,hc0,h⟩:=okVs_agg h
  obtain⟨t,ut,rfl,_,h⟩:=okVs_str h
  obtain rfl:=okVs_nil h
  obtain⟨a,_,rfl,ha,g1⟩:=okcL_int hc0
  obtain⟨b,_,rfl,hb,g2⟩:=okcL_int g1
  obtain rfl:=okcL_nil g2
  exact texts_law s t a b ha.1 ha.2 hb.1 hb.2 []
set_option maxRecDepth 100000 in
theorem regulationTexts_lifted(os:Os)(started:os.Started)(H:Type)(enc:TypeId×Value→H):
    ReturnsInHanded {} Tryz.checked os 3 .any (fun w args=>(Rows.regulationTextsSpec.pre enc Tryz.prog Tryz.f3 [] false w args∧laidMetH Tryz.prog laidV w)∧sizedMet enc Tryz.prog Tryz.f3 (OpenSpec.ofChange Rows.regulationTextsSpec) false w args)
      (Rows.regulationTextsSpec.post enc Tryz.prog Tryz.f3 false true false false):=by
  refine ret_shaped (C:=Tryz.checked) (X:=fun w _=>laidMetH Tryz.prog laidV w) (fun _ _ _ hh h=>h.of_heap hh) own started (by kernel_rfl) Tryz.func3
    (ChangeSpec.witness_shaped (enc:=enc) (C:=Tryz.checked) (os:=os) (X:=fun w _=>laidMetH Tryz.prog laidV w) false (World.laidAll Tryz.prog os laidV) #[.string ⟨#[]⟩,.agg #[.int .i64 0,.int .i64 0],.string ⟨#[]⟩] 8 (World.laidAll_os _ _ _) (door_shaped os _) (by kernel_rfl) (by kernel_rfl) (by kernel_rfl) (door_met os _)) ?_
  intro W base args ds gs before hval hW hL hsh
  exact law_calls (P:=Tryz.prog) (fn:=Tryz.f3) laidOut rfl rfl (fun ds h=>match ds,h with|[d1,d2,d3],_=>rfl) (by kernel_rfl) regulationTexts_tys (by kernel_rfl) Tryz.underlying4 regulationTexts_in (glob_ok hL hsh) hval hW
theorem regulationTexts_over:Rows.regulationTextsRow.holds Tryz.pinned (OpenSpec.ofChange Rows.regulationTextsSpec):=
  OpenClaim.holds_of_wide 3 Tryz.f3 rfl rfl rfl rfl rfl rfl rfl ⟨rfl,rfl,rfl,rfl,rfl⟩ rfl rfl rfl rfl rfl (by kernel_rfl) Tryz.func3 (by kernel_rfl)
    (of_decide_eq_true (by kernel_rfl)) (by unfold Func.isWrapper;first|(rw [if_pos (by decide +kernel)];kernel_rfl)|(rw [if_neg (by decide +kernel)];exact⟨rfl,rfl⟩))
    (fun os started H enc _=>regulationTexts_lifted os started H enc)
theorem regulationTexts_card:Rows.RegulationTextsCardSaid:=
  Claim7.holds_tied_plain_at .later [] [.data,.data,.data,.data,.sentinel,.sentinel,.pinned] true (true, "893239818132d482b8f5a2c07815ba9c486e6456e95d8ed6036a09ba2564eb95") true
    regulationTexts_over (fun _ h=>by cases h) (by kernel_rfl) (fun _ h=>by cases h) regulationTexts_row_tie rfl ⟨rfl,rfl⟩ (by kernel_rfl) rfl
    (fun f fn hf hfn=>by
      obtain rfl:f=3:=Option.some.inj ((show Tryz.prog.funcNamed "agraffe/agraffelaw05.RegulationTexts" =some 3 by kernel_rfl).symm.trans hf) |>.symm
      obtain rfl:fn=Tryz.f3:=(Option.some.inj (Tryz.func3.symm.trans hfn)).symm
      exact⟨by kernel_rfl,fun j t ht=>by
        have h3:(Tryz.f3.params.toList.all fun t=>!Tryz.prog.wantsStandIn t)=true:=by kernel_rfl
        have:=List.all_eq_true.1 h3 t (List.mem_of_getElem? (by simpa using ht))
        exact(by simpa using this:Tryz.prog.wantsStandIn t=false)⟩)
    (by kernel_rfl)
end Go.Proofs.YtookikhphobnlaaGreatDoor
