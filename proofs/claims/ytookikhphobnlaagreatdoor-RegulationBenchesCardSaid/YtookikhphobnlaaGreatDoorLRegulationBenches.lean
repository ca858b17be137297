/- The law RegulationBenches holds: whatever the input, it answers true, and the input reads as it did. The variables that it reads are tied to the program's text. No condition. -/
import Derived.Test.YtookikhphobnlaaGreatDoorCards
import Derived.Test.YtookikhphobnlaaGreatDoorTie
import Derived.Test.YtookikhphobnlaaGreatDoorE8
import Derived.Test.YtookikhphobnlaaGreatDoorE6
import Derived.Test.YtookikhphobnlaaGreatDoorGAR
import Derived.SevenTiedAt
set_option linter.unusedSimpArgs false
set_option linter.unusedVariables false
namespace Go.Proofs.YtookikhphobnlaaGreatDoor
open Go.RowKit Go.ChangeShapes Go.WideShapes Go.ChangeAt
theorem regulationBenches_tys:tysOf Tryz.prog Tryz.f4.params.toList=some [.agg TyBn]:=by kernel_rfl
theorem regulationBenches_in(us:List V)(h:OkVs [.agg TyBn] us):Gives Tryz.prog 4 us [] (.bool true):=by
  obtain⟨c0,uc0,rfl,hc0,h⟩:=okVs_agg h
  obtain rfl:=okVs_nil h
  obtain⟨b,rfl⟩:=okbn hc0
  exact benches_law b []
set_option maxRecDepth 100000 in
theorem regulationBenches_lifted(os:Os)(started:os.Started)(H:Type)(enc:TypeId×Value→H):
    ReturnsInHanded {} Tryz.checked os 4 .any (fun w args=>(Rows.regulationBenchesSpec.pre enc Tryz.prog Tryz.f4 [] false w args∧laidMetH Tryz.prog laidV w)∧sizedMet enc Tryz.prog Tryz.f4 (OpenSpec.ofChange Rows.regulationBenchesSpec) false w args)
      (Rows.regulationBenchesSpec.post enc Tryz.prog Tryz.f4 false true false false):=by
  refine ret_shaped (C:=Tryz.checked) (X:=fun w _=>laidMetH Tryz.prog laidV w) (fun _ _ _ hh h=>h.of_heap hh) own started (by kernel_rfl) Tryz.func4
    (ChangeSpec.witness_shaped (enc:=enc) (C:=Tryz.checked) (os:=os) (X:=fun w _=>laidMetH Tryz.prog laidV w) false (World.laidAll Tryz.prog os laidV) #[.agg #[.slice none 0 0,.slice none 0 0]] 8 (World.laidAll_os _ _ _) (door_shaped os _) (by kernel_rfl) (by kernel_rfl) (by kernel_rfl) (door_met os _)) ?_
  intro W base args ds gs before hval hW hL hsh
  exact law_calls (P:=Tryz.prog) (fn:=Tryz.f4) laidOut rfl rfl (fun ds h=>match ds,h with|[d1],_=>rfl) (by kernel_rfl) regulationBenches_tys (by kernel_rfl) Tryz.underlying4 regulationBenches_in (glob_ok hL hsh) hval hW
theorem regulationBenches_over:Rows.regulationBenchesRow.holds Tryz.pinned (OpenSpec.ofChange Rows.regulationBenchesSpec):=
  OpenClaim.holds_of_wide 4 Tryz.f4 rfl rfl rfl rfl rfl rfl rfl ⟨rfl,rfl,rfl,rfl,rfl⟩ rfl rfl rfl rfl rfl (by kernel_rfl) Tryz.func4 (by kernel_rfl)
    (of_decide_eq_true (by kernel_rfl)) (by unfold Func.isWrapper;first|(rw [if_pos (by decide +kernel)];kernel_rfl)|(rw [if_neg (by decide +kernel)];exact⟨rfl,rfl⟩))
    (fun os started H enc _=>regulationBenches_lifted os started H enc)
theorem regulationBenches_card:Rows.RegulationBenchesCardSaid:=
  Claim7.holds_tied_plain_at .later [] [.data,.data,.data,.data,.sentinel,.sentinel,.pinned] true (true, "893239818132d482b8f5a2c07815ba9c486e6456e95d8ed6036a09ba2564eb95") true
    regulationBenches_over (fun _ h=>by cases h) (by kernel_rfl) (fun _ h=>by cases h) regulationBenches_row_tie rfl ⟨rfl,rfl⟩ (by kernel_rfl) rfl
    (fun f fn hf hfn=>by
      obtain rfl:f=4:=Option.some.inj ((show Tryz.prog.funcNamed "agraffe/agraffelaw05.RegulationBenches" =some 4 by kernel_rfl).symm.trans hf) |>.symm
      obtain rfl:fn=Tryz.f4:=(Option.some.inj (Tryz.func4.symm.trans hfn)).symm
      exact⟨by kernel_rfl,fun j t ht=>by
        have h3:(Tryz.f4.params.toList.all fun t=>!Tryz.prog.wantsStandIn t)=true:=by kernel_rfl
        have:=List.all_eq_true.1 h3 t (List.mem_of_getElem? (by simpa using ht))
        exact(by simpa using this:Tryz.prog.wantsStandIn t=false)⟩)
    (by kernel_rfl)
end Go.Proofs.YtookikhphobnlaaGreatDoor
