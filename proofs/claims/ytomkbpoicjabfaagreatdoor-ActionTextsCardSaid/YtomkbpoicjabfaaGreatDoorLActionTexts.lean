/- The law ActionTexts holds: whatever the input, it answers true, and the input reads as it did. The variables that it reads are tied to the program's text. No condition. -/
import Derived.Test.YtomkbpoicjabfaaGreatDoorCards
import Derived.Test.YtomkbpoicjabfaaGreatDoorTie
import Derived.Test.YtomkbpoicjabfaaGreatDoorE8
import Derived.Test.YtomkbpoicjabfaaGreatDoorU13
import Derived.SevenTiedAt
set_option linter.unusedSimpArgs false
set_option linter.unusedVariables false
namespace Go.Proofs.YtomkbpoicjabfaaGreatDoor
open Go.RowKit Go.ChangeShapes Go.WideShapes Go.ChangeAt
theorem actionTexts_tys:tysOf Tryz.prog Tryz.f3.params.toList=some [.str]:=by kernel_rfl
theorem actionTexts_in(us:List V)(h:OkVs [.str] us):Gives Tryz.prog 3 us [] (.bool true):=by
  obtain⟨s,us,rfl,_,h⟩:=okVs_str h
  obtain rfl:=okVs_nil h
  exact texts_law s []
set_option maxRecDepth 100000 in
theorem actionTexts_lifted(os:Os)(started:os.Started)(H:Type)(enc:TypeId×Value→H):
    ReturnsInHanded {} Tryz.checked os 3 .any (fun w args=>(Rows.actionTextsSpec.pre enc Tryz.prog Tryz.f3 [] false w args∧laidMetH Tryz.prog laidV w)∧sizedMet enc Tryz.prog Tryz.f3 (OpenSpec.ofChange Rows.actionTextsSpec) false w args)
      (Rows.actionTextsSpec.post enc Tryz.prog Tryz.f3 false true false false):=by
  refine ret_shaped (C:=Tryz.checked) (X:=fun w _=>laidMetH Tryz.prog laidV w) (fun _ _ _ hh h=>h.of_heap hh) own started (by kernel_rfl) Tryz.func3
    (ChangeSpec.witness_shaped (enc:=enc) (C:=Tryz.checked) (os:=os) (X:=fun w _=>laidMetH Tryz.prog laidV w) false (World.laidAll Tryz.prog os laidV) #[.string ⟨#[]⟩] 8 (World.laidAll_os _ _ _) (door_shaped os _) (by kernel_rfl) (by kernel_rfl) (by kernel_rfl) (door_met os _)) ?_
  intro W base args ds gs before hval hW hL hsh
  exact law_calls (P:=Tryz.prog) (fn:=Tryz.f3) laidOut rfl rfl (fun ds h=>match ds,h with|[d1],_=>rfl) (by kernel_rfl) actionTexts_tys (by kernel_rfl) Tryz.underlying4 actionTexts_in (glob_ok hL hsh) hval hW
theorem actionTexts_over:Rows.actionTextsRow.holds Tryz.pinned (OpenSpec.ofChange Rows.actionTextsSpec):=
  OpenClaim.holds_of_wide 3 Tryz.f3 rfl rfl rfl rfl rfl rfl rfl ⟨rfl,rfl,rfl,rfl,rfl⟩ rfl rfl rfl rfl rfl (by kernel_rfl) Tryz.func3 (by kernel_rfl)
    (of_decide_eq_true (by kernel_rfl)) (by unfold Func.isWrapper;first|(rw [if_pos (by decide +kernel)];kernel_rfl)|(rw [if_neg (by decide +kernel)];exact⟨rfl,rfl⟩))
    (fun os started H enc _=>actionTexts_lifted os started H enc)
theorem actionTexts_card:Rows.ActionTextsCardSaid:=
  Claim7.holds_tied_plain_at .later [] [.data,.data,.data,.data,.sentinel,.sentinel,.pinned] true (true, "5deea5b9bf084ed147e30e65306b3183098d0628367aec31b9dafa863e97c166") true
    actionTexts_over (fun _ h=>by cases h) (by kernel_rfl) (fun _ h=>by cases h) actionTexts_row_tie rfl ⟨rfl,rfl⟩ (by kernel_rfl) rfl
    (fun f fn hf hfn=>by
      obtain rfl:f=3:=Option.some.inj ((show Tryz.prog.funcNamed "agraffe/agraffelaw04.ActionTexts" =some 3 by kernel_rfl).symm.trans hf) |>.symm
      obtain rfl:fn=Tryz.f3:=(Option.some.inj (Tryz.func3.symm.trans hfn)).symm
      exact⟨by kernel_rfl,fun j t ht=>by
        have h3:(Tryz.f3.params.toList.all fun t=>!Tryz.prog.wantsStandIn t)=true:=by kernel_rfl
        have:=List.all_eq_true.1 h3 t (List.mem_of_getElem? (by simpa using ht))
        exact(by simpa using this:Tryz.prog.wantsStandIn t=false)⟩)
    (by kernel_rfl)
end Go.Proofs.YtomkbpoicjabfaaGreatDoor
