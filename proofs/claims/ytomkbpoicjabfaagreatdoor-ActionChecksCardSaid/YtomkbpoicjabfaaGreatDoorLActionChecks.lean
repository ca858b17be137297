/- The law ActionChecks holds: whatever the input, it answers true, and the input reads as it did. The variables that it reads are tied to the program's text. No condition. -/
import Derived.Test.YtomkbpoicjabfaaGreatDoorCards
import Derived.Test.YtomkbpoicjabfaaGreatDoorTie
import Derived.Test.YtomkbpoicjabfaaGreatDoorE8
import Derived.Test.YtomkbpoicjabfaaGreatDoorGAD
import Derived.Test.YtomkbpoicjabfaaGreatDoorU18
import Derived.SevenTiedAt
set_option linter.unusedSimpArgs false
set_option linter.unusedVariables false
namespace Go.Proofs.YtomkbpoicjabfaaGreatDoor
open Go.RowKit Go.ChangeShapes Go.WideShapes Go.ChangeAt
theorem actionChecks_tys:tysOf Tryz.prog Tryz.f4.params.toList=some [.agg TyAc]:=by kernel_rfl
theorem actionChecks_in(us:List V)(h:OkVs [.agg TyAc] us):Gives Tryz.prog 4 us [] (.bool true):=by
  obtain⟨c0,uc0,rfl,hc0,h⟩:=okVs_agg h
  obtain rfl:=okVs_nil h
  obtain⟨a,rfl⟩:=okact hc0
  exact checks_law a []
set_option maxRecDepth 100000 in
theorem actionChecks_lifted(os:Os)(started:os.Started)(H:Type)(enc:TypeId×Value→H):
    ReturnsInHanded {} Tryz.checked os 4 .any (fun w args=>(Rows.actionChecksSpec.pre enc Tryz.prog Tryz.f4 [] false w args∧laidMetH Tryz.prog laidV w)∧sizedMet enc Tryz.prog Tryz.f4 (OpenSpec.ofChange Rows.actionChecksSpec) false w args)
      (Rows.actionChecksSpec.post enc Tryz.prog Tryz.f4 false true false false):=by
  refine ret_shaped (C:=Tryz.checked) (X:=fun w _=>laidMetH Tryz.prog laidV w) (fun _ _ _ hh h=>h.of_heap hh) own started (by kernel_rfl) Tryz.func4
    (ChangeSpec.witness_shaped (enc:=enc) (C:=Tryz.checked) (os:=os) (X:=fun w _=>laidMetH Tryz.prog laidV w) false (World.laidAll Tryz.prog os laidV) #[.agg #[.int .i64 0,.slice none 0 0,.slice none 0 0,.slice none 0 0]] 8 (World.laidAll_os _ _ _) (door_shaped os _) (by kernel_rfl) (by kernel_rfl) (by kernel_rfl) (door_met os _)) ?_
  intro W base args ds gs before hval hW hL hsh
  exact law_calls (P:=Tryz.prog) (fn:=Tryz.f4) laidOut rfl rfl (fun ds h=>match ds,h with|[d1],_=>rfl) (by kernel_rfl) actionChecks_tys (by kernel_rfl) Tryz.underlying4 actionChecks_in (glob_ok hL hsh) hval hW
theorem actionChecks_over:Rows.actionChecksRow.holds Tryz.pinned (OpenSpec.ofChange Rows.actionChecksSpec):=
  OpenClaim.holds_of_wide 4 Tryz.f4 rfl rfl rfl rfl rfl rfl rfl ⟨rfl,rfl,rfl,rfl,rfl⟩ rfl rfl rfl rfl rfl (by kernel_rfl) Tryz.func4 (by kernel_rfl)
    (of_decide_eq_true (by kernel_rfl)) (by unfold Func.isWrapper;first|(rw [if_pos (by decide +kernel)];kernel_rfl)|(rw [if_neg (by decide +kernel)];exact⟨rfl,rfl⟩))
    (fun os started H enc _=>actionChecks_lifted os started H enc)
theorem actionChecks_card:Rows.ActionChecksCardSaid:=
  Claim7.holds_tied_plain_at .later [] [.data,.data,.data,.data,.sentinel,.sentinel,.pinned] true (true, "5deea5b9bf084ed147e30e65306b3183098d0628367aec31b9dafa863e97c166") true
    actionChecks_over (fun _ h=>by cases h) (by kernel_rfl) (fun _ h=>by cases h) actionChecks_row_tie rfl ⟨rfl,rfl⟩ (by kernel_rfl) rfl
    (fun f fn hf hfn=>by
      obtain rfl:f=4:=Option.some.inj ((show Tryz.prog.funcNamed "agraffe/agraffelaw04.ActionChecks" =some 4 by kernel_rfl).symm.trans hf) |>.symm
      obtain rfl:fn=Tryz.f4:=(Option.some.inj (Tryz.func4.symm.trans hfn)).symm
      exact⟨by kernel_rfl,fun j t ht=>by
        have h3:(Tryz.f4.params.toList.all fun t=>!Tryz.prog.wantsStandIn t)=true:=by kernel_rfl
        have:=List.all_eq_true.1 h3 t (List.mem_of_getElem? (by simpa using ht))
        exact(by simpa using this:Tryz.prog.wantsStandIn t=false)⟩)
    (by kernel_rfl)
end Go.Proofs.YtomkbpoicjabfaaGreatDoor
