/- The law PlateTexts holds: whatever the input, it answers true, and the input reads as it did. The variables that it reads are tied to the program's text. No condition. -/
import Derived.Test.YtjonlmpjdhoogaaGreatDoorCards
import Derived.Test.YtjonlmpjdhoogaaGreatDoorTie
import Derived.Test.YtjonlmpjdhoogaaGreatDoorE8
import Derived.Test.YtjonlmpjdhoogaaGreatDoorY11
import Derived.SevenTiedAt
set_option linter.unusedSimpArgs false
set_option linter.unusedVariables false
namespace Go.Proofs.YtjonlmpjdhoogaaGreatDoor
open Go.RowKit Go.ChangeShapes Go.WideShapes Go.ChangeAt
theorem plateTexts_tys:tysOf Tryz.prog Tryz.f3.params.toList=some [.sl (.agg [.agg [.int .i64,.int .i64,.int .i64],.agg [.int .i64,.int .i64,.int .i64]]),.str]:=by kernel_rfl
theorem okplate{x:List V}(hx:Okc (.agg [.agg [.int .i64,.int .i64,.int .i64],.agg [.int .i64,.int .i64,.int .i64]]) x):∃ a:Pl,x=plV a:=by
  obtain⟨p,q,rfl,hp,hq⟩:=okcL_agg (show OkcL _ x from hx)
  obtain⟨q1,q',rfl,hq1,hq'⟩:=okcL_agg hq
  obtain rfl:=okcL_nil hq'
  obtain⟨a,_,rfl,_,hp⟩:=okcL_int hp
  obtain⟨b,_,rfl,_,hp⟩:=okcL_int hp
  obtain⟨c,_,rfl,_,hp⟩:=okcL_int hp
  obtain rfl:=okcL_nil hp
  obtain⟨x,_,rfl,_,hq1⟩:=okcL_int hq1
  obtain⟨y,_,rfl,_,hq1⟩:=okcL_int hq1
  obtain⟨z,_,rfl,_,hq1⟩:=okcL_int hq1
  obtain rfl:=okcL_nil hq1
  exact⟨⟨a,b,c,x,y,z⟩,rfl⟩
theorem okplates{es:List (List V)}(h:∀ x∈es,Okc (.agg [.agg [.int .i64,.int .i64,.int .i64],.agg [.int .i64,.int .i64,.int .i64]]) x):∃ l:List Pl,es=plsV l:=by
  induction es with
  |nil=>exact⟨[],rfl⟩
  | cons x xs ih=>
    obtain⟨l,rfl⟩:=ih fun y hy=>h y (List.mem_cons_of_mem _ hy)
    obtain⟨p,rfl⟩:=okplate (h x List.mem_cons_self)
    exact⟨p::l,rfl⟩
theorem plateTexts_in(us:List V)(h:OkVs [.sl (.agg [.agg [.int .i64,.int .i64,.int .i64],.agg [.int .i64,.int .i64,.int .i64]]),.str] us):Gives Tryz.prog 3 us [] (.bool true):=by
  obtain⟨es,u1,rfl,h0,h⟩:=okVs_sl h
  obtain⟨s,us,rfl,_,h⟩:=okVs_str h
  obtain rfl:=okVs_nil h
  obtain⟨l,rfl⟩:=okplates h0.2
  exact plate_law l s []
set_option maxRecDepth 100000 in
theorem plateTexts_lifted(os:Os)(started:os.Started)(H:Type)(enc:TypeId×Value→H):
    ReturnsInHanded {} Tryz.checked os 3 .any (fun w args=>(Rows.plateTextsSpec.pre enc Tryz.prog Tryz.f3 [] false w args∧laidMetH Tryz.prog laidV w)∧sizedMet enc Tryz.prog Tryz.f3 (OpenSpec.ofChange Rows.plateTextsSpec) false w args)
      (Rows.plateTextsSpec.post enc Tryz.prog Tryz.f3 false true false false):=by
  refine ret_shaped (C:=Tryz.checked) (X:=fun w _=>laidMetH Tryz.prog laidV w) (fun _ _ _ hh h=>h.of_heap hh) own started (by kernel_rfl) Tryz.func3
    (ChangeSpec.witness_shaped (enc:=enc) (C:=Tryz.checked) (os:=os) (X:=fun w _=>laidMetH Tryz.prog laidV w) false (World.laidAll Tryz.prog os laidV) #[.slice none 0 0,.string ⟨#[]⟩] 8 (World.laidAll_os _ _ _) (door_shaped os _) (by kernel_rfl) (by kernel_rfl) (by kernel_rfl) (door_met os _)) ?_
  intro W base args ds gs before hval hW hL hsh
  exact law_calls (P:=Tryz.prog) (fn:=Tryz.f3) laidOut rfl rfl (fun ds h=>match ds,h with|[d1,d2],_=>rfl) (by kernel_rfl) plateTexts_tys (by kernel_rfl) Tryz.underlying4 plateTexts_in (glob_ok hL hsh) hval hW
theorem plateTexts_over:Rows.plateTextsRow.holds Tryz.pinned (OpenSpec.ofChange Rows.plateTextsSpec):=
  OpenClaim.holds_of_wide 3 Tryz.f3 rfl rfl rfl rfl rfl rfl rfl ⟨rfl,rfl,rfl,rfl,rfl⟩ rfl rfl rfl rfl rfl (by kernel_rfl) Tryz.func3 (by kernel_rfl)
    (of_decide_eq_true (by kernel_rfl)) (by unfold Func.isWrapper;first|(rw [if_pos (by decide +kernel)];kernel_rfl)|(rw [if_neg (by decide +kernel)];exact⟨rfl,rfl⟩))
    (fun os started H enc _=>plateTexts_lifted os started H enc)
theorem plateTexts_card:Rows.PlateTextsCardSaid:=
  Claim7.holds_tied_plain_at .later [] [.data,.data,.data,.data,.sentinel,.sentinel,.pinned] true (true, "843e0790c1f934b10455c9da1995ad401b8f1c9b1162f8f01f83db4eabf98d38") true
    plateTexts_over (fun _ h=>by cases h) (by kernel_rfl) (fun _ h=>by cases h) plateTexts_row_tie rfl ⟨rfl,rfl⟩ (by kernel_rfl) rfl
    (fun f fn hf hfn=>by
      obtain rfl:f=3:=Option.some.inj ((show Tryz.prog.funcNamed "agraffe/agraffelaw03.PlateTexts" =some 3 by kernel_rfl).symm.trans hf) |>.symm
      obtain rfl:fn=Tryz.f3:=(Option.some.inj (Tryz.func3.symm.trans hfn)).symm
      exact⟨by kernel_rfl,fun j t ht=>by
        have h3:(Tryz.f3.params.toList.all fun t=>!Tryz.prog.wantsStandIn t)=true:=by kernel_rfl
        have:=List.all_eq_true.1 h3 t (List.mem_of_getElem? (by simpa using ht))
        exact(by simpa using this:Tryz.prog.wantsStandIn t=false)⟩)
    (by kernel_rfl)
end Go.Proofs.YtjonlmpjdhoogaaGreatDoor
