/- contracts: the curve of a part -/
import Derived.Test.YtomkbpoicjabfaaGreatDoorGAK
import Derived.Test.YtomkbpoicjabfaaGreatDoorC14
import Derived.Test.YtomkbpoicjabfaaGreatDoorC19
import Derived.Test.YtomkbpoicjabfaaGreatDoorYC
set_option linter.unusedSimpArgs false
set_option linter.unusedVariables false
namespace Go.Proofs.YtomkbpoicjabfaaGreatDoor
open Go.RowKit
attribute [local irreducible] WA WOs WDs WAn qThen qBlock tput
set_option maxHeartbeats 1000000
set_option maxRecDepth 20000
set_option linter.unusedSimpArgs false
set_option linter.unusedVariables false
attribute [local irreducible] smB cut sm quoQ quoB slP slG vP vG compP
def crv:Option (List Pt)→V
  |some l=> .tup [.agg [.lst (ptsV l)],.int .i64 0]
  |none=> .tup [.agg [.nilsl],.int .i64 8]
theorem acompose_v(o c:List Pt)(ho:Valid o)(hc:Valid c)(m:Mem):Gives Tryz.prog 126 [.agg [.lst (ptsV o)],.agg [.lst (ptsV c)]] m (crv (compP o c)):=by
  have:=acompose_c o c ho hc m
  unfold crv
  exact this
theorem frz_lst(m:Mem)(L:Nat){es:List (List V)}(h:plainLL es=true):frz m L 4 (.tup [.agg [.lst es],.int .i64 0])=some (.tup [.agg [.lst es],.int .i64 0]):=by
  have hl:V.plain (.lst es)=true:=by simpa [V.plain] using h
  simp [frz,frzs,h,V.plain]
theorem fin_lst{m0 D:Mem}{es:List (List V)}{R:V→Option Mem→Prop}(h:plainLL es=true)(hR:R (.tup [.agg [.lst es],.int .i64 0]) none):Fin m0 R (.tup [.agg [.lst es],.int .i64 0]) (lend m0++D):=
  by
  refine .inr ⟨D,_,rfl,?_,hR⟩
  exact frz_lst _ _ h
theorem uC21_109_2{N:Nat}{l:List Oper}{t:List (Nat×V)}{m:Mem}{Q:Exit→List (Nat×V)→Mem→Prop}(h:RgN Tryz.prog N l t m Q (fun i=>if i==13 then .f else if i==10 || i==12 then .a else if i==0 || i==1 || i==4 || i==5 || i==7 || i==8 then .q else .p) [.one 0,.one 1,.one 2,.one 3,.one 4,.one 5,.one 6,.one 7,.one 8,.one 9,.grp true [] [10,12],.one 11,.one 13]):WA Tryz.prog N (.region 2 l.toArray true) t m Q:=d_rgN h
theorem uC21_109_5{N:Nat}{l:List Oper}{t:List (Nat×V)}{m:Mem}{Q:Exit→List (Nat×V)→Mem→Prop}(h:RgN Tryz.prog N l t m Q (fun i=>if i==10 then .w else if i==6 then .a else if i==0 || i==2 || i==4 || i==5 then .q else .p) [.one 0,.one 1,.one 2,.one 3,.one 4,.one 5,.one 6,.one 7,.one 8,.one 9,.one 10,.one 11]):WA Tryz.prog N (.region 5 l.toArray true) t m Q:=d_rgN h
theorem acurveof_c (a:ActR) (ha:Lt a) (h:acErr a=0):∀ (n i:Nat) (m:Mem),i<n→i<a.parts.length→Gives Tryz.prog 109 [.agg (actV a),.int .i64 i] m (crv (curP a n i)):=by
  intro n
  induction n with
  |zero=>intro i m hi;omega
  | succ n ih=>
    intro i m hin hi
    have hp:=acErr_pts h
    have hla:=prtsV_length (l:=a.parts)
    have hga:=prtsV_get hi
    have hat:=ptErr_zero (hp.pt i hi)
    have hdr:=fun hd=>drv_lt hp hi hd
    have hcv:=fun(l:List Pt) (j:Nat) (hj:j<a.parts.length) (hc:curP a n j=some l)=>curP_valid hp hj hc
    have hcu:curP a (n+1) i=(if (a.parts.getD i p0).driver=[] then some (dipC a) else curP a n (drv a (a.parts.getD i p0))).bind fun d=>compP ((a.parts.getD i p0).cor.map toP) d:=rfl
    generalize a.parts.getD i p0=p at *
    obtain⟨kv,kr⟩:=knee_valid hat.2.2.2.1
    have hks:rksV p.cor=ptsV (p.cor.map toP):=by rw [ptsV_raw,kr]
    unfold prtV at hga
    rw [hks] at hga
    unfold actV
    refine CallA_in Tryz.func109 rfl Tryz.ntmps109 Tryz.results109 (by kernel_rfl) (by simp) fun Q hQ=>?_
    by_cases hd:p.driver=[]
    · have hfx:=hd
      have hrc:=hla
      (have FX:=And.intro hla (And.intro hga hfx);repeat'(first|(refine sx ?_ ?_<;>intro h<;>first|(exfalso;omega)|skip)|(refine g_op ?_;refine g_call ?_;refine g_args ?_;(first|refine s_fn (awhole_c _ _) ?_|refine s_fn (afind_c a.parts _ _ ha.np) ?_|refine s_fn (hrc _) ?_)<;>try first|omega|assumption)|refine ny ?_|refine WA_block ?_|(refine uC21_109_2 ?_;refine⟨by kernel_rfl,?_⟩)|(refine uC21_109_5 ?_;refine⟨by kernel_rfl,?_⟩)|((first|refine grp_cons (fun _=>awhole_c _ _) ?_|refine grp_cons (fun _=>afind_c a.parts _ _ ha.np) ?_|refine grp_cons (fun _=>hrc _) ?_)<;>try first|omega|assumption)|(refine g_d ?_;refine d_args ?_;(first|refine d_fn (awhole_c _ _) ?_|refine d_fn (afind_c a.parts _ _ ha.np) ?_|refine d_fn (hrc _) ?_|refine d_fnQ (fun _=>awhole_c _ _) ?_|refine d_fnQ (fun _=>afind_c a.parts _ _ ha.np) ?_|refine d_fnQ (fun _=>hrc _) ?_)<;>try first|omega|assumption)|(refine g_d ?_;(first|refine d_fnY (awhole_c _ _) ?_|refine d_fnY (afind_c a.parts _ _ ha.np) ?_|refine d_fnY (hrc _) ?_)<;>try first|omega|assumption)))
      all_goals(try(exfalso;omega))
      rw [hcu,if_pos hd] at hQ
      simp only [Option.bind_some] at hQ
      have hcc:=acompose_v (p.cor.map toP) (dipC a) kv (dipC_valid hp)
      generalize compP (p.cor.map toP) (dipC a)=r at hQ hcc
      have hdp:ptsV (dipC a)=[[V.int .i64 0,V.int .i64 1,V.int .i64 0,V.int .i64 1],[V.int .i64 a.dip,V.int .i64 1,V.int .i64 a.dip,V.int .i64 1]]:=rfl
      rw [hdp] at hcc
      refine g_op ?_
      refine g_call ?_
      refine g_args ?_
      refine s_fzA (B:=lend m) 5 (hcc _) ?_ rfl rfl (by simp [frzA,frzV]) rfl
      cases r with
      | none=>
        simp only [crv] at hQ ⊢
        (have FX:=And.intro hla (And.intro hga hfx);repeat'(first|(refine sx ?_ ?_<;>intro h<;>first|(exfalso;omega)|skip)|(refine g_op ?_;refine g_call ?_;refine g_args ?_;(first|refine s_fn (awhole_c _ _) ?_|refine s_fn (afind_c a.parts _ _ ha.np) ?_|refine s_fn (hrc _) ?_)<;>try first|omega|assumption)|refine ny ?_|refine WA_block ?_|(refine uC21_109_2 ?_;refine⟨by kernel_rfl,?_⟩)|(refine uC21_109_5 ?_;refine⟨by kernel_rfl,?_⟩)|((first|refine grp_cons (fun _=>awhole_c _ _) ?_|refine grp_cons (fun _=>afind_c a.parts _ _ ha.np) ?_|refine grp_cons (fun _=>hrc _) ?_)<;>try first|omega|assumption)|(refine g_d ?_;refine d_args ?_;(first|refine d_fn (awhole_c _ _) ?_|refine d_fn (afind_c a.parts _ _ ha.np) ?_|refine d_fn (hrc _) ?_|refine d_fnQ (fun _=>awhole_c _ _) ?_|refine d_fnQ (fun _=>afind_c a.parts _ _ ha.np) ?_|refine d_fnQ (fun _=>hrc _) ?_)<;>try first|omega|assumption)|(refine g_d ?_;(first|refine d_fnY (awhole_c _ _) ?_|refine d_fnY (afind_c a.parts _ _ ha.np) ?_|refine d_fnY (hrc _) ?_)<;>try first|omega|assumption)))
        all_goals(refine r_esA hQ (.inl ⟨rfl,rfl,rfl⟩))
      | some l=>
        simp only [crv] at hQ ⊢
        (have FX:=And.intro hla (And.intro hga hfx);repeat'(first|(refine sx ?_ ?_<;>intro h<;>first|(exfalso;omega)|skip)|(refine g_op ?_;refine g_call ?_;refine g_args ?_;(first|refine s_fn (awhole_c _ _) ?_|refine s_fn (afind_c a.parts _ _ ha.np) ?_|refine s_fn (hrc _) ?_)<;>try first|omega|assumption)|refine ny ?_|refine WA_block ?_|(refine uC21_109_2 ?_;refine⟨by kernel_rfl,?_⟩)|(refine uC21_109_5 ?_;refine⟨by kernel_rfl,?_⟩)|((first|refine grp_cons (fun _=>awhole_c _ _) ?_|refine grp_cons (fun _=>afind_c a.parts _ _ ha.np) ?_|refine grp_cons (fun _=>hrc _) ?_)<;>try first|omega|assumption)|(refine g_d ?_;refine d_args ?_;(first|refine d_fn (awhole_c _ _) ?_|refine d_fn (afind_c a.parts _ _ ha.np) ?_|refine d_fn (hrc _) ?_|refine d_fnQ (fun _=>awhole_c _ _) ?_|refine d_fnQ (fun _=>afind_c a.parts _ _ ha.np) ?_|refine d_fnQ (fun _=>hrc _) ?_)<;>try first|omega|assumption)|(refine g_d ?_;(first|refine d_fnY (awhole_c _ _) ?_|refine d_fnY (afind_c a.parts _ _ ha.np) ?_|refine d_fnY (hrc _) ?_)<;>try first|omega|assumption)))
        all_goals(refine r_esA hQ (fin_lst (ptsV_plain l) ⟨rfl,rfl⟩))
    · obtain⟨hd1,hd2⟩:=hdr hd
      have hfx:=hd2
      have hrc:=fun m=>ih (drv a p) m (by omega) (by omega)
      rw [←hd2] at hrc
      unfold actV at hrc
      rw [hcu,if_neg hd] at hQ
      generalize hcr:curP a n (drv a p)=r at hQ hrc
      cases r with
      | none=>
        simp only [crv,Option.bind_none] at hQ hrc
        (have FX:=And.intro hla (And.intro hga hfx);repeat'(first|(refine sx ?_ ?_<;>intro h<;>first|(exfalso;omega)|skip)|(refine g_op ?_;refine g_call ?_;refine g_args ?_;(first|refine s_fn (awhole_c _ _) ?_|refine s_fn (afind_c a.parts _ _ ha.np) ?_|refine s_fn (hrc _) ?_)<;>try first|omega|assumption)|refine ny ?_|refine WA_block ?_|(refine uC21_109_2 ?_;refine⟨by kernel_rfl,?_⟩)|(refine uC21_109_5 ?_;refine⟨by kernel_rfl,?_⟩)|((first|refine grp_cons (fun _=>awhole_c _ _) ?_|refine grp_cons (fun _=>afind_c a.parts _ _ ha.np) ?_|refine grp_cons (fun _=>hrc _) ?_)<;>try first|omega|assumption)|(refine g_d ?_;refine d_args ?_;(first|refine d_fn (awhole_c _ _) ?_|refine d_fn (afind_c a.parts _ _ ha.np) ?_|refine d_fn (hrc _) ?_|refine d_fnQ (fun _=>awhole_c _ _) ?_|refine d_fnQ (fun _=>afind_c a.parts _ _ ha.np) ?_|refine d_fnQ (fun _=>hrc _) ?_)<;>try first|omega|assumption)|(refine g_d ?_;(first|refine d_fnY (awhole_c _ _) ?_|refine d_fnY (afind_c a.parts _ _ ha.np) ?_|refine d_fnY (hrc _) ?_)<;>try first|omega|assumption)))
        all_goals(try(exfalso;first|omega|contradiction))
        all_goals(refine r_esA hQ (.inl ⟨rfl,rfl,rfl⟩))
      | some d=>
        have hvd:=hcv d _ (by omega) hcr
        simp only [crv,Option.bind_some] at hQ hrc
        (have FX:=And.intro hla (And.intro hga hfx);repeat'(first|(refine sx ?_ ?_<;>intro h<;>first|(exfalso;omega)|skip)|(refine g_op ?_;refine g_call ?_;refine g_args ?_;(first|refine s_fn (awhole_c _ _) ?_|refine s_fn (afind_c a.parts _ _ ha.np) ?_|refine s_fn (hrc _) ?_)<;>try first|omega|assumption)|refine ny ?_|refine WA_block ?_|(refine uC21_109_2 ?_;refine⟨by kernel_rfl,?_⟩)|(refine uC21_109_5 ?_;refine⟨by kernel_rfl,?_⟩)|((first|refine grp_cons (fun _=>awhole_c _ _) ?_|refine grp_cons (fun _=>afind_c a.parts _ _ ha.np) ?_|refine grp_cons (fun _=>hrc _) ?_)<;>try first|omega|assumption)|(refine g_d ?_;refine d_args ?_;(first|refine d_fn (awhole_c _ _) ?_|refine d_fn (afind_c a.parts _ _ ha.np) ?_|refine d_fn (hrc _) ?_|refine d_fnQ (fun _=>awhole_c _ _) ?_|refine d_fnQ (fun _=>afind_c a.parts _ _ ha.np) ?_|refine d_fnQ (fun _=>hrc _) ?_)<;>try first|omega|assumption)|(refine g_d ?_;(first|refine d_fnY (awhole_c _ _) ?_|refine d_fnY (afind_c a.parts _ _ ha.np) ?_|refine d_fnY (hrc _) ?_)<;>try first|omega|assumption)))
        all_goals(try(exfalso;first|omega|contradiction))
        have hcc:=acompose_v (p.cor.map toP) d kv hvd
        generalize compP (p.cor.map toP) d=r at hQ hcc
        refine g_op ?_
        refine g_call ?_
        refine g_args ?_
        refine s_fn (hcc _) ?_
        cases r with
        | none=>
          simp only [crv] at hQ ⊢
          (have FX:=And.intro hla (And.intro hga hfx);repeat'(first|(refine sx ?_ ?_<;>intro h<;>first|(exfalso;omega)|skip)|(refine g_op ?_;refine g_call ?_;refine g_args ?_;(first|refine s_fn (awhole_c _ _) ?_|refine s_fn (afind_c a.parts _ _ ha.np) ?_|refine s_fn (hrc _) ?_)<;>try first|omega|assumption)|refine ny ?_|refine WA_block ?_|(refine uC21_109_2 ?_;refine⟨by kernel_rfl,?_⟩)|(refine uC21_109_5 ?_;refine⟨by kernel_rfl,?_⟩)|((first|refine grp_cons (fun _=>awhole_c _ _) ?_|refine grp_cons (fun _=>afind_c a.parts _ _ ha.np) ?_|refine grp_cons (fun _=>hrc _) ?_)<;>try first|omega|assumption)|(refine g_d ?_;refine d_args ?_;(first|refine d_fn (awhole_c _ _) ?_|refine d_fn (afind_c a.parts _ _ ha.np) ?_|refine d_fn (hrc _) ?_|refine d_fnQ (fun _=>awhole_c _ _) ?_|refine d_fnQ (fun _=>afind_c a.parts _ _ ha.np) ?_|refine d_fnQ (fun _=>hrc _) ?_)<;>try first|omega|assumption)|(refine g_d ?_;(first|refine d_fnY (awhole_c _ _) ?_|refine d_fnY (afind_c a.parts _ _ ha.np) ?_|refine d_fnY (hrc _) ?_)<;>try first|omega|assumption)))
          all_goals(refine r_esA hQ (.inl ⟨rfl,rfl,rfl⟩))
        | some l=>
          simp only [crv] at hQ ⊢
          (have FX:=And.intro hla (And.intro hga hfx);repeat'(first|(refine sx ?_ ?_<;>intro h<;>first|(exfalso;omega)|skip)|(refine g_op ?_;refine g_call ?_;refine g_args ?_;(first|refine s_fn (awhole_c _ _) ?_|refine s_fn (afind_c a.parts _ _ ha.np) ?_|refine s_fn (hrc _) ?_)<;>try first|omega|assumption)|refine ny ?_|refine WA_block ?_|(refine uC21_109_2 ?_;refine⟨by kernel_rfl,?_⟩)|(refine uC21_109_5 ?_;refine⟨by kernel_rfl,?_⟩)|((first|refine grp_cons (fun _=>awhole_c _ _) ?_|refine grp_cons (fun _=>afind_c a.parts _ _ ha.np) ?_|refine grp_cons (fun _=>hrc _) ?_)<;>try first|omega|assumption)|(refine g_d ?_;refine d_args ?_;(first|refine d_fn (awhole_c _ _) ?_|refine d_fn (afind_c a.parts _ _ ha.np) ?_|refine d_fn (hrc _) ?_|refine d_fnQ (fun _=>awhole_c _ _) ?_|refine d_fnQ (fun _=>afind_c a.parts _ _ ha.np) ?_|refine d_fnQ (fun _=>hrc _) ?_)<;>try first|omega|assumption)|(refine g_d ?_;(first|refine d_fnY (awhole_c _ _) ?_|refine d_fnY (afind_c a.parts _ _ ha.np) ?_|refine d_fnY (hrc _) ?_)<;>try first|omega|assumption)))
          all_goals(refine r_esA hQ (fin_lst (ptsV_plain l) ⟨rfl,rfl⟩))
end Go.Proofs.YtomkbpoicjabfaaGreatDoor
