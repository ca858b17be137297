import Derived.Test.YtnablpehkeicmaaGreatGAR
import Derived.Test.YtnablpehkeicmaaGreatC14
import Derived.Test.YtnablpehkeicmaaGreatGAT
import Derived.Test.YtnablpehkeicmaaGreatYC
import Derived.Test.YtnablpehkeicmaaGreatGAQ
import Derived.Test.YtnablpehkeicmaaGreatGAS
import Derived.Laws.MathBits
set_option linter.unusedSimpArgs false
set_option linter.unusedVariables false
/- contracts: the curve of a part -/
namespace Go.Proofs.YtnablpehkeicmaaGreat
open Go.RowKit
attribute [local irreducible] WA WOs WDs WAn qThen qBlock tput
set_option maxHeartbeats 1000000
set_option maxRecDepth 20000
set_option linter.unusedSimpArgs false
set_option linter.unusedVariables false
attribute [local irreducible] smB cut sm quoQ quoB slP slG vP vG compP
def crv:Option (List Pt)→V
  |some l=> .tup [.agg [.lst (ptsV l)],.int .i64 0]
  |none=> .tup [.agg [.nilsl],.int .i64 8]
theorem acompose_v(o c:List Pt)(ho:Valid o)(hc:Valid c)(m:Mem):Gives Tryz.prog 96 [.agg [.lst (ptsV o)],.agg [.lst (ptsV c)]] m (crv (compP o c)):=by
  have:=acompose_c o c ho hc m
  unfold crv
  exact this
theorem frz_lst(m:Mem)(L:Nat){es:List (List V)}(h:plainLL es=true):frz m L 4 (.tup [.agg [.lst es],.int .i64 0])=some (.tup [.agg [.lst es],.int .i64 0]):=by
  have hl:V.plain (.lst es)=true:=by simpa [V.plain] using h
  simp [frz,frzs,h,V.plain]
theorem fin_lst{m0 D:Mem}{es:List (List V)}{R:V→Option Mem→Prop}(h:plainLL es=true)(hR:R (.tup [.agg [.lst es],.int .i64 0]) none):Fin m0 R (.tup [.agg [.lst es],.int .i64 0]) (lend m0++D):=
  by
  refine .inr ⟨D,_,rfl,?_,hR⟩
  exact frz_lst _ _ h
theorem uC21_78_2{N:Nat}{l:List Oper}{t:List (Nat×V)}{m:Mem}{Q:Exit→List (Nat×V)→Mem→Prop}(h:RgN Tryz.prog N l t m Q (fun i=>if i==13 then .f else if i==10 || i==12 then .a else if i==0 || i==1 || i==4 || i==5 || i==7 || i==8 then .q else .p) [.one 0,.one 1,.one 2,.one 3,.one 4,.one 5,.one 6,.one 7,.one 8,.one 9,.grp true [] [10,12],.one 11,.one 13]):WA Tryz.prog N (.region 2 l.toArray true) t m Q:=d_rgN h
theorem uC21_78_5{N:Nat}{l:List Oper}{t:List (Nat×V)}{m:Mem}{Q:Exit→List (Nat×V)→Mem→Prop}(h:RgN Tryz.prog N l t m Q (fun i=>if i==10 then .w else if i==6 then .a else if i==0 || i==2 || i==4 || i==5 then .q else .p) [.one 0,.one 1,.one 2,.one 3,.one 4,.one 5,.one 6,.one 7,.one 8,.one 9,.one 10,.one 11]):WA Tryz.prog N (.region 5 l.toArray true) t m Q:=d_rgN h
theorem acurveof_c (a:ActR) (ha:Lt a) (h:acErr a=0):∀ (n i:Nat) (m:Mem),i<n→i<a.parts.length→Gives Tryz.prog 78 [.agg (actV a),.int .i64 i] m (crv (curP a n i)):=by
  intro n
  induction n with
  |zero=>intro i m hi;omega
  | succ n ih=>
    intro i m hin hi
    have hp:=acErr_pts h
    have hla:=prtsV_length (l:=a.parts)
    have hga:=prtsV_get hi
    have hat:=ptErr_zero (hp.pt i hi)
    have hdr:=fun hd=>drv_lt hp hi hd
    have hcv:=fun(l:List Pt) (j:Nat) (hj:j<a.parts.length) (hc:curP a n j=some l)=>curP_valid hp hj hc
    have hcu:curP a (n+1) i=(if (a.parts.getD i p0).driver=[] then some (dipC a) else curP a n (drv a (a.parts.getD i p0))).bind fun d=>compP ((a.parts.getD i p0).cor.map toP) d:=rfl
    generalize a.parts.getD i p0=p at*
    obtain⟨kv,kr⟩:=knee_valid hat.2.2.2.1
    have hks:rksV p.cor=ptsV (p.cor.map toP):=by rw [ptsV_raw,kr]
    unfold prtV at hga
    rw [hks] at hga
    unfold actV
    refine CallA_in Tryz.func78 rfl Tryz.ntmps78 Tryz.results78 (by kernel_rfl) (by simp) fun Q hQ=>?_
    by_cases hd:p.driver=[]
    · have hfx:=hd
      have hrc:=hla
      (have FX:=fx3 hla hga hfx;repeat'(first|(refine sx ?_ ?_<;>intro h<;>first|(exfalso;omega)|skip)|(refine na ?_;(first|refine nb (awhole_c _) ?_|refine s_fn (afind_c a.parts _ _ ha.np) ?_|refine d_fn (afind_c a.parts _ _ ha.np) ?_|refine d_fnQ (fun _=>afind_c a.parts _ _ ha.np) ?_|refine grp_cons (fun _=>afind_c a.parts _ _ ha.np) ?_|refine nb hrc ?_)<;>try first|omega|assumption)|refine ny ?_|refine WA_block ?_|(refine uC21_78_2 ?_;refine⟨by kernel_rfl,?_⟩)|(refine uC21_78_5 ?_;refine⟨by kernel_rfl,?_⟩)|(refine g_d ?_;(first|refine d_fnY (awhole_c _ _) ?_|refine d_fnY (afind_c a.parts _ _ ha.np) ?_|refine d_fnY (hrc _) ?_)<;>try first|omega|assumption)))
      all_goals(try(exfalso;omega))
      rw [hcu,if_pos hd] at hQ
      simp only [Option.bind_some] at hQ
      have hcc:=acompose_v (p.cor.map toP) (dipC a) kv (dipC_valid hp)
      generalize compP (p.cor.map toP) (dipC a)=r at hQ hcc
      have hdp:ptsV (dipC a)=[[V.int .i64 0,V.int .i64 1,V.int .i64 0,V.int .i64 1],[V.int .i64 a.dip,V.int .i64 1,V.int .i64 a.dip,V.int .i64 1]]:=rfl
      rw [hdp] at hcc
      refine g_op ?_
      refine g_call ?_
      refine g_args ?_
      refine s_fzA (B:=lend m) 5 (hcc _) ?_ rfl rfl (by simp [frzA,frzV]) rfl
      cases r with
      | none=>
        simp only [crv] at hQ ⊢
        (have FX:=fx3 hla hga hfx;repeat'(first|(refine sx ?_ ?_<;>intro h<;>first|(exfalso;omega)|skip)|(refine na ?_;(first|refine nb (awhole_c _) ?_|refine s_fn (afind_c a.parts _ _ ha.np) ?_|refine d_fn (afind_c a.parts _ _ ha.np) ?_|refine d_fnQ (fun _=>afind_c a.parts _ _ ha.np) ?_|refine grp_cons (fun _=>afind_c a.parts _ _ ha.np) ?_|refine nb hrc ?_)<;>try first|omega|assumption)|refine ny ?_|refine WA_block ?_|(refine uC21_78_2 ?_;refine⟨by kernel_rfl,?_⟩)|(refine uC21_78_5 ?_;refine⟨by kernel_rfl,?_⟩)|(refine g_d ?_;(first|refine d_fnY (awhole_c _ _) ?_|refine d_fnY (afind_c a.parts _ _ ha.np) ?_|refine d_fnY (hrc _) ?_)<;>try first|omega|assumption)))
        all_goals(refine r_esA hQ (.inl ⟨rfl,rfl,rfl⟩))
      | some l=>
        simp only [crv] at hQ ⊢
        (have FX:=fx3 hla hga hfx;repeat'(first|(refine sx ?_ ?_<;>intro h<;>first|(exfalso;omega)|skip)|(refine na ?_;(first|refine nb (awhole_c _) ?_|refine s_fn (afind_c a.parts _ _ ha.np) ?_|refine d_fn (afind_c a.parts _ _ ha.np) ?_|refine d_fnQ (fun _=>afind_c a.parts _ _ ha.np) ?_|refine grp_cons (fun _=>afind_c a.parts _ _ ha.np) ?_|refine nb hrc ?_)<;>try first|omega|assumption)|refine ny ?_|refine WA_block ?_|(refine uC21_78_2 ?_;refine⟨by kernel_rfl,?_⟩)|(refine uC21_78_5 ?_;refine⟨by kernel_rfl,?_⟩)|(refine g_d ?_;(first|refine d_fnY (awhole_c _ _) ?_|refine d_fnY (afind_c a.parts _ _ ha.np) ?_|refine d_fnY (hrc _) ?_)<;>try first|omega|assumption)))
        all_goals(refine r_esA hQ (fin_lst (ptsV_plain l) ⟨rfl,rfl⟩))
    · obtain⟨hd1,hd2⟩:=hdr hd
      have hfx:=hd2
      have hrc:=fun m=>ih (drv a p) m (by omega) (by omega)
      rw [←hd2] at hrc
      unfold actV at hrc
      rw [hcu,if_neg hd] at hQ
      generalize hcr:curP a n (drv a p)=r at hQ hrc
      cases r with
      | none=>
        simp only [crv,Option.bind_none] at hQ hrc
        (have FX:=fx3 hla hga hfx;repeat'(first|(refine sx ?_ ?_<;>intro h<;>first|(exfalso;omega)|skip)|(refine na ?_;(first|refine nb (awhole_c _) ?_|refine s_fn (afind_c a.parts _ _ ha.np) ?_|refine d_fn (afind_c a.parts _ _ ha.np) ?_|refine d_fnQ (fun _=>afind_c a.parts _ _ ha.np) ?_|refine grp_cons (fun _=>afind_c a.parts _ _ ha.np) ?_|refine nb hrc ?_)<;>try first|omega|assumption)|refine ny ?_|refine WA_block ?_|(refine uC21_78_2 ?_;refine⟨by kernel_rfl,?_⟩)|(refine uC21_78_5 ?_;refine⟨by kernel_rfl,?_⟩)|(refine g_d ?_;(first|refine d_fnY (awhole_c _ _) ?_|refine d_fnY (afind_c a.parts _ _ ha.np) ?_|refine d_fnY (hrc _) ?_)<;>try first|omega|assumption)))
        all_goals(try(exfalso;first|omega|contradiction))
        all_goals(refine r_esA hQ (.inl ⟨rfl,rfl,rfl⟩))
      | some d=>
        have hvd:=hcv d _ (by omega) hcr
        simp only [crv,Option.bind_some] at hQ hrc
        (have FX:=fx3 hla hga hfx;repeat'(first|(refine sx ?_ ?_<;>intro h<;>first|(exfalso;omega)|skip)|(refine na ?_;(first|refine nb (awhole_c _) ?_|refine s_fn (afind_c a.parts _ _ ha.np) ?_|refine d_fn (afind_c a.parts _ _ ha.np) ?_|refine d_fnQ (fun _=>afind_c a.parts _ _ ha.np) ?_|refine grp_cons (fun _=>afind_c a.parts _ _ ha.np) ?_|refine nb hrc ?_)<;>try first|omega|assumption)|refine ny ?_|refine WA_block ?_|(refine uC21_78_2 ?_;refine⟨by kernel_rfl,?_⟩)|(refine uC21_78_5 ?_;refine⟨by kernel_rfl,?_⟩)|(refine g_d ?_;(first|refine d_fnY (awhole_c _ _) ?_|refine d_fnY (afind_c a.parts _ _ ha.np) ?_|refine d_fnY (hrc _) ?_)<;>try first|omega|assumption)))
        all_goals(try(exfalso;first|omega|contradiction))
        have hcc:=acompose_v (p.cor.map toP) d kv hvd
        generalize compP (p.cor.map toP) d=r at hQ hcc
        refine g_op ?_
        refine g_call ?_
        refine g_args ?_
        refine s_fn (hcc _) ?_
        cases r with
        | none=>
          simp only [crv] at hQ ⊢
          (have FX:=fx3 hla hga hfx;repeat'(first|(refine sx ?_ ?_<;>intro h<;>first|(exfalso;omega)|skip)|(refine na ?_;(first|refine nb (awhole_c _) ?_|refine s_fn (afind_c a.parts _ _ ha.np) ?_|refine d_fn (afind_c a.parts _ _ ha.np) ?_|refine d_fnQ (fun _=>afind_c a.parts _ _ ha.np) ?_|refine grp_cons (fun _=>afind_c a.parts _ _ ha.np) ?_|refine nb hrc ?_)<;>try first|omega|assumption)|refine ny ?_|refine WA_block ?_|(refine uC21_78_2 ?_;refine⟨by kernel_rfl,?_⟩)|(refine uC21_78_5 ?_;refine⟨by kernel_rfl,?_⟩)|(refine g_d ?_;(first|refine d_fnY (awhole_c _ _) ?_|refine d_fnY (afind_c a.parts _ _ ha.np) ?_|refine d_fnY (hrc _) ?_)<;>try first|omega|assumption)))
          all_goals(refine r_esA hQ (.inl ⟨rfl,rfl,rfl⟩))
        | some l=>
          simp only [crv] at hQ ⊢
          (have FX:=fx3 hla hga hfx;repeat'(first|(refine sx ?_ ?_<;>intro h<;>first|(exfalso;omega)|skip)|(refine na ?_;(first|refine nb (awhole_c _) ?_|refine s_fn (afind_c a.parts _ _ ha.np) ?_|refine d_fn (afind_c a.parts _ _ ha.np) ?_|refine d_fnQ (fun _=>afind_c a.parts _ _ ha.np) ?_|refine grp_cons (fun _=>afind_c a.parts _ _ ha.np) ?_|refine nb hrc ?_)<;>try first|omega|assumption)|refine ny ?_|refine WA_block ?_|(refine uC21_78_2 ?_;refine⟨by kernel_rfl,?_⟩)|(refine uC21_78_5 ?_;refine⟨by kernel_rfl,?_⟩)|(refine g_d ?_;(first|refine d_fnY (awhole_c _ _) ?_|refine d_fnY (afind_c a.parts _ _ ha.np) ?_|refine d_fnY (hrc _) ?_)<;>try first|omega|assumption)))
          all_goals(refine r_esA hQ (fin_lst (ptsV_plain l) ⟨rfl,rfl⟩))
end Go.Proofs.YtnablpehkeicmaaGreat
namespace Go.Proofs.YtnablpehkeicmaaGreat
open Go.RowKit
attribute [local irreducible] WA WOs WDs WAn qThen qBlock tput
set_option maxHeartbeats 1000000
set_option maxRecDepth 20000
set_option linter.unusedSimpArgs false
set_option linter.unusedVariables false
attribute [local irreducible] smB cut sm
def frO:Option Rat→V
  |some q=> .agg [.int .i64 (Rat.num (q)),.int .i64 ((Rat.den (q):Nat):Int)]
  |none=> .agg [.int .i64 0,.int .i64 0]
def rchV(r:Option Rat×Int):V:= .tup [frO r.1,.int .i64 r.2]
theorem b_bn0{m:Mem}{a:Bool}:evB Tryz.prog m .neq 4 (.bool a) (.bool false)=some (True,.bool a,m):=by
  have h:kdT Tryz.prog 4=5:=by kernel_rfl
  simp [evB,evEq,eqV,h]
theorem b_bn1{m:Mem}{a:Bool}:evB Tryz.prog m .neq 4 (.bool a) (.bool true)=some (True,.bool (!a),m):=by
  have h:kdT Tryz.prog 4=5:=by kernel_rfl
  simp [evB,evEq,eqV,h]

theorem areach1_c(p:Pt)(lv:Rat)(f:Bool)(M:Mem)(k k2:Nat)(st st2:Sta)(hk:M[k]?=some (.cells st 104 2 [[.int .i64 lv.num,.int .i64 (lv.den:Int)]]))(hk2:M[k2]?=some (.cells st2 4 1 [[.bool f]]))(hs:sm p.2)(hl:sm lv):Gives Tryz.prog 97 [.agg (ptV p),.ptr k 0 0,.ptr k2 0 0] M (.bool (rchd f lv p)):=by
  have hkl:=lend_get2A hk
  have hkf:=lend_get2A hk2
  have h1:=cmpQ_gt (p:=p.2) (q:=lv)
  have h2:=cmpQ_lt (p:=p.2) (q:=lv)
  have h3:=cmpQ_zero (p:=p.2) (q:=lv)
  unfold ptV
  cases f with
  | false=>
    refine Gives_in Tryz.func97 rfl Tryz.ntmps97 Tryz.results97 (by kernel_rfl) (by simp) rfl fun Q hQ=>?_
    (have FX:=fx4 hkl hkf @b_bn0 @b_bn1;repeat'(first|(refine sx ?_ ?_<;>intro h<;>first|(exfalso;omega)|skip)|(refine na ?_;(first|refine nb (acompare_c p.2 lv hs hl) ?_)<;>try first|omega|assumption)|refine ny ?_|refine WA_block ?_))
    all_goals(try(exfalso;omega))
    all_goals((refine r_es hQ ?_;try with_reducible rfl))
    all_goals(unfold rchd;simp only [Bool.false_eq_true,if_false])
    all_goals(exact congrArg V.bool (by first|exact(decide_eq_true (by grind)).symm|exact(decide_eq_false (by grind)).symm))
  | true=>
    refine Gives_in Tryz.func97 rfl Tryz.ntmps97 Tryz.results97 (by kernel_rfl) (by simp) rfl fun Q hQ=>?_
    (have FX:=fx4 hkl hkf @b_bn0 @b_bn1;repeat'(first|(refine sx ?_ ?_<;>intro h<;>first|(exfalso;omega)|skip)|(refine na ?_;(first|refine nb (acompare_c p.2 lv hs hl) ?_)<;>try first|omega|assumption)|refine ny ?_|refine WA_block ?_))
    all_goals(try(exfalso;omega))
    all_goals((refine r_es hQ ?_;try with_reducible rfl))
    all_goals(unfold rchd;simp only [if_true])
    all_goals(exact congrArg V.bool (by first|exact(decide_eq_true (by grind)).symm|exact(decide_eq_false (by grind)).symm))

theorem aknix_c (l:List Pt) (f:Pt→Bool) (k k2:Nat) (m:Mem) (hlb:l.length≤1000) (hc:∀ i,i<l.length→Gives Tryz.prog 97 [.agg (ptV (at' l i)),.ptr k 0 0,.ptr k2 0 0] (lend m++[]) (.bool (f (at' l i)))):Gives Tryz.prog 99 [.lst (ptsV l),.clo (.func 97) [] [.ptr k 0 0,.ptr k2 0 0]] m (.int .i64 (fidx f l)):=by
  have hlen:=ptsV_length (c:=l)
  have hget:=hlen
  refine Gives_in Tryz.func99 rfl Tryz.ntmps99 Tryz.results99 (by kernel_rfl) (by simp) rfl fun Q hQ=>?_
  (have FX:=And.intro hlen hget;repeat'(first|(refine sx ?_ ?_<;>intro h<;>first|(exfalso;omega)|skip)|(refine na ?_;(first|refine s_fn (hcl ()) ?_)<;>try first|omega|assumption)|(refine g_op ?_;refine g_dyn ?_;refine g_dargs ?_;first|(refine s_fn (hcl ()) ?_<;>try first|omega|assumption))|refine ny ?_|refine WA_block ?_))
  refine WA_while (σ:=Nat) [0,1,6,7,8] (fun i=>[.lst (ptsV l),.clo (.func 97) [] [.ptr k 0 0,.ptr k2 0 0],.lst (ptsV l),.int .i64 l.length,.int .i64 i]) (fun _=>lend m++[]) (fun i=>i≤l.length∧∀ j,j<i→f (at' l j)=false) (fun i=>l.length - i) 0 ⟨Nat.zero_le _,fun j h=>absurd h (Nat.not_lt_zero _)⟩ tv_ rfl ?_
  rintro i ⟨hi,hj⟩ L hL
  simp only [zipT]
  clear FX
  rcases Nat.lt_or_ge i l.length with hlt|hge
  · have hget:=ptsV_get hlt
    have hcl:=fun(_:Unit)=>hc i hlt
    unfold ptV at hcl hget
    cases hf:f (at' l i) with
    | true=>
      rw [hf] at hcl
      (have FX:=And.intro hlen hget;repeat'(first|(refine sx ?_ ?_<;>intro h<;>first|(exfalso;omega)|skip)|(refine na ?_;(first|refine s_fn (hcl ()) ?_)<;>try first|omega|assumption)|(refine g_op ?_;refine g_dyn ?_;refine g_dargs ?_;first|(refine s_fn (hcl ()) ?_<;>try first|omega|assumption))|refine ny ?_|refine WA_block ?_))
      all_goals(try(exfalso;omega))
      all_goals((refine r_es hQ ?_;try with_reducible rfl))
      all_goals(exact congrArg (V.int .i64) (fidx_at (d:=(0,0)) hlt hj hf).symm)
    | false=>
      rw [hf] at hcl
      (have FX:=And.intro hlen hget;repeat'(first|(refine sx ?_ ?_<;>intro h<;>first|(exfalso;omega)|skip)|(refine na ?_;(first|refine s_fn (hcl ()) ?_)<;>try first|omega|assumption)|(refine g_op ?_;refine g_dyn ?_;refine g_dargs ?_;first|(refine s_fn (hcl ()) ?_<;>try first|omega|assumption))|refine ny ?_|refine WA_block ?_))
      all_goals(try(exfalso;omega))
      all_goals(refine next_ hL (i+1) ⟨by omega,fun j h=>?_⟩ (by omega))
      all_goals(rcases Nat.lt_or_ge j i with h2|h2)
      all_goals first
        |exact hj j h2
        | (obtain rfl:j=i:=by omega
           exact hf)
  · have e:i=l.length:=by omega
    subst e
    have hcl:=fun(_:Unit)=>True
    (have FX:=And.intro hlen hget;repeat'(first|(refine sx ?_ ?_<;>intro h<;>first|(exfalso;omega)|skip)|(refine na ?_;(first|refine s_fn (hcl ()) ?_)<;>try first|omega|assumption)|(refine g_op ?_;refine g_dyn ?_;refine g_dargs ?_;first|(refine s_fn (hcl ()) ?_<;>try first|omega|assumption))|refine ny ?_|refine WA_block ?_))
    all_goals(try(exfalso;omega))
    all_goals((refine r_es hQ ?_;try with_reducible rfl))
    all_goals(exact congrArg (V.int .i64) (fidx_no (d:=(0,0)) hj).symm)
theorem uC22_79_9{N:Nat}{l:List Oper}{t:List (Nat×V)}{m:Mem}{Q:Exit→List (Nat×V)→Mem→Prop}(h:RgT Tryz.prog N l t m Q 163 (fun i=>if i==3 || i==10 || i==11 || i==14 || i==16 then .f else if i==15 then .a else if i==0 || i==2 || i==4 || i==6 || i==9 || i==13 then .q else .p) [.one 0,.one 1,.one 2,.one 4,.one 5,.one 6,.one 7,.one 8,.one 9,.one 12,.one 13,.grp true [3,10,11,14] [15],.one 16]):WA Tryz.prog N (.region 9 l.toArray true) t m Q:=d_rgT h
theorem areach_c(c:List Pt)(lv:Rat)(f:Bool)(hv:Valid c)(hl:sm lv)(m:Mem):Gives Tryz.prog 79 [.agg [.lst (ptsV c)],.agg [.int .i64 (Rat.num (lv)),.int .i64 ((Rat.den (lv):Nat):Int)],.bool f] m (rchV (rch c lv f)):=by
  have hlen:=ptsV_length (c:=c)
  have hfew:=hv.few
  have hp:=hv.pos
  have hg0:=ptsV_get hp
  have hix:=fun k k2 M (h1:∀ X,(lend M++X)[k]?=some (.cells .lent 104 2 [[.int .i64 lv.num,.int .i64 (lv.den:Int)]])) (h2:∀ X,(lend M++X)[k2]?=some (.cells .lent 4 1 [[.bool f]]))=>aknix_c c (rchd f lv) k k2 M (by omega) fun i hi=>areach1_c (at' c i) lv f (lend M++[]) k k2 .lent .lent (h1 []) (h2 []) (hv.sm i hi).2 hl
  rcases rch_cases c lv f with h1|⟨h1,h2⟩|⟨i,h1,h2,h3⟩
  · have hfx:fidx (rchd f lv) c= -1:=fidx_no (d:=(0,0)) h1
    have hgl:=hlen
    rw [rch_none h1]
    refine Gives_in Tryz.func79 rfl Tryz.ntmps79 Tryz.results79 (by kernel_rfl) (by simp) rfl fun Q hQ=>?_
    (have FX:=fx3 hlen hfx hgl;repeat'(first|(refine sx ?_ ?_<;>intro h<;>first|(exfalso;omega)|skip)|(refine na ?_;(first|refine s_fn (hix _ _ _ ?_ ?_) ?_|refine d_fn (hix _ _ _ ?_ ?_) ?_|refine d_fnQ (fun _=>hix _ _ _ ?_ ?_) ?_|refine grp_cons (fun _=>hix _ _ _ ?_ ?_) ?_)<;>try first|omega|assumption)|refine ny ?_|refine WA_block ?_|(refine uC22_79_9 ?_;refine⟨by kernel_rfl,?_⟩)|(refine g_d ?_;(first|refine d_fnY (hix _ _ _ ?_ ?_) ?_)<;>try first|omega|assumption)))
    all_goals(try(exfalso;omega))
    all_goals try(intro X;exact lend_get2A (st:= .own) (by simp) X)
    all_goals((refine r_es hQ ?_;try with_reducible rfl);rfl)
  · have hfx:fidx (rchd f lv) c=0:=rch_fidx h1 (fun j h=>absurd h (Nat.not_lt_zero _)) h2
    have hgl:=hg0
    unfold ptV at hgl
    rw [rch_zero h1 h2]
    refine Gives_in Tryz.func79 rfl Tryz.ntmps79 Tryz.results79 (by kernel_rfl) (by simp) rfl fun Q hQ=>?_
    (have FX:=fx3 hlen hfx hgl;repeat'(first|(refine sx ?_ ?_<;>intro h<;>first|(exfalso;omega)|skip)|(refine na ?_;(first|refine s_fn (hix _ _ _ ?_ ?_) ?_|refine d_fn (hix _ _ _ ?_ ?_) ?_|refine d_fnQ (fun _=>hix _ _ _ ?_ ?_) ?_|refine grp_cons (fun _=>hix _ _ _ ?_ ?_) ?_)<;>try first|omega|assumption)|refine ny ?_|refine WA_block ?_|(refine uC22_79_9 ?_;refine⟨by kernel_rfl,?_⟩)|(refine g_d ?_;(first|refine d_fnY (hix _ _ _ ?_ ?_) ?_)<;>try first|omega|assumption)))
    all_goals(try(exfalso;omega))
    all_goals try(intro X;exact lend_get2A (st:= .own) (by simp) X)
    all_goals((refine r_es hQ ?_;try with_reducible rfl);rfl)
  · have hfx:fidx (rchd f lv) c=((i+1:Nat):Int):=rch_fidx h1 h2 h3
    have ht0:(((i+1:Nat):Int) - 1).toNat=i:=by omega
    have ht1:(((i+1:Nat):Int)).toNat=i+1:=by omega
    have hga:=ptsV_get (c:=c) (i:=i) (by omega)
    have hgb:=ptsV_get (c:=c) (i:=i+1) h1
    have s1:=hv.sm i (by omega)
    have s2:=hv.sm (i+1) h1
    have hsl:=hv.sl i h1
    have hup:=hv.up i h1
    obtain⟨k1,_⟩:=rchd_y (h2 i (by omega)) h3
    have hs0:=sl_ne hup k1
    rw [rch_succ h1 h2 h3]
    obtain⟨⟨u,v⟩,hu⟩:∃ p,at' c i=p:=⟨_,rfl⟩
    obtain⟨⟨u2,v2⟩,hu2⟩:∃ p,at' c (i+1)=p:=⟨_,rfl⟩
    rw [hu] at hga s1 hsl hup hs0 ⊢
    rw [hu2] at hgb s2 hsl hup hs0 ⊢
    unfold ptV at hga hgb
    dsimp only at hga hgb s1 s2
    have hgl:=And.intro hga (And.intro hgb (And.intro ht0 ht1))
    have hsp:=fun g=>slP_ok hsl hup g
    obtain⟨x1,x2⟩:=xG_al (x:=lv) hs0 false
    generalize hS:sl (u,v) (u2,v2)=S at x1 x2 hsp
    have hsS:sm S:=by rw [←hS];exact hsl.2.2
    have hslw:∀ k g,CallW Tryz.prog 103 [.ptr k 0 0,.agg (ptV (u,v)),.agg (ptV (u2,v2))] k (.cells .own 163 1 [[.bool (g)]]) (.cells .own 163 1 [[.bool (g)]]) (.agg [.int .i64 (Rat.num (S)),.int .i64 ((Rat.den (S):Nat):Int)]):=fun k g=>by
      have h:=slope_w k (u,v) (u2,v2) g s1.1 s1.2 s2.1 s2.2
      rw [(hsp g).1,(hsp g).2] at h
      exact h
    unfold ptV at hslw
    dsimp only at hslw
    have htd:=fun m=>atold_c (cut (quoQ (cut (lv - v)) S+u)) (((false || !smB (lv - v)) || quoB (cut (lv - v)) S) || !smB (quoQ (cut (lv - v)) S+u)) m
    by_cases hal:alOk (u,v) (u2,v2) lv
    · obtain⟨y1,y2⟩:=x1 hal
      unfold xG at y1
      unfold xP at y2
      dsimp only at y1 y2
      rw [if_pos hal,←y2]
      rw [y1,if_neg (by decide),←y1] at htd
      refine Gives_in Tryz.func79 rfl Tryz.ntmps79 Tryz.results79 (by kernel_rfl) (by simp) rfl fun Q hQ=>?_
      (have FX:=fx3 hlen hfx hgl;repeat'(first|(refine sx ?_ ?_<;>intro h<;>first|(exfalso;omega)|skip)|(refine na ?_;(first|refine s_fn (hix _ _ _ ?_ ?_) ?_|refine d_fn (hix _ _ _ ?_ ?_) ?_|refine d_fnQ (fun _=>hix _ _ _ ?_ ?_) ?_|refine grp_cons (fun _=>hix _ _ _ ?_ ?_) ?_|refine nb htd ?_|refine s_fnW (sub_w _ lv v _ hl s1.2) ?_|refine s_fnW (hslw _ _) ?_|refine s_fnW (quoQ_w _ _ _ _ (sm_cut _) hsS) ?_|refine s_fnW (add_w _ _ _ _ (sm_quoQ _ _) s1.1) ?_|refine d_fnW (sub_w _ lv v _ hl s1.2) ?_|refine d_fnW (hslw _ _) ?_|refine d_fnW (quoQ_w _ _ _ _ (sm_cut _) hsS) ?_|refine d_fnW (add_w _ _ _ _ (sm_quoQ _ _) s1.1) ?_|refine grp_w (sub_w _ lv v _ hl s1.2) ?_|refine grp_w (hslw _ _) ?_|refine grp_w (quoQ_w _ _ _ _ (sm_cut _) hsS) ?_|refine grp_w (add_w _ _ _ _ (sm_quoQ _ _) s1.1) ?_)<;>try first|omega|assumption)|refine ny ?_|refine WA_block ?_|(refine uC22_79_9 ?_;refine⟨by kernel_rfl,?_⟩)|(refine g_d ?_;(first|refine d_fnY (hix _ _ _ ?_ ?_) ?_|refine d_fnY (htd _) ?_)<;>try first|omega|assumption)))
      all_goals(try(exfalso;omega))
      all_goals try(intro X;exact lend_get2A (st:= .own) (by simp) X)
      all_goals((refine r_es hQ ?_;try with_reducible rfl);rfl)
    · have y1:=x2 hal
      unfold xG at y1
      dsimp only at y1
      rw [if_neg hal]
      rw [y1,if_pos rfl,←y1] at htd
      refine Gives_in Tryz.func79 rfl Tryz.ntmps79 Tryz.results79 (by kernel_rfl) (by simp) rfl fun Q hQ=>?_
      (have FX:=fx3 hlen hfx hgl;repeat'(first|(refine sx ?_ ?_<;>intro h<;>first|(exfalso;omega)|skip)|(refine na ?_;(first|refine s_fn (hix _ _ _ ?_ ?_) ?_|refine d_fn (hix _ _ _ ?_ ?_) ?_|refine d_fnQ (fun _=>hix _ _ _ ?_ ?_) ?_|refine grp_cons (fun _=>hix _ _ _ ?_ ?_) ?_|refine nb htd ?_|refine s_fnW (sub_w _ lv v _ hl s1.2) ?_|refine s_fnW (hslw _ _) ?_|refine s_fnW (quoQ_w _ _ _ _ (sm_cut _) hsS) ?_|refine s_fnW (add_w _ _ _ _ (sm_quoQ _ _) s1.1) ?_|refine d_fnW (sub_w _ lv v _ hl s1.2) ?_|refine d_fnW (hslw _ _) ?_|refine d_fnW (quoQ_w _ _ _ _ (sm_cut _) hsS) ?_|refine d_fnW (add_w _ _ _ _ (sm_quoQ _ _) s1.1) ?_|refine grp_w (sub_w _ lv v _ hl s1.2) ?_|refine grp_w (hslw _ _) ?_|refine grp_w (quoQ_w _ _ _ _ (sm_cut _) hsS) ?_|refine grp_w (add_w _ _ _ _ (sm_quoQ _ _) s1.1) ?_)<;>try first|omega|assumption)|refine ny ?_|refine WA_block ?_|(refine uC22_79_9 ?_;refine⟨by kernel_rfl,?_⟩)|(refine g_d ?_;(first|refine d_fnY (hix _ _ _ ?_ ?_) ?_|refine d_fnY (htd _) ?_)<;>try first|omega|assumption)))
      all_goals(try(exfalso;omega))
      all_goals try(intro X;exact lend_get2A (st:= .own) (by simp) X)
      all_goals((refine r_es hQ ?_;try with_reducible rfl);rfl)
end Go.Proofs.YtnablpehkeicmaaGreat
namespace Go.Proofs.YtnablpehkeicmaaGreat
end Go.Proofs.YtnablpehkeicmaaGreat
namespace Go.Proofs.YtnablpehkeicmaaGreat
open Go.RowKit
theorem enI_ok{a:ActR}{s:List UInt8}(h:¬ enI a s<0):enI a s=(enN a s:Int)∧enN a s<a.evs.length∧(a.evs.getD (enN a s) e0).name=s:=by
  have h1:=fidx_bd (isE s) a.evs
  have h2:enI a s=(enN a s:Int):=by unfold enN;omega
  refine⟨h2,?_,?_⟩
  · unfold enN;unfold enI at*;omega
  · rcases fidx_cases (isE s) a.evs e0 with ⟨e,_⟩|⟨k,hk,e,h3,_⟩
    · unfold enI at h;omega
    · have:enN a s=k:=by unfold enN enI;omega
      rw [this]
      exact of_decide_eq_true h3
end Go.Proofs.YtnablpehkeicmaaGreat
namespace Go.Proofs.YtnablpehkeicmaaGreat
open Go.RowKit
attribute [local irreducible] WA WOs WDs WAn qThen qBlock tput
set_option maxHeartbeats 1000000
set_option maxRecDepth 20000
set_option linter.unusedSimpArgs false
set_option linter.unusedVariables false
attribute [local irreducible] smB cut sm
theorem uC26_54_2{N:Nat}{l:List Oper}{t:List (Nat×V)}{m:Mem}{Q:Exit→List (Nat×V)→Mem→Prop}(h:RgN Tryz.prog N l t m Q (fun i=>if i==11 then .f else if i==6 || i==10 then .a else if i==0 || i==2 || i==4 || i==5 then .q else .p) [.one 0,.one 1,.one 2,.one 3,.one 4,.one 5,.grp true [6] [10],.one 7,.one 8,.one 9,.one 11,.one 12]):WA Tryz.prog N (.region 2 l.toArray true) t m Q:=d_rgN h
theorem uC26_54_5{N:Nat}{l:List Oper}{t:List (Nat×V)}{m:Mem}{Q:Exit→List (Nat×V)→Mem→Prop}(h:RgN Tryz.prog N l t m Q (fun i=>if i==9 then .w else if i==0 || i==2 || i==3 || i==5 || i==6 then .q else .p) [.one 0,.one 1,.one 2,.one 3,.one 4,.one 5,.one 6,.one 7,.one 8,.one 9,.one 10]):WA Tryz.prog N (.region 5 l.toArray true) t m Q:=d_rgN h
theorem adipof_c(a:ActR)(ha:Lt a)(h:acErr a=0)(i:Nat)(hi:i<a.evs.length)(m:Mem):Gives Tryz.prog 54 [.agg (actV a),.int .i64 i] m (rchV (evtP a i)):=by
  have hla:=evsV_length (l:=a.evs)
  have hga:=evsV_get hi
  obtain⟨_,h2,_⟩:=acErr_evs h
  have hz:=h2 i hi
  obtain⟨h3,hfx⟩:=prtN_lt hz
  obtain⟨_,_,_,hlv⟩:=evErrAt_zero hz
  have hp:=acErr_pts h
  have hcu:=fun m=>acurveof_c a ha h 13 (prtN a (a.evs.getD i e0)) m (by have:=hp.few;omega) h3
  have hcv:=fun c hc=>cvP_valid hp (i:=prtN a (a.evs.getD i e0)) (l:=c) h3 hc
  unfold evtP
  unfold cvP at hcv ⊢
  generalize prtN a (a.evs.getD i e0)=j at*
  rw [←hfx] at hcu
  generalize a.evs.getD i e0=x at*
  unfold evV at hga
  generalize hr:curP a 13 j=r at hcu hcv ⊢
  cases r with
  | none=>
    have hre:=hcu
    simp only [crv,rchV,frO] at hcu ⊢
    unfold actV at hcu ⊢
    refine Gives_in Tryz.func54 rfl Tryz.ntmps54 Tryz.results54 (by kernel_rfl) (by simp) rfl fun Q hQ=>?_
    (have FX:=fx3 hla hga hfx;repeat'(first|(refine sx ?_ ?_<;>intro h<;>first|(exfalso;omega)|skip)|(refine na ?_;(first|refine nb (awhole_c _) ?_|refine s_fn (afind_c a.parts _ _ ha.np) ?_|refine d_fn (afind_c a.parts _ _ ha.np) ?_|refine d_fnQ (fun _=>afind_c a.parts _ _ ha.np) ?_|refine grp_cons (fun _=>afind_c a.parts _ _ ha.np) ?_|refine nb hcu ?_)<;>try first|omega|assumption)|refine ny ?_|refine WA_block ?_|(refine uC26_54_2 ?_;refine⟨by kernel_rfl,?_⟩)|(refine uC26_54_5 ?_;refine⟨by kernel_rfl,?_⟩)|(refine g_d ?_;(first|refine d_fnY (awhole_c _ _) ?_|refine d_fnY (afind_c a.parts _ _ ha.np) ?_|refine d_fnY (hcu _) ?_)<;>try first|omega|assumption)))
    all_goals(try(exfalso;omega))
    all_goals((refine r_es hQ ?_;try with_reducible rfl))
  | some c=>
    have hv:=hcv c rfl
    simp only [crv] at hcu
    dsimp only
    have hre:∀ m,Gives Tryz.prog 79 [.agg [.lst (ptsV c)],.agg [.int .i64 x.lev,.int .i64 1],.bool x.fall] m (rchV (rch c (x.lev:Rat) x.fall)):=fun m=>areach_c c (x.lev:Rat) x.fall hv (sm_int (by omega)) m
    rcases rch_code c (x.lev:Rat) x.fall with ⟨q,hq⟩|hq|hq
    all_goals
      rw [hq] at hre ⊢
      simp only [rchV,frO] at hre ⊢
      unfold actV at hcu ⊢
      refine Gives_in Tryz.func54 rfl Tryz.ntmps54 Tryz.results54 (by kernel_rfl) (by simp) rfl fun Q hQ=>?_
      (have FX:=fx3 hla hga hfx;repeat'(first|(refine sx ?_ ?_<;>intro h<;>first|(exfalso;omega)|skip)|(refine na ?_;(first|refine nb (awhole_c _) ?_|refine s_fn (afind_c a.parts _ _ ha.np) ?_|refine d_fn (afind_c a.parts _ _ ha.np) ?_|refine d_fnQ (fun _=>afind_c a.parts _ _ ha.np) ?_|refine grp_cons (fun _=>afind_c a.parts _ _ ha.np) ?_|refine nb hcu ?_|refine nb hre ?_)<;>try first|omega|assumption)|refine ny ?_|refine WA_block ?_|(refine uC26_54_2 ?_;refine⟨by kernel_rfl,?_⟩)|(refine uC26_54_5 ?_;refine⟨by kernel_rfl,?_⟩)|(refine g_d ?_;(first|refine d_fnY (awhole_c _ _) ?_|refine d_fnY (afind_c a.parts _ _ ha.np) ?_|refine d_fnY (hcu _) ?_|refine d_fnY (hre _) ?_)<;>try first|omega|assumption)))
      all_goals(try(exfalso;omega))
      all_goals((refine r_es hQ ?_;try with_reducible rfl))
end Go.Proofs.YtnablpehkeicmaaGreat
namespace Go.Proofs.YtnablpehkeicmaaGreat
open Go.RowKit
attribute [local irreducible] WA WOs WDs WAn qThen qBlock tput
set_option maxHeartbeats 1000000
set_option maxRecDepth 20000
set_option linter.unusedSimpArgs false
set_option linter.unusedVariables false
theorem sm_up{q:Rat}(h:sm q):q.num≤1000000000∧(q.den:Int)≤1000000000:=⟨h.2.1,h.2.2⟩
attribute [local irreducible] smB cut sm
theorem shr32{m:Mem}{z:Int}(h:0≤z):evB Tryz.prog m .shr 141 (.int .u64 z) (.int .u64 32)=some (True,.int .u64 (z / 4294967296),m):=by
  have e:z.fdiv (2 ^ (min (32:Int).toNat IntKind.u64.bits))=z / 4294967296:=by
    rw [Int.fdiv_eq_ediv_of_nonneg z (by decide)]
    rfl
  have q:evEq Tryz.prog .shr 141 (.int .u64 z) (.int .u64 32)=none:=rfl
  unfold evB
  rw [q]
  simp only [evBin,e]
  simp
theorem and32{z:Int}(h0:0≤z)(h1:z<18446744073709551616):bits .and .u64 z 4294967295=z % 4294967296:=and_low32 z h0 h1
theorem mul_hi(x1 x0 y1 y0:Int)(b1:0≤x1∧x1≤4294967295)(b2:0≤x0∧x0≤4294967295)(b3:0≤y1∧y1≤4294967295)(b4:0≤y0∧y0≤4294967295):x1*y1+(x1*y0+x0*y0 / 4294967296) / 4294967296+((x1*y0+x0*y0 / 4294967296) % 4294967296+x0*y1) / 4294967296=(x1*4294967296+x0)*(y1*4294967296+y0) / 18446744073709551616:=by
  have pA:=prod_bound x1 y1 b1.1 b1.2 b3.1 b3.2
  have pB:=prod_bound x1 y0 b1.1 b1.2 b4.1 b4.2
  have pC:=prod_bound x0 y0 b2.1 b2.2 b4.1 b4.2
  have pD:=prod_bound x0 y1 b2.1 b2.2 b3.1 b3.2
  rw [split_mul]
  generalize x1*y1=A at*
  generalize x1*y0=B at*
  generalize x0*y0=C at*
  generalize x0*y1=D at*
  omega

theorem mmul64_c(x y:Int)(hx0:0≤x)(hx:x<18446744073709551616)(hy0:0≤y)(hy:y<18446744073709551616)(m:Mem):Gives Tryz.prog 81 [.int .u64 x,.int .u64 y] m (.tup [.int .u64 (x*y / 18446744073709551616),.int .u64 (x*y % 18446744073709551616)]):=by
  have hsh:=fun(m:Mem) (z:Int) h=>shr32 (m:=m) (z:=z) h
  have han:=fun(z:Int) h0 h1=>and32 (z:=z) h0 h1
  have b1:0≤x / 4294967296∧x / 4294967296≤4294967295:=by omega
  have b2:0≤x % 4294967296∧x % 4294967296≤4294967295:=by omega
  have b3:0≤y / 4294967296∧y / 4294967296≤4294967295:=by omega
  have b4:0≤y % 4294967296∧y % 4294967296≤4294967295:=by omega
  have pA:=prod_bound _ _ b1.1 b1.2 b3.1 b3.2
  have pB:=prod_bound _ _ b1.1 b1.2 b4.1 b4.2
  have pC:=prod_bound _ _ b2.1 b2.2 b4.1 b4.2
  have pD:=prod_bound _ _ b2.1 b2.2 b3.1 b3.2
  refine Gives_in Tryz.func81 rfl Tryz.ntmps81 Tryz.results81 (by kernel_rfl) (by simp) rfl fun Q hQ=>?_
  (have FX:=And.intro hsh han;repeat'(first|(refine sx ?_ ?_<;>intro h<;>first|(exfalso;omega)|skip)|refine ny ?_|refine WA_block ?_))
  all_goals(refine r_es hQ ?_;try with_reducible rfl)
  have e:=mul_hi _ _ _ _ b1 b2 b3 b4
  have ex:x / 4294967296*4294967296+x % 4294967296=x:=by omega
  have ey:y / 4294967296*4294967296+y % 4294967296=y:=by omega
  rw [ex,ey] at e
  rw [←e,IntKind.wrap_u64]

theorem atoonear_c(p q:Rat)(g:Int)(hp:sm p)(hq:sm q)(hp0:0≤p)(hq0:0≤q)(hg:0≤g∧g≤2000)(m:Mem):Gives Tryz.prog 55 [.agg [.int .i64 (Rat.num (p)),.int .i64 ((Rat.den (p):Nat):Int)],.agg [.int .i64 (Rat.num (q)),.int .i64 ((Rat.den (q):Nat):Int)],.int .i64 g] m (.bool (tn p q g)):=by
  have n1:=Rat.num_nonneg.2 hp0
  have n2:=Rat.num_nonneg.2 hq0
  have d1:=den_pos' p
  have d2:=den_pos' q
  have s1:=sm_up hp
  have s2:=sm_up hq
  have hm:0≤g*(q.den:Int)∧g*(q.den:Int)≤2000000000000:=by
    have a1:0≤g*(q.den:Int):=Int.mul_nonneg hg.1 (by omega)
    have a2:g*(q.den:Int)≤2000*1000000000:=Int.mul_le_mul hg.2 s2.2 (by omega) (by omega)
    omega
  have h1:=fun m=>mmul64_c p.num (q.den:Int) n1 (by omega) (by omega) (by omega) m
  have h2:=fun m=>mmul64_c (q.num+g*(q.den:Int)) (p.den:Int) (by omega) (by omega) (by omega) (by omega) m
  have hne:p.num*(q.den:Int)<(q.num+g*(q.den:Int))*(p.den:Int)↔tn p q g=true:=by
    rw [near_iff]
    unfold tn
    exact decide_eq_true_iff.symm
  generalize tn p q g=b at*
  generalize p.num*(q.den:Int)=X at*
  generalize (q.num+g*(q.den:Int))*(p.den:Int)=Y at*
  refine Gives_in Tryz.func55 rfl Tryz.ntmps55 Tryz.results55 (by kernel_rfl) (by simp) rfl fun Q hQ=>?_
  (have FX:=hm;repeat'(first|(refine sx ?_ ?_<;>intro h<;>first|(exfalso;omega)|skip)|(refine na ?_;(first|refine nb h1 ?_|refine nb h2 ?_)<;>try first|omega|assumption)|refine ny ?_|refine WA_block ?_))
  all_goals(try(exfalso;omega))
  all_goals((refine r_es hQ ?_;try with_reducible rfl))
  all_goals first
    |exact congrArg V.bool (hne.1 (by omega)).symm
    | (cases b with
       |false=>rfl
       |true=>exact absurd (hne.2 rfl) (by omega))
end Go.Proofs.YtnablpehkeicmaaGreat
namespace Go.Proofs.YtnablpehkeicmaaGreat
end Go.Proofs.YtnablpehkeicmaaGreat
namespace Go.Proofs.YtnablpehkeicmaaGreat
open Go.RowKit
attribute [local irreducible] WA WOs WDs WAn qThen qBlock tput
set_option maxHeartbeats 1000000
set_option maxRecDepth 20000
set_option linter.unusedSimpArgs false
set_option linter.unusedVariables false
attribute [local irreducible] smB cut sm
def frV(q:Rat):List V:=[.int .i64 q.num,.int .i64 (q.den:Int)]
def frsV(l:List Rat):List (List V):=l.map frV
end Go.Proofs.YtnablpehkeicmaaGreat
namespace Go.Proofs.YtnablpehkeicmaaGreat
end Go.Proofs.YtnablpehkeicmaaGreat
