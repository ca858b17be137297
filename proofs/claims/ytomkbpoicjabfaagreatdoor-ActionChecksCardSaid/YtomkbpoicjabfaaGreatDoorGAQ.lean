import Derived.Test.YtomkbpoicjabfaaGreatDoorC21
import Derived.Test.YtomkbpoicjabfaaGreatDoorGAJ
import Derived.Test.YtomkbpoicjabfaaGreatDoorD4
set_option linter.unusedSimpArgs false
set_option linter.unusedVariables false
/- contracts: where a curve reaches a level -/
namespace Go.Proofs.YtomkbpoicjabfaaGreatDoor
open Go.RowKit
attribute [local irreducible] WA WOs WDs WAn qThen qBlock tput
set_option maxHeartbeats 1000000
set_option maxRecDepth 20000
set_option linter.unusedSimpArgs false
set_option linter.unusedVariables false
attribute [local irreducible] smB cut sm
def frO:Option Rat→V
  |some q=> .agg [.int .i64 (Rat.num (q)),.int .i64 ((Rat.den (q):Nat):Int)]
  |none=> .agg [.int .i64 0,.int .i64 0]
def rchV(r:Option Rat×Int):V:= .tup [frO r.1,.int .i64 r.2]
theorem b_bn0{m:Mem}{a:Bool}:evB Tryz.prog m .neq 4 (.bool a) (.bool false)=some (True,.bool a,m):=by
  have h:kdT Tryz.prog 4=5:=by kernel_rfl
  simp [evB,evEq,eqV,h]
theorem b_bn1{m:Mem}{a:Bool}:evB Tryz.prog m .neq 4 (.bool a) (.bool true)=some (True,.bool (!a),m):=by
  have h:kdT Tryz.prog 4=5:=by kernel_rfl
  simp [evB,evEq,eqV,h]

theorem areach1_c(p:Pt)(lv:Rat)(f:Bool)(M:Mem)(k k2:Nat)(st st2:Sta)(hk:M[k]?=some (.cells st 43 2 [[.int .i64 lv.num,.int .i64 (lv.den:Int)]]))(hk2:M[k2]?=some (.cells st2 4 1 [[.bool f]]))(hs:sm p.2)(hl:sm lv):Gives Tryz.prog 127 [.agg (ptV p),.ptr k 0 0,.ptr k2 0 0] M (.bool (rchd f lv p)):=by
  have hkl:=lend_get2 hk
  have hkf:=lend_get2 hk2
  have h1:=cmpQ_gt (p:=p.2) (q:=lv)
  have h2:=cmpQ_lt (p:=p.2) (q:=lv)
  have h3:=cmpQ_zero (p:=p.2) (q:=lv)
  unfold ptV
  cases f with
  | false=>
    refine Gives_in Tryz.func127 rfl Tryz.ntmps127 Tryz.results127 (by kernel_rfl) (by simp) rfl fun Q hQ=>?_
    (have FX:=And.intro hkl (And.intro hkf (And.intro @b_bn0 @b_bn1));repeat'(first|(refine sx ?_ ?_<;>intro h<;>first|(exfalso;omega)|skip)|(refine g_op ?_;refine g_call ?_;refine g_args ?_;(first|refine s_fn (acompare_c p.2 lv hs hl _) ?_)<;>try first|omega|assumption)|refine ny ?_|refine WA_block ?_))
    all_goals(try(exfalso;omega))
    all_goals((refine r_es hQ ?_;try with_reducible rfl))
    all_goals(unfold rchd;simp only [Bool.false_eq_true,if_false])
    all_goals(exact congrArg V.bool (by first|exact(decide_eq_true (by grind)).symm|exact(decide_eq_false (by grind)).symm))
  | true=>
    refine Gives_in Tryz.func127 rfl Tryz.ntmps127 Tryz.results127 (by kernel_rfl) (by simp) rfl fun Q hQ=>?_
    (have FX:=And.intro hkl (And.intro hkf (And.intro @b_bn0 @b_bn1));repeat'(first|(refine sx ?_ ?_<;>intro h<;>first|(exfalso;omega)|skip)|(refine g_op ?_;refine g_call ?_;refine g_args ?_;(first|refine s_fn (acompare_c p.2 lv hs hl _) ?_)<;>try first|omega|assumption)|refine ny ?_|refine WA_block ?_))
    all_goals(try(exfalso;omega))
    all_goals((refine r_es hQ ?_;try with_reducible rfl))
    all_goals(unfold rchd;simp only [if_true])
    all_goals(exact congrArg V.bool (by first|exact(decide_eq_true (by grind)).symm|exact(decide_eq_false (by grind)).symm))

theorem aknix_c (l:List Pt) (f:Pt→Bool) (k k2:Nat) (m:Mem) (hlb:l.length≤1000) (hc:∀ i,i<l.length→Gives Tryz.prog 127 [.agg (ptV (at' l i)),.ptr k 0 0,.ptr k2 0 0] (lend m++[]) (.bool (f (at' l i)))):Gives Tryz.prog 128 [.lst (ptsV l),.clo (.func 127) [] [.ptr k 0 0,.ptr k2 0 0]] m (.int .i64 (fidx f l)):=by
  have hlen:=ptsV_length (c:=l)
  have hget:=hlen
  refine Gives_in Tryz.func128 rfl Tryz.ntmps128 Tryz.results128 (by kernel_rfl) (by simp) rfl fun Q hQ=>?_
  (have FX:=And.intro hlen hget;repeat'(first|(refine sx ?_ ?_<;>intro h<;>first|(exfalso;omega)|skip)|(refine g_op ?_;refine g_call ?_;refine g_args ?_;(first|refine s_fn (hcl ()) ?_)<;>try first|omega|assumption)|(refine g_op ?_;refine g_dyn ?_;refine g_dargs ?_;first|(refine s_fn (hcl ()) ?_<;>try first|omega|assumption))|refine ny ?_|refine WA_block ?_))
  refine WA_while (σ:=Nat) [0,1,6,7,8] (fun i=>[.lst (ptsV l),.clo (.func 127) [] [.ptr k 0 0,.ptr k2 0 0],.lst (ptsV l),.int .i64 l.length,.int .i64 i]) (fun _=>lend m++[]) (fun i=>i≤l.length∧∀ j,j<i→f (at' l j)=false) (fun i=>l.length - i) 0 ⟨Nat.zero_le _,fun j h=>absurd h (Nat.not_lt_zero _)⟩ tv_ rfl ?_
  rintro i ⟨hi,hj⟩ L hL
  simp only [zipT]
  clear FX
  rcases Nat.lt_or_ge i l.length with hlt|hge
  · have hget:=ptsV_get hlt
    have hcl:=fun(_:Unit)=>hc i hlt
    unfold ptV at hcl hget
    cases hf:f (at' l i) with
    | true=>
      rw [hf] at hcl
      (have FX:=And.intro hlen hget;repeat'(first|(refine sx ?_ ?_<;>intro h<;>first|(exfalso;omega)|skip)|(refine g_op ?_;refine g_call ?_;refine g_args ?_;(first|refine s_fn (hcl ()) ?_)<;>try first|omega|assumption)|(refine g_op ?_;refine g_dyn ?_;refine g_dargs ?_;first|(refine s_fn (hcl ()) ?_<;>try first|omega|assumption))|refine ny ?_|refine WA_block ?_))
      all_goals(try(exfalso;omega))
      all_goals((refine r_es hQ ?_;try with_reducible rfl))
      all_goals(exact congrArg (V.int .i64) (fidx_at (d:=(0,0)) hlt hj hf).symm)
    | false=>
      rw [hf] at hcl
      (have FX:=And.intro hlen hget;repeat'(first|(refine sx ?_ ?_<;>intro h<;>first|(exfalso;omega)|skip)|(refine g_op ?_;refine g_call ?_;refine g_args ?_;(first|refine s_fn (hcl ()) ?_)<;>try first|omega|assumption)|(refine g_op ?_;refine g_dyn ?_;refine g_dargs ?_;first|(refine s_fn (hcl ()) ?_<;>try first|omega|assumption))|refine ny ?_|refine WA_block ?_))
      all_goals(try(exfalso;omega))
      all_goals(refine next_ hL (i+1) ⟨by omega,fun j h=>?_⟩ (by omega))
      all_goals(rcases Nat.lt_or_ge j i with h2|h2)
      all_goals first
        |exact hj j h2
        | (obtain rfl:j=i:=by omega
           exact hf)
  · have e:i=l.length:=by omega
    subst e
    have hcl:=fun(_:Unit)=>True
    (have FX:=And.intro hlen hget;repeat'(first|(refine sx ?_ ?_<;>intro h<;>first|(exfalso;omega)|skip)|(refine g_op ?_;refine g_call ?_;refine g_args ?_;(first|refine s_fn (hcl ()) ?_)<;>try first|omega|assumption)|(refine g_op ?_;refine g_dyn ?_;refine g_dargs ?_;first|(refine s_fn (hcl ()) ?_<;>try first|omega|assumption))|refine ny ?_|refine WA_block ?_))
    all_goals(try(exfalso;omega))
    all_goals((refine r_es hQ ?_;try with_reducible rfl))
    all_goals(exact congrArg (V.int .i64) (fidx_no (d:=(0,0)) hj).symm)
theorem uC22_111_9{N:Nat}{l:List Oper}{t:List (Nat×V)}{m:Mem}{Q:Exit→List (Nat×V)→Mem→Prop}(h:RgT Tryz.prog N l t m Q 96 (fun i=>if i==3 || i==10 || i==11 || i==14 || i==16 then .f else if i==15 then .a else if i==0 || i==2 || i==4 || i==6 || i==9 || i==13 then .q else .p) [.one 0,.one 1,.one 2,.one 4,.one 5,.one 6,.one 7,.one 8,.one 9,.one 12,.one 13,.grp true [3,10,11,14] [15],.one 16]):WA Tryz.prog N (.region 9 l.toArray true) t m Q:=d_rgT h
theorem areach_c(c:List Pt)(lv:Rat)(f:Bool)(hv:Valid c)(hl:sm lv)(m:Mem):Gives Tryz.prog 111 [.agg [.lst (ptsV c)],.agg [.int .i64 (Rat.num (lv)),.int .i64 ((Rat.den (lv):Nat):Int)],.bool f] m (rchV (rch c lv f)):=by
  have hlen:=ptsV_length (c:=c)
  have hfew:=hv.few
  have hp:=hv.pos
  have hg0:=ptsV_get hp
  have hix:=fun k k2 M (h1:∀ X,(lend M++X)[k]?=some (.cells .lent 43 2 [[.int .i64 lv.num,.int .i64 (lv.den:Int)]])) (h2:∀ X,(lend M++X)[k2]?=some (.cells .lent 4 1 [[.bool f]]))=>aknix_c c (rchd f lv) k k2 M (by omega) fun i hi=>areach1_c (at' c i) lv f (lend M++[]) k k2 .lent .lent (h1 []) (h2 []) (hv.sm i hi).2 hl
  rcases rch_cases c lv f with h1|⟨h1,h2⟩|⟨i,h1,h2,h3⟩
  · have hfx:fidx (rchd f lv) c= -1:=fidx_no (d:=(0,0)) h1
    have hgl:=hlen
    rw [rch_none h1]
    refine Gives_in Tryz.func111 rfl Tryz.ntmps111 Tryz.results111 (by kernel_rfl) (by simp) rfl fun Q hQ=>?_
    (have FX:=And.intro hlen (And.intro hfx hgl);repeat'(first|(refine sx ?_ ?_<;>intro h<;>first|(exfalso;omega)|skip)|(refine g_op ?_;refine g_call ?_;refine g_args ?_;(first|refine s_fn (hix _ _ _ ?_ ?_) ?_)<;>try first|omega|assumption)|refine ny ?_|refine WA_block ?_|(refine uC22_111_9 ?_;refine⟨by kernel_rfl,?_⟩)|((first|refine grp_cons (fun _=>hix _ _ _ ?_ ?_) ?_)<;>try first|omega|assumption)|(refine g_d ?_;refine d_args ?_;(first|refine d_fn (hix _ _ _ ?_ ?_) ?_|refine d_fnQ (fun _=>hix _ _ _ ?_ ?_) ?_)<;>try first|omega|assumption)|(refine g_d ?_;(first|refine d_fnY (hix _ _ _ ?_ ?_) ?_)<;>try first|omega|assumption)))
    all_goals(try(exfalso;omega))
    all_goals try(intro X;exact lend_get2 (st:= .own) (by simp) X)
    all_goals((refine r_es hQ ?_;try with_reducible rfl);rfl)
  · have hfx:fidx (rchd f lv) c=0:=rch_fidx h1 (fun j h=>absurd h (Nat.not_lt_zero _)) h2
    have hgl:=hg0
    unfold ptV at hgl
    rw [rch_zero h1 h2]
    refine Gives_in Tryz.func111 rfl Tryz.ntmps111 Tryz.results111 (by kernel_rfl) (by simp) rfl fun Q hQ=>?_
    (have FX:=And.intro hlen (And.intro hfx hgl);repeat'(first|(refine sx ?_ ?_<;>intro h<;>first|(exfalso;omega)|skip)|(refine g_op ?_;refine g_call ?_;refine g_args ?_;(first|refine s_fn (hix _ _ _ ?_ ?_) ?_)<;>try first|omega|assumption)|refine ny ?_|refine WA_block ?_|(refine uC22_111_9 ?_;refine⟨by kernel_rfl,?_⟩)|((first|refine grp_cons (fun _=>hix _ _ _ ?_ ?_) ?_)<;>try first|omega|assumption)|(refine g_d ?_;refine d_args ?_;(first|refine d_fn (hix _ _ _ ?_ ?_) ?_|refine d_fnQ (fun _=>hix _ _ _ ?_ ?_) ?_)<;>try first|omega|assumption)|(refine g_d ?_;(first|refine d_fnY (hix _ _ _ ?_ ?_) ?_)<;>try first|omega|assumption)))
    all_goals(try(exfalso;omega))
    all_goals try(intro X;exact lend_get2 (st:= .own) (by simp) X)
    all_goals((refine r_es hQ ?_;try with_reducible rfl);rfl)
  · have hfx:fidx (rchd f lv) c=((i+1:Nat):Int):=rch_fidx h1 h2 h3
    have ht0:(((i+1:Nat):Int) - 1).toNat=i:=by omega
    have ht1:(((i+1:Nat):Int)).toNat=i+1:=by omega
    have hga:=ptsV_get (c:=c) (i:=i) (by omega)
    have hgb:=ptsV_get (c:=c) (i:=i+1) h1
    have s1:=hv.sm i (by omega)
    have s2:=hv.sm (i+1) h1
    have hsl:=hv.sl i h1
    have hup:=hv.up i h1
    obtain⟨k1,_⟩:=rchd_y (h2 i (by omega)) h3
    have hs0:=sl_ne hup k1
    rw [rch_succ h1 h2 h3]
    obtain⟨⟨u,v⟩,hu⟩:∃ p,at' c i=p:=⟨_,rfl⟩
    obtain⟨⟨u2,v2⟩,hu2⟩:∃ p,at' c (i+1)=p:=⟨_,rfl⟩
    rw [hu] at hga s1 hsl hup hs0 ⊢
    rw [hu2] at hgb s2 hsl hup hs0 ⊢
    unfold ptV at hga hgb
    dsimp only at hga hgb s1 s2
    have hgl:=And.intro hga (And.intro hgb (And.intro ht0 ht1))
    have hsp:=fun g=>slP_ok hsl hup g
    obtain⟨x1,x2⟩:=xG_al (x:=lv) hs0 false
    generalize hS:sl (u,v) (u2,v2)=S at x1 x2 hsp
    have hsS:sm S:=by rw [←hS];exact hsl.2.2
    have hslw:∀ k g,CallW Tryz.prog 84 [.ptr k 0 0,.agg (ptV (u,v)),.agg (ptV (u2,v2))] k (.cells .own 96 1 [[.bool (g)]]) (.cells .own 96 1 [[.bool (g)]]) (.agg [.int .i64 (Rat.num (S)),.int .i64 ((Rat.den (S):Nat):Int)]):=fun k g=>by
      have h:=slope_w k (u,v) (u2,v2) g s1.1 s1.2 s2.1 s2.2
      rw [(hsp g).1,(hsp g).2] at h
      exact h
    unfold ptV at hslw
    dsimp only at hslw
    have htd:=fun m=>atold_c (cut (quoQ (cut (lv - v)) S+u)) (((false || !smB (lv - v)) || quoB (cut (lv - v)) S) || !smB (quoQ (cut (lv - v)) S+u)) m
    by_cases hal:alOk (u,v) (u2,v2) lv
    · obtain⟨y1,y2⟩:=x1 hal
      unfold xG at y1
      unfold xP at y2
      dsimp only at y1 y2
      rw [if_pos hal,←y2]
      rw [y1,if_neg (by decide),←y1] at htd
      refine Gives_in Tryz.func111 rfl Tryz.ntmps111 Tryz.results111 (by kernel_rfl) (by simp) rfl fun Q hQ=>?_
      (have FX:=And.intro hlen (And.intro hfx hgl);repeat'(first|(refine sx ?_ ?_<;>intro h<;>first|(exfalso;omega)|skip)|(refine g_op ?_;refine g_call ?_;refine g_args ?_;(first|refine s_fn (hix _ _ _ ?_ ?_) ?_|refine s_fn (htd _) ?_|refine s_fnW (sub_w _ lv v _ hl s1.2) ?_|refine s_fnW (hslw _ _) ?_|refine s_fnW (quoQ_w _ _ _ _ (sm_cut _) hsS) ?_|refine s_fnW (add_w _ _ _ _ (sm_quoQ _ _) s1.1) ?_)<;>try first|omega|assumption)|refine ny ?_|refine WA_block ?_|(refine uC22_111_9 ?_;refine⟨by kernel_rfl,?_⟩)|((first|refine grp_cons (fun _=>hix _ _ _ ?_ ?_) ?_|refine grp_cons (fun _=>htd _) ?_|refine grp_w (sub_w _ lv v _ hl s1.2) ?_|refine grp_w (hslw _ _) ?_|refine grp_w (quoQ_w _ _ _ _ (sm_cut _) hsS) ?_|refine grp_w (add_w _ _ _ _ (sm_quoQ _ _) s1.1) ?_)<;>try first|omega|assumption)|(refine g_d ?_;refine d_args ?_;(first|refine d_fn (hix _ _ _ ?_ ?_) ?_|refine d_fn (htd _) ?_|refine d_fnW (sub_w _ lv v _ hl s1.2) ?_|refine d_fnW (hslw _ _) ?_|refine d_fnW (quoQ_w _ _ _ _ (sm_cut _) hsS) ?_|refine d_fnW (add_w _ _ _ _ (sm_quoQ _ _) s1.1) ?_|refine d_fnQ (fun _=>hix _ _ _ ?_ ?_) ?_|refine d_fnQ (fun _=>htd _) ?_)<;>try first|omega|assumption)|(refine g_d ?_;(first|refine d_fnY (hix _ _ _ ?_ ?_) ?_|refine d_fnY (htd _) ?_)<;>try first|omega|assumption)))
      all_goals(try(exfalso;omega))
      all_goals try(intro X;exact lend_get2 (st:= .own) (by simp) X)
      all_goals((refine r_es hQ ?_;try with_reducible rfl);rfl)
    · have y1:=x2 hal
      unfold xG at y1
      dsimp only at y1
      rw [if_neg hal]
      rw [y1,if_pos rfl,←y1] at htd
      refine Gives_in Tryz.func111 rfl Tryz.ntmps111 Tryz.results111 (by kernel_rfl) (by simp) rfl fun Q hQ=>?_
      (have FX:=And.intro hlen (And.intro hfx hgl);repeat'(first|(refine sx ?_ ?_<;>intro h<;>first|(exfalso;omega)|skip)|(refine g_op ?_;refine g_call ?_;refine g_args ?_;(first|refine s_fn (hix _ _ _ ?_ ?_) ?_|refine s_fn (htd _) ?_|refine s_fnW (sub_w _ lv v _ hl s1.2) ?_|refine s_fnW (hslw _ _) ?_|refine s_fnW (quoQ_w _ _ _ _ (sm_cut _) hsS) ?_|refine s_fnW (add_w _ _ _ _ (sm_quoQ _ _) s1.1) ?_)<;>try first|omega|assumption)|refine ny ?_|refine WA_block ?_|(refine uC22_111_9 ?_;refine⟨by kernel_rfl,?_⟩)|((first|refine grp_cons (fun _=>hix _ _ _ ?_ ?_) ?_|refine grp_cons (fun _=>htd _) ?_|refine grp_w (sub_w _ lv v _ hl s1.2) ?_|refine grp_w (hslw _ _) ?_|refine grp_w (quoQ_w _ _ _ _ (sm_cut _) hsS) ?_|refine grp_w (add_w _ _ _ _ (sm_quoQ _ _) s1.1) ?_)<;>try first|omega|assumption)|(refine g_d ?_;refine d_args ?_;(first|refine d_fn (hix _ _ _ ?_ ?_) ?_|refine d_fn (htd _) ?_|refine d_fnW (sub_w _ lv v _ hl s1.2) ?_|refine d_fnW (hslw _ _) ?_|refine d_fnW (quoQ_w _ _ _ _ (sm_cut _) hsS) ?_|refine d_fnW (add_w _ _ _ _ (sm_quoQ _ _) s1.1) ?_|refine d_fnQ (fun _=>hix _ _ _ ?_ ?_) ?_|refine d_fnQ (fun _=>htd _) ?_)<;>try first|omega|assumption)|(refine g_d ?_;(first|refine d_fnY (hix _ _ _ ?_ ?_) ?_|refine d_fnY (htd _) ?_)<;>try first|omega|assumption)))
      all_goals(try(exfalso;omega))
      all_goals try(intro X;exact lend_get2 (st:= .own) (by simp) X)
      all_goals((refine r_es hQ ?_;try with_reducible rfl);rfl)
end Go.Proofs.YtomkbpoicjabfaaGreatDoor
namespace Go.Proofs.YtomkbpoicjabfaaGreatDoor
open Go.RowKit
attribute [local irreducible] WA WOs WDs WAn qThen qBlock tput
set_option maxHeartbeats 1000000
set_option maxRecDepth 20000
set_option linter.unusedSimpArgs false
set_option linter.unusedVariables false
/-- the error of a dip -/
def dipErr(a:ActR)(n d:Int):Int:=if frErr n d≠0 then frErr n d else if n<0∨a.dip * d<n then 2 else 0
def chkDip(a:ActR)(n d:Int):Int:=if acErr a≠0 then acErr a else dipErr a n d
theorem dip_bd{a:ActR}(h:acErr a=0){n d:Int}(hf:frErr n d=0):(-1000000000000000000≤n * 1∧n * 1≤1000000000000000000)∧(-1000000000000000000≤a.dip * d∧a.dip * d≤1000000000000000000):=by
  obtain⟨h1,h2,h3,h4,h5⟩:=frErr_ok hf
  have hd:=(acErr_pts h).dip
  have:=sm_mul (a:=a.dip) (b:=d) (by omega) (by omega)
  omega
theorem cmpI_pos{u v:Int}:0<cmpI u v↔v<u:=by unfold cmpI;split<;>(try split)<;>omega
theorem uC24_51_7{N:Nat}{l:List Oper}{t:List (Nat×V)}{m:Mem}{Q:Exit→List (Nat×V)→Mem→Prop}(h:RgN Tryz.prog N l t m Q (fun i=>if i==1 || i==4 || i==6 || i==7 || i==8 then .q else .p) [.one 0,.one 1,.one 2,.one 3,.one 4,.one 5,.one 6,.one 7,.one 8,.one 9,.one 10]):WA Tryz.prog N (.region 7 l.toArray true) t m Q:=d_rgN h
theorem acheckdip_c(a:ActR)(ha:Lt a)(n d:Int)(h1:B64 n)(h2:B64 d)(m:Mem):Gives Tryz.prog 51 [.agg (actV a),.agg [.int .i64 n,.int .i64 d]] m (.int .i64 (chkDip a n d)):=by
  unfold chkDip dipErr
  by_cases c1:acErr a=0
  · rw [if_neg (by omega)]
    by_cases c2:frErr n d=0
    · have hb:=dip_bd c1 c2
      have hx:=c1
      have hq:=cmpI_pos (u:=n * 1) (v:=a.dip * d)
      rw [if_neg (by omega)]
      unfold actV
      refine Gives_in Tryz.func51 rfl Tryz.ntmps51 Tryz.results51 (by kernel_rfl) (by simp) rfl fun Q hQ=>?_
      (have FX:=hx;repeat'(first|(refine sx ?_ ?_<;>intro h<;>first|(exfalso;omega)|skip)|(refine g_op ?_;refine g_call ?_;refine g_args ?_;(first|refine s_fn (acheckaction_c a ha _) ?_|refine s_fn (acheck_c n d h1 h2 _) ?_|refine s_fn (awhole_c _ _) ?_|refine s_fn (acompare_r n d a.dip 1 hb.1 hb.2 _) ?_)<;>try first|omega|assumption)|refine ny ?_|refine WA_block ?_|(refine uC24_51_7 ?_;refine⟨by kernel_rfl,?_⟩)|((first|refine grp_cons (fun _=>acheckaction_c a ha _) ?_|refine grp_cons (fun _=>acheck_c n d h1 h2 _) ?_|refine grp_cons (fun _=>awhole_c _ _) ?_|refine grp_cons (fun _=>acompare_r n d a.dip 1 hb.1 hb.2 _) ?_)<;>try first|omega|assumption)|(refine g_d ?_;refine d_args ?_;(first|refine d_fn (acheckaction_c a ha _) ?_|refine d_fn (acheck_c n d h1 h2 _) ?_|refine d_fn (awhole_c _ _) ?_|refine d_fn (acompare_r n d a.dip 1 hb.1 hb.2 _) ?_|refine d_fnQ (fun _=>acheckaction_c a ha _) ?_|refine d_fnQ (fun _=>acheck_c n d h1 h2 _) ?_|refine d_fnQ (fun _=>awhole_c _ _) ?_|refine d_fnQ (fun _=>acompare_r n d a.dip 1 hb.1 hb.2 _) ?_)<;>try first|omega|assumption)|(refine g_d ?_;(first|refine d_fnY (acheckaction_c a ha _) ?_|refine d_fnY (acheck_c n d h1 h2 _) ?_|refine d_fnY (awhole_c _ _) ?_|refine d_fnY (acompare_r n d a.dip 1 hb.1 hb.2 _) ?_)<;>try first|omega|assumption)))
      all_goals(try(exfalso;omega))
      all_goals((refine r_es hQ ?_;try with_reducible rfl))
      all_goals(first|(rw [if_pos (by omega)];done)|(rw [if_neg (by omega)];done))
    · have hb:(-1000000000000000000≤(0:Int) * 1∧(0:Int) * 1≤1000000000000000000)∧(-1000000000000000000≤(0:Int) * d∧(0:Int) * d≤1000000000000000000):=by omega
      have hx:=c1
      rw [if_pos (by omega)]
      unfold actV
      refine Gives_in Tryz.func51 rfl Tryz.ntmps51 Tryz.results51 (by kernel_rfl) (by simp) rfl fun Q hQ=>?_
      (have FX:=hx;repeat'(first|(refine sx ?_ ?_<;>intro h<;>first|(exfalso;omega)|skip)|(refine g_op ?_;refine g_call ?_;refine g_args ?_;(first|refine s_fn (acheckaction_c a ha _) ?_|refine s_fn (acheck_c n d h1 h2 _) ?_|refine s_fn (awhole_c _ _) ?_)<;>try first|omega|assumption)|refine ny ?_|refine WA_block ?_|(refine uC24_51_7 ?_;refine⟨by kernel_rfl,?_⟩)|((first|refine grp_cons (fun _=>acheckaction_c a ha _) ?_|refine grp_cons (fun _=>acheck_c n d h1 h2 _) ?_|refine grp_cons (fun _=>awhole_c _ _) ?_)<;>try first|omega|assumption)|(refine g_d ?_;refine d_args ?_;(first|refine d_fn (acheckaction_c a ha _) ?_|refine d_fn (acheck_c n d h1 h2 _) ?_|refine d_fn (awhole_c _ _) ?_|refine d_fnQ (fun _=>acheckaction_c a ha _) ?_|refine d_fnQ (fun _=>acheck_c n d h1 h2 _) ?_|refine d_fnQ (fun _=>awhole_c _ _) ?_)<;>try first|omega|assumption)|(refine g_d ?_;(first|refine d_fnY (acheckaction_c a ha _) ?_|refine d_fnY (acheck_c n d h1 h2 _) ?_|refine d_fnY (awhole_c _ _) ?_)<;>try first|omega|assumption)))
      all_goals(try(exfalso;omega))
      all_goals((refine r_es hQ ?_;try with_reducible rfl))
  · have hx:=c1
    rw [if_pos (by omega)]
    unfold actV
    refine Gives_in Tryz.func51 rfl Tryz.ntmps51 Tryz.results51 (by kernel_rfl) (by simp) rfl fun Q hQ=>?_
    (have FX:=hx;repeat'(first|(refine sx ?_ ?_<;>intro h<;>first|(exfalso;omega)|skip)|(refine g_op ?_;refine g_call ?_;refine g_args ?_;(first|refine s_fn (acheckaction_c a ha _) ?_|refine s_fn (acheck_c n d h1 h2 _) ?_|refine s_fn (awhole_c _ _) ?_)<;>try first|omega|assumption)|refine ny ?_|refine WA_block ?_|(refine uC24_51_7 ?_;refine⟨by kernel_rfl,?_⟩)|((first|refine grp_cons (fun _=>acheckaction_c a ha _) ?_|refine grp_cons (fun _=>acheck_c n d h1 h2 _) ?_|refine grp_cons (fun _=>awhole_c _ _) ?_)<;>try first|omega|assumption)|(refine g_d ?_;refine d_args ?_;(first|refine d_fn (acheckaction_c a ha _) ?_|refine d_fn (acheck_c n d h1 h2 _) ?_|refine d_fn (awhole_c _ _) ?_|refine d_fnQ (fun _=>acheckaction_c a ha _) ?_|refine d_fnQ (fun _=>acheck_c n d h1 h2 _) ?_|refine d_fnQ (fun _=>awhole_c _ _) ?_)<;>try first|omega|assumption)|(refine g_d ?_;(first|refine d_fnY (acheckaction_c a ha _) ?_|refine d_fnY (acheck_c n d h1 h2 _) ?_|refine d_fnY (awhole_c _ _) ?_)<;>try first|omega|assumption)))
    all_goals(try(exfalso;omega))
    all_goals((refine r_es hQ ?_;try with_reducible rfl))
end Go.Proofs.YtomkbpoicjabfaaGreatDoor
