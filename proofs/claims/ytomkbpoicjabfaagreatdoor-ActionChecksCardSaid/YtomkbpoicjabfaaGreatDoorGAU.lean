import Derived.Test.YtomkbpoicjabfaaGreatDoorGAT
import Derived.Test.YtomkbpoicjabfaaGreatDoorGAQ
import Derived.Test.YtomkbpoicjabfaaGreatDoorC14
import Derived.Test.YtomkbpoicjabfaaGreatDoorGAS
set_option linter.unusedSimpArgs false
set_option linter.unusedVariables false
/- contracts: the touch -/
namespace Go.Proofs.YtomkbpoicjabfaaGreatDoor
open Go.RowKit
attribute [local irreducible] WA WOs WDs WAn qThen qBlock tput
set_option maxHeartbeats 1000000
set_option maxRecDepth 20000
set_option linter.unusedSimpArgs false
set_option linter.unusedVariables false
attribute [local irreducible] smB cut sm
def touO:Option (Rat×Rat)→V
  |some (p,q)=> .agg [.int .i64 p.num,.int .i64 (p.den:Int),.int .i64 q.num,.int .i64 (q.den:Int)]
  |none=> .agg [.int .i64 0,.int .i64 0,.int .i64 0,.int .i64 0]
def touV(r:Option (Rat×Rat)):V:=match r with
  |some p=> .tup [touO (some p),.int .i64 0]
  |none=> .tup [touO none,.int .i64 8]
theorem rts_sm{a:ActR}(hp:PtsOk a)(x:Rat):∀ i,i<(rts a x a.parts.length).length→sm ((rts a x a.parts.length).getD i 0):=by
  intro i hi
  rw [rts_len] at hi
  rw [rts_get hi]
  exact sm_slpA hp hi x
theorem uC34_52_5{N:Nat}{l:List Oper}{t:List (Nat×V)}{m:Mem}{Q:Exit→List (Nat×V)→Mem→Prop}(h:RgT Tryz.prog N l t m Q 96 (fun i=>if i==2 || i==5 || i==8 || i==9 then .f else if i==6 || i==7 then .a else if i==0 || i==3 then .q else .p) [.one 0,.one 1,.one 3,.one 4,.grp true [2,5] [6,7],.one 8,.one 9]):WA Tryz.prog N (.region 5 l.toArray true) t m Q:=d_rgT h
theorem uC34_52_6{N:Nat}{l:List Oper}{t:List (Nat×V)}{m:Mem}{Q:Exit→List (Nat×V)→Mem→Prop}(h:RgT Tryz.prog N l t m Q 96 (fun i=>if i==2 || i==5 || i==8 then .f else if i==7 then .a else if i==0 || i==1 || i==3 || i==4 then .q else .p) [.one 0,.one 1,.one 3,.one 4,.grp true [2,5] [7],.one 6,.one 8]):WA Tryz.prog N (.region 6 l.toArray true) t m Q:=d_rgT h
theorem atouch_c(a:ActR)(ha:Lt a)(h:acErr a=0)(x:Rat)(hx:sm x)(m:Mem):Gives Tryz.prog 52 [.agg (actV a),.agg [.int .i64 (Rat.num (x)),.int .i64 ((Rat.den (x):Nat):Int)]] m (touV (touP a x)):=by
  have hp:=acErr_pts h
  obtain⟨_,_,hl⟩:=acErr_evs h
  have hra:=fun m=>aratios_c a ha h x hx m
  unfold rtsV at hra
  by_cases hc:allC a a.parts.length
  · rw [if_pos hc] at hra
    have hrs:=rts_sm hp x
    have hrl:=rts_len a x a.parts.length
    have htp:touP a x=if ((frcP a (rts a x a.parts.length) (balA a (rts a x a.parts.length) false).2 (rts a x a.parts.length).length).2 || !smB ((balA a (rts a x a.parts.length) false).1+(frcP a (rts a x a.parts.length) (balA a (rts a x a.parts.length) false).2 (rts a x a.parts.length).length).1)) || !smB ((balA a (rts a x a.parts.length) false).1 - (frcP a (rts a x a.parts.length) (balA a (rts a x a.parts.length) false).2 (rts a x a.parts.length).length).1) then none else some (cut ((balA a (rts a x a.parts.length) false).1+(frcP a (rts a x a.parts.length) (balA a (rts a x a.parts.length) false).2 (rts a x a.parts.length).length).1),cut ((balA a (rts a x a.parts.length) false).1 - (frcP a (rts a x a.parts.length) (balA a (rts a x a.parts.length) false).2 (rts a x a.parts.length).length).1)):=by
      unfold touP
      rw [if_pos hc,hrl]
    have hle:(rts a x a.parts.length).length≤a.parts.length:=by rw [hrl];exact Nat.le_refl _
    generalize rts a x a.parts.length=l at *
    have hbw:=fun k=>balance_w k a hp hl l hle hrs false
    have hfw:=fun k g=>friction_w k a hp l hle hrs g
    have hb:sm (balA a l false).1:=sm_ldP a (sm_balP a l false l.length) _
    generalize balA a l false=s1 at *
    obtain⟨b,g1⟩:=s1
    have hf:=sm_frcP a l g1 l.length
    have hfw:=fun k=>hfw k g1
    dsimp only at htp hb
    generalize frcP a l g1 l.length=s2 at *
    obtain⟨f,g2⟩:=s2
    dsimp only at hbw hfw htp hb hf
    rw [htp]
    obtain⟨G1,hG1⟩:∃ G,(g2 || !smB (b+f))=G:=⟨_,rfl⟩
    obtain⟨G,hG⟩:∃ G,(G1 || !smB (b - f))=G:=⟨_,rfl⟩
    have haw:=fun k=>add_w k b f g2 hb hf
    have hsw:=fun k=>sub_w k b f G1 hb hf
    rw [hG1] at haw
    rw [hG] at hsw
    rw [hG1,hG]
    unfold actV at hbw hfw hra ⊢
    cases G with
    | true=>
      rw [if_pos rfl]
      simp only [touV,touO]
      refine Gives_in Tryz.func52 rfl Tryz.ntmps52 Tryz.results52 (by kernel_rfl) (by simp) rfl fun Q hQ=>?_
      (repeat'(first|(refine sx ?_ ?_<;>intro h<;>first|(exfalso;omega)|skip)|(refine g_op ?_;refine g_call ?_;refine g_args ?_;(first|refine s_fn (hra _) ?_|refine s_fnW (hbw _) ?_|refine s_fnW (hfw _) ?_|refine s_fnW (haw _) ?_|refine s_fnW (hsw _) ?_)<;>try first|omega|assumption)|refine ny ?_|refine WA_block ?_|(refine uC34_52_5 ?_;refine⟨by kernel_rfl,?_⟩)|(refine uC34_52_6 ?_;refine⟨by kernel_rfl,?_⟩)|((first|refine grp_cons (fun _=>hra _) ?_|refine grp_w (hbw _) ?_|refine grp_w (hfw _) ?_|refine grp_w (haw _) ?_|refine grp_w (hsw _) ?_)<;>try first|omega|assumption)|(refine g_d ?_;refine d_args ?_;(first|refine d_fn (hra _) ?_|refine d_fnW (hbw _) ?_|refine d_fnW (hfw _) ?_|refine d_fnW (haw _) ?_|refine d_fnW (hsw _) ?_|refine d_fnQ (fun _=>hra _) ?_)<;>try first|omega|assumption)|(refine g_d ?_;(first|refine d_fnY (hra _) ?_)<;>try first|omega|assumption)))
      all_goals(try(exfalso;omega))
      all_goals(refine r_es hQ ?_;try with_reducible rfl)
    | false=>
      rw [if_neg (by decide)]
      simp only [touV,touO]
      refine Gives_in Tryz.func52 rfl Tryz.ntmps52 Tryz.results52 (by kernel_rfl) (by simp) rfl fun Q hQ=>?_
      (repeat'(first|(refine sx ?_ ?_<;>intro h<;>first|(exfalso;omega)|skip)|(refine g_op ?_;refine g_call ?_;refine g_args ?_;(first|refine s_fn (hra _) ?_|refine s_fnW (hbw _) ?_|refine s_fnW (hfw _) ?_|refine s_fnW (haw _) ?_|refine s_fnW (hsw _) ?_)<;>try first|omega|assumption)|refine ny ?_|refine WA_block ?_|(refine uC34_52_5 ?_;refine⟨by kernel_rfl,?_⟩)|(refine uC34_52_6 ?_;refine⟨by kernel_rfl,?_⟩)|((first|refine grp_cons (fun _=>hra _) ?_|refine grp_w (hbw _) ?_|refine grp_w (hfw _) ?_|refine grp_w (haw _) ?_|refine grp_w (hsw _) ?_)<;>try first|omega|assumption)|(refine g_d ?_;refine d_args ?_;(first|refine d_fn (hra _) ?_|refine d_fnW (hbw _) ?_|refine d_fnW (hfw _) ?_|refine d_fnW (haw _) ?_|refine d_fnW (hsw _) ?_|refine d_fnQ (fun _=>hra _) ?_)<;>try first|omega|assumption)|(refine g_d ?_;(first|refine d_fnY (hra _) ?_)<;>try first|omega|assumption)))
      all_goals(try(exfalso;omega))
      all_goals(refine r_es hQ ?_;try with_reducible rfl)
  · rw [if_neg hc] at hra
    have htp:touP a x=none:=by unfold touP;rw [if_neg hc]
    rw [htp]
    simp only [touV,touO]
    unfold actV at hra ⊢
    refine Gives_in Tryz.func52 rfl Tryz.ntmps52 Tryz.results52 (by kernel_rfl) (by simp) rfl fun Q hQ=>?_
    (repeat'(first|(refine sx ?_ ?_<;>intro h<;>first|(exfalso;omega)|skip)|(refine g_op ?_;refine g_call ?_;refine g_args ?_;(first|refine s_fn (hra _) ?_)<;>try first|omega|assumption)|refine ny ?_|refine WA_block ?_|(refine uC34_52_5 ?_;refine⟨by kernel_rfl,?_⟩)|(refine uC34_52_6 ?_;refine⟨by kernel_rfl,?_⟩)|((first|refine grp_cons (fun _=>hra _) ?_)<;>try first|omega|assumption)|(refine g_d ?_;refine d_args ?_;(first|refine d_fn (hra _) ?_|refine d_fnQ (fun _=>hra _) ?_)<;>try first|omega|assumption)|(refine g_d ?_;(first|refine d_fnY (hra _) ?_)<;>try first|omega|assumption)))
    all_goals(try(exfalso;omega))
    all_goals(refine r_es hQ ?_;try with_reducible rfl)
theorem chk_ok{a:ActR}{n d:Int}(h:chkDip a n d=0):acErr a=0∧dipErr a n d=0:=by
  unfold chkDip at h
  split at h
  · contradiction
  · exact⟨by omega,h⟩
def touE(a:ActR)(n d:Int):V:=if chkDip a n d≠0 then .tup [touO none,.int .i64 (chkDip a n d)] else touV (touP a (toQ (n,d)))

theorem atouchx_c(a:ActR)(ha:Lt a)(n d:Int)(b1:B64 n)(b2:B64 d)(m:Mem):Gives Tryz.prog 18 [.agg (actV a),.agg [.int .i64 n,.int .i64 d]] m (touE a n d):=by
  have hcd:=fun m=>acheckdip_c a ha n d b1 b2 m
  unfold touE
  by_cases h0:chkDip a n d=0
  · obtain⟨h,h2⟩:=chk_ok h0
    obtain⟨g1,g2,g3,hx,_⟩:=dip_q h2
    rw [if_neg (by omega)]
    rw [h0] at hcd
    have hx0:=h0
    generalize toQ (n,d)=x at *
    subst g2;subst g3
    have hto:=fun m=>atouch_c a ha h x hx m
    generalize touP a x=r at *
    cases r with
    | none=>
      simp only [touV,touO] at hto ⊢
      unfold actV at hto hcd ⊢
      refine Gives_in Tryz.func18 rfl Tryz.ntmps18 Tryz.results18 (by kernel_rfl) (by simp) rfl fun Q hQ=>?_
      (have FX:=hx0;repeat'(first|(refine sx ?_ ?_<;>intro h<;>first|(exfalso;omega)|skip)|(refine g_op ?_;refine g_call ?_;refine g_args ?_;(first|refine s_fn (hcd _) ?_|refine s_fn (hto _) ?_)<;>try first|omega|assumption)|refine ny ?_|refine WA_block ?_))
      all_goals(try(exfalso;omega))
      all_goals(refine r_es hQ ?_;try with_reducible rfl)
    | some p=>
      obtain⟨p,q⟩:=p
      simp only [touV,touO] at hto ⊢
      unfold actV at hto hcd ⊢
      refine Gives_in Tryz.func18 rfl Tryz.ntmps18 Tryz.results18 (by kernel_rfl) (by simp) rfl fun Q hQ=>?_
      (have FX:=hx0;repeat'(first|(refine sx ?_ ?_<;>intro h<;>first|(exfalso;omega)|skip)|(refine g_op ?_;refine g_call ?_;refine g_args ?_;(first|refine s_fn (hcd _) ?_|refine s_fn (hto _) ?_)<;>try first|omega|assumption)|refine ny ?_|refine WA_block ?_))
      all_goals(try(exfalso;omega))
      all_goals(refine r_es hQ ?_;try with_reducible rfl)
  · rw [if_pos h0]
    have hx0:=h0
    simp only [touO]
    unfold actV at hcd ⊢
    refine Gives_in Tryz.func18 rfl Tryz.ntmps18 Tryz.results18 (by kernel_rfl) (by simp) rfl fun Q hQ=>?_
    (have FX:=hx0;repeat'(first|(refine sx ?_ ?_<;>intro h<;>first|(exfalso;omega)|skip)|(refine g_op ?_;refine g_call ?_;refine g_args ?_;(first|refine s_fn (hcd _) ?_)<;>try first|omega|assumption)|refine ny ?_|refine WA_block ?_))
    all_goals(try(exfalso;omega))
    all_goals(refine r_es hQ ?_;try with_reducible rfl)
def atE(l:List Rk)(n d:Int):Int:=if cuErr l≠0 then cuErr l else frErr n d
theorem atE_ok{l:List Rk}{n d:Int}(h:atE l n d=0):Valid (l.map toP)∧rksV l=ptsV (l.map toP)∧frErr n d=0∧(toQ (n,d)).num=n∧((toQ (n,d)).den:Int)=d∧sm (toQ (n,d)):=by
  unfold atE at h
  split at h
  · contradiction
  · rename_i h0
    have h0:cuErr l=0:=by omega
    obtain⟨h1,h2⟩:=cuErr_ok h0
    obtain⟨h3,h4⟩:=frErr_q h
    unfold rawQ at h3
    injection h3 with h5 h6
    exact⟨h1,by rw [ptsV_raw,h2],h,h5,h6,h4⟩

theorem acheckat_c(l:List Rk)(hB:RkB l)(n d:Int)(b1:B64 n)(b2:B64 d)(m:Mem):Gives Tryz.prog 47 [.agg [.lst (rksV l)],.agg [.int .i64 n,.int .i64 d]] m (.int .i64 (atE l n d)):=by
  unfold atE
  by_cases h:cuErr l=0
  · rw [if_neg (by omega)]
    have hx:=h
    refine Gives_in Tryz.func47 rfl Tryz.ntmps47 Tryz.results47 (by kernel_rfl) (by simp) rfl fun Q hQ=>?_
    (have FX:=hx;repeat'(first|(refine sx ?_ ?_<;>intro h<;>first|(exfalso;omega)|skip)|(refine g_op ?_;refine g_call ?_;refine g_args ?_;(first|refine s_fn (acheckcurve_c l hB _) ?_|refine s_fn (acheck_c n d b1 b2 _) ?_)<;>try first|omega|assumption)|refine ny ?_|refine WA_block ?_))
    all_goals(try(exfalso;omega))
    all_goals((refine r_es hQ ?_;try with_reducible rfl))
  · rw [if_pos h]
    have hx:=h
    refine Gives_in Tryz.func47 rfl Tryz.ntmps47 Tryz.results47 (by kernel_rfl) (by simp) rfl fun Q hQ=>?_
    (have FX:=hx;repeat'(first|(refine sx ?_ ?_<;>intro h<;>first|(exfalso;omega)|skip)|(refine g_op ?_;refine g_call ?_;refine g_args ?_;(first|refine s_fn (acheckcurve_c l hB _) ?_|refine s_fn (acheck_c n d b1 b2 _) ?_)<;>try first|omega|assumption)|refine ny ?_|refine WA_block ?_))
    all_goals(try(exfalso;omega))
    all_goals((refine r_es hQ ?_;try with_reducible rfl))
/-- the value of a curve, or the error -/
def valR(l:List Rk)(n d:Int):Option Rat×Int:=if atE l n d≠0 then (none,atE l n d) else if valOk (l.map toP) (toQ (n,d)) then (some (valE (l.map toP) (toQ (n,d))),0) else (none,8)
theorem avalue_c(l:List Rk)(hB:RkB l)(n d:Int)(b1:B64 n)(b2:B64 d)(m:Mem):Gives Tryz.prog 15 [.agg [.lst (rksV l)],.agg [.int .i64 n,.int .i64 d]] m (rchV (valR l n d)):=by
  have hca:=fun m=>acheckat_c l hB n d b1 b2 m
  unfold valR
  by_cases h0:atE l n d=0
  · obtain⟨hv,hks,g1,g2,g3,g4⟩:=atE_ok h0
    rw [if_neg (by omega)]
    have hx:=h0
    rw [hks] at hca ⊢
    rw [h0] at hca
    generalize l.map toP=c at *
    generalize toQ (n,d)=q at *
    subst g2;subst g3
    have hval:=fun k=>value_w k c q false hv g4
    by_cases ho:valOk c q
    · obtain⟨e1,e2⟩:=vP_ok hv ho false
      rw [e1,e2] at hval
      have htd:=fun m=>atold_c (valE c q) false m
      rw [if_neg (by decide)] at htd
      rw [if_pos ho]
      simp only [rchV,frO]
      refine Gives_in Tryz.func15 rfl Tryz.ntmps15 Tryz.results15 (by kernel_rfl) (by simp) rfl fun Q hQ=>?_
      (have FX:=hx;repeat'(first|(refine sx ?_ ?_<;>intro h<;>first|(exfalso;omega)|skip)|(refine g_op ?_;refine g_call ?_;refine g_args ?_;(first|refine s_fn (hca _) ?_|refine s_fn (htd _) ?_|refine s_fnW (hval _) ?_)<;>try first|omega|assumption)|refine ny ?_|refine WA_block ?_))
      all_goals(try(exfalso;omega))
      all_goals((refine r_es hQ ?_;try with_reducible rfl))
    · have e2:=vG_bad hv ho false
      rw [e2] at hval
      have htd:=fun m=>atold_c (vP c q) true m
      rw [if_pos rfl] at htd
      rw [if_neg ho]
      simp only [rchV,frO]
      refine Gives_in Tryz.func15 rfl Tryz.ntmps15 Tryz.results15 (by kernel_rfl) (by simp) rfl fun Q hQ=>?_
      (have FX:=hx;repeat'(first|(refine sx ?_ ?_<;>intro h<;>first|(exfalso;omega)|skip)|(refine g_op ?_;refine g_call ?_;refine g_args ?_;(first|refine s_fn (hca _) ?_|refine s_fn (htd _) ?_|refine s_fnW (hval _) ?_)<;>try first|omega|assumption)|refine ny ?_|refine WA_block ?_))
      all_goals(try(exfalso;omega))
      all_goals((refine r_es hQ ?_;try with_reducible rfl))
  · rw [if_pos h0]
    have hx:=h0
    simp only [rchV,frO]
    refine Gives_in Tryz.func15 rfl Tryz.ntmps15 Tryz.results15 (by kernel_rfl) (by simp) rfl fun Q hQ=>?_
    (have FX:=hx;repeat'(first|(refine sx ?_ ?_<;>intro h<;>first|(exfalso;omega)|skip)|(refine g_op ?_;refine g_call ?_;refine g_args ?_;(first|refine s_fn (hca _) ?_)<;>try first|omega|assumption)|refine ny ?_|refine WA_block ?_))
    all_goals(try(exfalso;omega))
    all_goals((refine r_es hQ ?_;try with_reducible rfl))
end Go.Proofs.YtomkbpoicjabfaaGreatDoor
namespace Go.Proofs.YtomkbpoicjabfaaGreatDoor
open Go.RowKit
attribute [local irreducible] WA WOs WDs WAn qThen qBlock tput
set_option maxHeartbeats 1000000
set_option maxRecDepth 20000
set_option linter.unusedSimpArgs false
set_option linter.unusedVariables false
def wippenB:List UInt8:=[119,105,112,112,101,110]
def hammerB:List UInt8:=[104,97,109,109,101,114]
def liftB:List UInt8:=[108,105,102,116]
def letoffB:List UInt8:=[108,101,116,45,111,102,102]
def dropB:List UInt8:=[100,114,111,112]
def upA:ActR:=⟨1000,[⟨wippenB,[],[wk 0 0,wk 1000 500],100,20⟩,⟨hammerB,wippenB,[wk 0 0,wk 450 4500,wk 500 4300],30,10⟩],[⟨liftB,wippenB,1,false⟩,⟨letoffB,hammerB,4500,false⟩,⟨dropB,hammerB,4600,false⟩],[]⟩
theorem upA_lt:Lt upA:=by
  refine⟨by decide,by decide,by decide,?_,?_⟩
  · intro i hi
    have:i=0∨i=1:=by simp only [upA,List.length_cons,List.length_nil] at hi;omega
    rcases this with rfl|rfl<;>decide
  · intro i hi
    have:i=0∨i=1∨i=2:=by simp only [upA,List.length_cons,List.length_nil] at hi;omega
    rcases this with rfl|rfl|rfl<;>decide
theorem upA_ok:acErr upA=0:=by decide +kernel
theorem upA_dip:chkDip upA 0 1=0:=by decide +kernel
theorem upA_tou:touP upA (toQ (0,1))=some ((260:Rat),(140:Rat)):=by decide +kernel
theorem upA_hap:hapS upA=some [(0,(2:Rat)),(1,(900:Rat))]:=by decide +kernel
def exL:List Rk:=[wk 0 0,wk 10 5,wk 20 25]
theorem exL_val:valR exL 15 1=(some (15:Rat),0):=by decide +kernel
theorem exL_b:RkB exL:=by
  intro i hi
  have:i=0∨i=1∨i=2:=by simp only [exL,List.length_cons,List.length_nil] at hi;omega
  rcases this with rfl|rfl|rfl<;>decide

theorem lupright_c(m:Mem):Gives Tryz.prog 19 [] m (.agg (actV upA)):=by
  suffices key:Gives Tryz.prog 19 [] m (.agg [.int .i64 1000,.lst (prtsV upA.parts),.lst (evsV upA.evs),.nilsl]) by
    exact Gives_weak key (wk_agg ⟨WkV.refl _,WkV.refl _,WkV.refl _,wk_nil,trivial⟩)
  refine CallA_in Tryz.func19 rfl Tryz.ntmps19 Tryz.results19 (by kernel_rfl) (by simp) fun Q hQ=>?_
  (repeat'(first|(refine sx ?_ ?_<;>intro h<;>first|(exfalso;omega)|skip)|(refine g_op ?_;refine g_call ?_;refine g_args ?_;(first|refine s_fn (lcurve4_c 0 0 1000 500 _ _ .own ?_) ?_|refine s_fn (lcurve6_c 0 0 450 4500 500 4300 _ _ .own ?_) ?_)<;>try first|omega|assumption)|refine ny ?_|refine WA_block ?_))
  all_goals try(simp;done)
  all_goals(refine r_esA hQ (fin_a4 (frzTo_int _ _ _) (frzTo_sl (j:=3) rfl rfl rfl) (frzTo_sl (j:=4) rfl rfl rfl) (frzTo_nil _) ⟨rfl,rfl⟩))
theorem ex_val(m:Mem):Gives Tryz.prog 15 [.agg [.lst (rksV [wk 0 0,wk 10 5,wk 20 25])],.agg [.int .i64 15,.int .i64 1]] m (.tup [.agg [.int .i64 15,.int .i64 1],.int .i64 0]):=by
  have h:=avalue_c exL exL_b 15 1 (by constructor<;>decide) (by constructor<;>decide) m
  rw [exL_val] at h
  exact h
theorem ex_tou(m:Mem):Gives Tryz.prog 18 [.agg (actV upA),.agg [.int .i64 0,.int .i64 1]] m (.tup [.agg [.int .i64 260,.int .i64 1,.int .i64 140,.int .i64 1],.int .i64 0]):=by
  have h:=atouchx_c upA upA_lt 0 1 (by constructor<;>decide) (by constructor<;>decide) m
  unfold touE at h
  rw [upA_dip,if_neg (by decide),upA_tou] at h
  exact h
theorem ex_ord(m:Mem):Gives Tryz.prog 20 [.agg (actV upA)] m (.tup [.lst [[.str [108,105,102,116]],[.str [108,101,116,45,111,102,102]]],.int .i64 0]):=by
  have h:=aorder_c upA upA_lt (fun _=>by decide) m
  unfold ordV at h
  rw [upA_ok,if_neg (by decide),upA_hap] at h
  exact h
theorem uC39_5_4{N:Nat}{l:List Oper}{t:List (Nat×V)}{m:Mem}{Q:Exit→List (Nat×V)→Mem→Prop}(h:RgN Tryz.prog N l t m Q (fun i=>if i==24 || i==25 then .a else if i==3 || i==4 || i==5 || i==12 || i==13 || i==14 || i==16 then .q else .p) [.one 0,.one 1,.one 2,.one 3,.one 4,.one 5,.one 6,.one 7,.one 8,.one 9,.one 10,.one 11,.one 12,.one 13,.one 14,.one 15,.one 16,.one 17,.one 18,.one 19,.one 20,.one 21,.one 22,.one 23,.one 24,.one 25,.one 26,.one 27]):WA Tryz.prog N (.region 4 l.toArray true) t m Q:=d_rgN h
theorem lawake_c(m:Mem):Gives Tryz.prog 5 [] m (.bool true):=by
  refine Gives_in Tryz.func5 rfl Tryz.ntmps5 Tryz.results5 (by kernel_rfl) (by simp) rfl fun Q hQ=>?_
  (repeat'(first|(refine sx ?_ ?_<;>intro h<;>first|(exfalso;omega)|skip)|(refine g_op ?_;refine g_call ?_;refine g_args ?_;(first|refine s_fn (lcurve6_c 0 0 10 5 20 25 _ _ .own ?_) ?_|refine s_fn (rwhole_c _ _) ?_|refine s_fn (ex_val _) ?_|refine s_fn (lupright_c _) ?_|refine s_fn (ex_tou _) ?_|refine s_fn (ex_ord _) ?_|refine s_fn (btexts_same [108,105,102,116] [108,101,116,45,111,102,102] _ _ .own ?_) ?_)<;>try first|omega|assumption)|refine ny ?_|refine WA_block ?_|(refine uC39_5_4 ?_;refine⟨by kernel_rfl,?_⟩)|((first|refine grp_cons (fun _=>lcurve6_c 0 0 10 5 20 25 _ _ .own ?_) ?_|refine grp_cons (fun _=>rwhole_c _ _) ?_|refine grp_cons (fun _=>ex_val _) ?_|refine grp_cons (fun _=>lupright_c _) ?_|refine grp_cons (fun _=>ex_tou _) ?_|refine grp_cons (fun _=>ex_ord _) ?_|refine grp_cons (fun _=>btexts_same [108,105,102,116] [108,101,116,45,111,102,102] _ _ .own ?_) ?_)<;>try first|omega|assumption)|(refine g_d ?_;refine d_args ?_;(first|refine d_fn (lcurve6_c 0 0 10 5 20 25 _ _ .own ?_) ?_|refine d_fn (rwhole_c _ _) ?_|refine d_fn (ex_val _) ?_|refine d_fn (lupright_c _) ?_|refine d_fn (ex_tou _) ?_|refine d_fn (ex_ord _) ?_|refine d_fn (btexts_same [108,105,102,116] [108,101,116,45,111,102,102] _ _ .own ?_) ?_|refine d_fnQ (fun _=>lcurve6_c 0 0 10 5 20 25 _ _ .own ?_) ?_|refine d_fnQ (fun _=>rwhole_c _ _) ?_|refine d_fnQ (fun _=>ex_val _) ?_|refine d_fnQ (fun _=>lupright_c _) ?_|refine d_fnQ (fun _=>ex_tou _) ?_|refine d_fnQ (fun _=>ex_ord _) ?_|refine d_fnQ (fun _=>btexts_same [108,105,102,116] [108,101,116,45,111,102,102] _ _ .own ?_) ?_)<;>try first|omega|assumption)|(refine g_d ?_;(first|refine d_fnY (lcurve6_c 0 0 10 5 20 25 _ _ .own ?_) ?_|refine d_fnY (rwhole_c _ _) ?_|refine d_fnY (ex_val _) ?_|refine d_fnY (lupright_c _) ?_|refine d_fnY (ex_tou _) ?_|refine d_fnY (ex_ord _) ?_|refine d_fnY (btexts_same [108,105,102,116] [108,101,116,45,111,102,102] _ _ .own ?_) ?_)<;>try first|omega|assumption)))
  all_goals try(simp;done)
  all_goals(refine r_es hQ ?_;try with_reducible rfl)
end Go.Proofs.YtomkbpoicjabfaaGreatDoor
