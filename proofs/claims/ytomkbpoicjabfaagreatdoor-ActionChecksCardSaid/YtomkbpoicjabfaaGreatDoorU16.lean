/- contract: the program writes an action -/
import Derived.Test.YtomkbpoicjabfaaGreatDoorGAL
set_option linter.unusedSimpArgs false
set_option linter.unusedVariables false
namespace Go.Proofs.YtomkbpoicjabfaaGreatDoor
open Go.RowKit
attribute [local irreducible] WA WOs WDs WAn qThen qBlock tput
set_option maxHeartbeats 1000000
set_option maxRecDepth 20000
set_option linter.unusedSimpArgs false
set_option linter.unusedVariables false
set_option maxHeartbeats 8000000
section
variable {P:Program} {N:Nat} {ops:Array Oper} {kd:Nat→Kd} {LL:Lim} {is:List El} {t:List (Nat×V)} {m:Mem} {Q:List (Nat×V)→Mem→Prop} {f:Operand} {l:List Operand} {ts:Array TypeId} {ty:TypeId} {pos:String} {af:Array Edge} {vs:List V} {i d:Nat} {g:FuncId}
/-- a call that may change all there is, the last one of a region that draws its order -/
theorem d_fnAw{R:V→Option Mem→Prop}(hc:CallA P g vs m R)(h:∀ v mo,R v mo→WDs P N ops kd LL is ((d,v)::t) (mo.getD m) Q)(hk:kd i= .w):DArgG P N ops kd LL i is t m Q d g vs:=by
  intro l ts ty pos af hd hi ha
  subst ha
  unfold WDs
  simp only [hi]
  refine⟨hd,?_⟩
  have hf:evO t (.func g)= .clo (.func g) [] []:=rfl
  simp only [hf,hk]
  have hc:CallA P g ([]++l.toArray.toList.map (evO t)++[]) m R:=by simpa using hc
  exact hc.mono fun v mo hr=>by
    show WDs P N ops kd LL is (tput t (some d) v) (mo.getD m) Q
    simpa only [tput_some] using h v mo hr
/-- .. to which a whole slice of the call's own is lent; the slice is read alone from then on -/
theorem d_fzE{B X m':Mem}{n:Nat}{st:Sta}{ty sz:Nat}{es:List (List V)}{vs':List V}{v:V}(j p:Nat)(hc:Gives P g vs' m' v)(h:WDs P N ops kd LL is ((d,v)::t) m' Q)(hn:es.length=n:=by first|assumption|fail)(hm:m=B++X:=by first|exact rfl|fail)(hX:X[j]?=some (.cells st ty sz es):=by first|exact rfl|fail)
    (hp:vs[p]?=some (.sl (B.length+j) n):=by first|exact rfl|fail) (hvs:vs.set p (.lst es)=vs':=by first|exact rfl|fail) (hm':B++X.set j (.cells .ro ty sz es)=m':=by first|exact rfl|fail) (hk:kd i= .w:=by first|exact rfl|fail):DArgG P N ops kd LL i is t m Q d g vs:=by
  subst hm;subst hvs;subst hm';subst hn
  refine d_fnAw (CallA_fz1 hX hp (Nat.le_refl _) (by rw [List.take_length];exact hc)) ?_ hk
  rintro v mo ⟨mo0,⟨rfl,rfl⟩,rfl⟩
  exact h
end
theorem join_flat:∀ (w:Txt) (ws:List Txt),joinS (w::ws)=w++ws.flatMap fun x=>32::x
  |w,[]=>by simp [joinS]
  | w,x::r=>by
    have ih:=join_flat x r
    show w++32::joinS (x::r)=_
    rw [ih]
    simp
def corT(l:List Rk):Txt:=l.flatMap fun c=>rowT [c.1.1,c.2.1]
theorem corT_W:∀ (l:List Rk),((corW l).flatMap fun x=>32::x)=corT l
  |[]=>rfl
  | c::r=>by
    have ih:=corT_W r
    simp only [corW,corT,List.flatMap_cons,rowT,List.flatMap_nil] at ih ⊢
    rw [ih]
    simp
theorem corT_snoc(l:List Rk)(c:Rk):corT (l++[c])=corT l++rowT [c.1.1,c.2.1]:=by simp [corT,List.flatMap_append]
theorem line_dpT(d:Int):[97,99,116,105,111,110]++rowT [d]=joinS (dpW d):=by
  rw [dpW,join_flat]
  simp [rowT,actionT]
theorem line_ptT(p:PartR):[112,97,114,116,32]++p.name++[32]++drW p.driver++rowT [p.wt,p.fr]++corT p.cor=joinS (ptW p):=by
  rw [ptW,join_flat]
  simp only [List.flatMap_cons,corT_W]
  simp [rowT,partT]
theorem line_evT(e:EvR):[101,118,101,110,116,32]++e.name++[32]++e.part++[32]++dirW e.fall++rowT [e.lev]=joinS (evW e):=by
  rw [evW,join_flat]
  simp [rowT,eventT]
theorem line_ldT(l:Int×Int):[108,101,97,100]++rowT [l.1,l.2]=joinS (ldW l):=by
  rw [ldW,join_flat]
  simp [rowT,leadT]
theorem take_snR{α:Type}{l:List α}{d:α}{i:Nat}(h:i<l.length):l.take (i+1)=l.take i++[l.getD i d]:=by
  rw [List.take_succ_eq_append_getElem h,List.getD_eq_getElem?_getD,List.getElem?_eq_getElem h];rfl
/-- the memory of one who writes lines -/
def lnM(m:Mem)(a:ActR)(L:List Txt)(M:Mem)(v:V):Prop:=∃ X j,M=lend m++(actB a::X)∧v= .sl ((lend m).length+(j+1)) L.length∧X[j]?=some (.cells .own 9 1 (xsV L))
theorem corT_len{l:List Rk}(h:∀ c∈l,(c.1.2=1∧c.2.2=1)∧c.1.1.natAbs≤100000∧c.2.1.natAbs≤100000):(corT l).length≤l.length * 26:=by
  induction l with
  |nil=>exact Nat.zero_le _
  | cons c r ih=>
    have h1:=ih fun x hx=>h x (List.mem_cons_of_mem _ hx)
    have hc:=h c List.mem_cons_self
    have h2:=rowT_len (l:=[c.1.1,c.2.1]) (fun n hn=>by
      simp only [List.mem_cons,List.not_mem_nil,or_false] at hn
      rcases hn with rfl|rfl
      · exact hc.2.1
      · exact hc.2.2)
    have e:(c::r).length * 26=r.length * 26+26:=Nat.succ_mul _ _
    have e2:corT (c::r)=rowT [c.1.1,c.2.1]++corT r:=rfl
    rw [e2,e,List.length_append]
    simp only [List.length_cons,List.length_nil] at h2
    omega
theorem uU16_10_20{N:Nat}{l:List Oper}{t:List (Nat×V)}{m:Mem}{Q:Exit→List (Nat×V)→Mem→Prop}(h:RgN Tryz.prog N l t m Q (fun i=>if i==16 || i==18 then .w else if i==15 || i==17 then .a else if i==2 || i==3 || i==4 || i==6 || i==7 || i==8 || i==10 || i==11 || i==12 || i==14 then .q else .p) [.one 0,.one 1,.one 2,.one 3,.one 4,.one 5,.one 6,.one 7,.one 8,.one 9,.one 10,.one 11,.one 12,.one 13,.one 14,.one 15,.one 16,.one 17,.one 18,.one 19]):WA Tryz.prog N (.region 20 l.toArray true) t m Q:=d_rgN h
theorem aprint_bad(a:ActR)(ha:Lt a)(h0:acErr a≠0)(m:Mem):Gives Tryz.prog 10 [.agg (actV a)] m (.tup [.str [],.int .i64 (acErr a)]):=by
  have hcb:=fun m=>acheckaction_c a ha m
  unfold actV at hcb ⊢
  generalize acErr a=c at *
  refine Gives_in Tryz.func10 rfl Tryz.ntmps10 Tryz.results10 (by kernel_rfl) (by simp) rfl fun Q hQ=>?_
  (have FX:=h0;repeat'(first|(refine sx ?_ ?_<;>intro h<;>first|(exfalso;omega)|skip)|(refine g_op ?_;refine g_call ?_;refine g_args ?_;(first|refine s_fn (hcb _) ?_)<;>try first|omega|assumption)|refine ny ?_|refine WA_block ?_|(refine uU16_10_20 ?_;refine⟨by kernel_rfl,?_⟩)|((first|refine grp_cons (fun _=>hcb _) ?_)<;>try first|omega|assumption)|(refine g_d ?_;refine d_args ?_;(first|refine d_fn (hcb _) ?_|refine d_fnQ (fun _=>hcb _) ?_)<;>try first|omega|assumption)|(refine g_d ?_;(first|refine d_fnY (hcb _) ?_)<;>try first|omega|assumption)))
  all_goals(try(exfalso;first|omega|contradiction))
  all_goals(refine r_es hQ ?_;try with_reducible rfl)
theorem aprint_ok (a:ActR) (ha:Lt a) (hw:AcWr a) (h0:acErr a=0) (m:Mem):Gives Tryz.prog 10 [.agg (actV a)] m (.tup [.str (printA a),.int .i64 0]):=by
  have hcb:=fun m=>acheckaction_c a ha m
  rw [h0] at hcb
  unfold actV at hcb ⊢
  have hlp:=prtsV_length (l:=a.parts)
  have hle:=evsV_length (l:=a.evs)
  have hld:=ldsV_length (l:=a.leads)
  have hfp:=hw.fp
  have hfe:=hw.fe
  have hfl:=hw.fl
  suffices key:CallA Tryz.prog 10 [.agg [.int .i64 a.dip,.lst (prtsV a.parts),.lst (evsV a.evs),.lst (ldsV a.leads)]] m (fun v mo=>mo=none∧WkV v (.tup [.str (printA a),.int .i64 0])) from Gives_ofX key fun v mo h=>h
  refine CallA_in Tryz.func10 rfl Tryz.ntmps10 Tryz.results10 (by kernel_rfl) (by simp) fun Q hQ=>?_
  (have FX:=And.intro hlp (And.intro hle (And.intro hld (And.intro hfp (And.intro hfe hfl))));repeat'(first|(refine sx ?_ ?_<;>intro h<;>first|(exfalso;omega)|skip)|(refine g_op ?_;refine g_call ?_;refine g_args ?_;(first|refine s_fn (hcb _) ?_)<;>try first|omega|assumption)|refine ny ?_|refine WA_block ?_|(refine uU16_10_20 ?_;refine⟨by kernel_rfl,?_⟩)|((first|refine grp_cons (fun _=>hcb _) ?_)<;>try first|omega|assumption)|(refine g_d ?_;refine d_args ?_;(first|refine d_fn (hcb _) ?_|refine d_fnQ (fun _=>hcb _) ?_)<;>try first|omega|assumption)|(refine g_d ?_;(first|refine d_fnY (hcb _) ?_)<;>try first|omega|assumption)))
  all_goals(try(exfalso;omega))
  refine g_op ?_;refine g_call ?_;refine g_args ?_;refine s_fzE (B:=lend m) (es:=nsV [a.dip]) (n:=1) 1 1 (awords_c [97,99,116,105,111,110] [a.dip] (by decide) (by simp) (fun n hn=>by obtain rfl:=List.mem_singleton.1 hn;exact hw.d) _) ?_ (hn:=rfl)
  rw [line_dpT]
  (have FX:=And.intro hlp (And.intro hle (And.intro hld (And.intro hfp (And.intro hfe hfl))));repeat'(first|(refine sx ?_ ?_<;>intro h<;>first|(exfalso;omega)|skip)|(refine g_op ?_;refine g_call ?_;refine g_args ?_;(first|refine s_fn (hcb _) ?_)<;>try first|omega|assumption)|refine ny ?_|refine WA_block ?_|(refine uU16_10_20 ?_;refine⟨by kernel_rfl,?_⟩)|((first|refine grp_cons (fun _=>hcb _) ?_)<;>try first|omega|assumption)|(refine g_d ?_;refine d_args ?_;(first|refine d_fn (hcb _) ?_|refine d_fnQ (fun _=>hcb _) ?_)<;>try first|omega|assumption)|(refine g_d ?_;(first|refine d_fnY (hcb _) ?_)<;>try first|omega|assumption)))
  clear FX
  refine WA_while (σ:=Nat×Mem×V) [1,5,27,28,29] (fun q=>[.ptr (lend m).length 0 0,q.2.2,.lst (prtsV a.parts),.int .i64 a.parts.length,.int .i64 q.1]) (fun q=>q.2.1) (fun q=>q.1≤a.parts.length∧lnM m a (joinS (dpW a.dip)::(a.parts.take q.1).map fun x=>joinS (ptW x)) q.2.1 q.2.2) (fun q=>a.parts.length - q.1) (0,_,.sl ((lend m).length+2) 1) ⟨Nat.zero_le _,[.cells .ro 3 1 [[.int .i64 a.dip]],.cells .own 9 1 [[.str (joinS (dpW a.dip))]]],1,rfl,rfl,rfl⟩ tv_ rfl ?_
  rintro⟨i,M1,vv⟩ ⟨hi,X,j,hM1,hvv,hj⟩ K hK
  dsimp only at hi hM1 hvv hj
  subst hM1 hvv
  simp only [zipT]
  have hLl:(joinS (dpW a.dip)::(a.parts.take i).map fun x=>joinS (ptW x)).length≤50:=by rw [List.length_cons,List.length_map,List.length_take];omega
  have hjl:=(List.getElem?_eq_some_iff.1 hj).1
  rcases Nat.lt_or_ge i a.parts.length with hlt|hge
  · have hga:=prtsV_get hlt
    have hx:=hw.p _ (gdm (d:=p0) hlt)
    have htk:=take_snR (d:=p0) hlt
    have hlt1:=line_ptT (a.parts.getD i p0)
    have hsn:(joinS (dpW a.dip)::(a.parts.take (i+1)).map fun x=>joinS (ptW x))=(joinS (dpW a.dip)::(a.parts.take i).map fun x=>joinS (ptW x))++[joinS (ptW (a.parts.getD i p0))]:=by rw [htk];simp
    have hny:=fun(M9:Mem) (v9:V)=>hK (i+1,M9,v9)
    dsimp only at hny
    rw [hsn] at hny
    clear hK hsn htk
    generalize (joinS (dpW a.dip)::(a.parts.take i).map fun x=>joinS (ptW x))=L at *
    generalize a.parts.getD i p0=p at *
    obtain⟨nm,dr,cor,wt,fr⟩:=p
    dsimp only at hlt1
    rw [←hlt1] at hny
    clear hlt1
    unfold prtV at hga
    dsimp only at hga
    have hn12:nm.length≤12:=hx.n.2.1
    have hd12:(drW dr).length≤12:=drW_w hx.d
    have hcl:cor.length≤12:=hx.k
    have hcc:∀ c∈cor,(c.1.2=1∧c.2.2=1)∧c.1.1.natAbs≤100000∧c.2.1.natAbs≤100000:=hx.c
    have hwf:∀ n∈[wt,fr],n.natAbs≤100000:=fun n hn=>by
      simp only [List.mem_cons,List.not_mem_nil,or_false] at hn
      rcases hn with rfl|rfl
      · exact hx.w
      · exact hx.f
    clear hx
    have hgj:∀ Y:Mem,(X++Y)[j]?=some (.cells .own 9 1 (xsV L)):=fun Y=>by rw [List.getElem?_append_left hjl];exact hj
    have hap:∀ a b:Txt,(a++b).length=a.length+b.length:=fun a b=>List.length_append
    have k1:([112,97,114,116,32]:Txt).length=5:=rfl
    have k2:([32]:Txt).length=1:=rfl
    rw [show X=X++[] from(List.append_nil _).symm]
    (have FX:=And.intro hlp (And.intro hga (And.intro hlt (And.intro hfp (And.intro hgj (And.intro hap (And.intro k1 (And.intro k2 (And.intro hn12 hd12))))))));repeat'(first|(refine sx ?_ ?_<;>intro h<;>first|(exfalso;omega)|skip)|refine ny ?_|refine WA_block ?_|(refine uU16_10_20 ?_;refine⟨by kernel_rfl,?_⟩)))
    all_goals(try(exfalso;omega))
    refine g_op ?_;refine g_call ?_;refine g_args ?_;refine s_fzE (B:=lend m) (es:=[[.str dr],[.str [45]]]) (n:=2) (X.length+2) 0 (corstr_c dr _) ?_ (hn:=rfl) (st:= .own) (ty:=9) (sz:=1) (X:=actB a::(X++[.cells .own 71 5 [[.str nm,.str dr,.lst (rksV cor),.int .i64 wt,.int .i64 fr]],.cells .own 9 1 [[.str dr],[.str [45]]]])) (m':=lend m++(actB a::(X++[.cells .own 71 5 [[.str nm,.str dr,.lst (rksV cor),.int .i64 wt,.int .i64 fr]],.cells .ro 9 1 [[.str dr],[.str [45]]]]))) (hX:=by simp) (hm':=by simp)
    (have FX:=And.intro hlp (And.intro hga (And.intro hlt (And.intro hfp (And.intro hgj (And.intro hap (And.intro k1 (And.intro k2 (And.intro hn12 hd12))))))));repeat'(first|(refine sx ?_ ?_<;>intro h<;>first|(exfalso;omega)|skip)|refine ny ?_|refine WA_block ?_|(refine uU16_10_20 ?_;refine⟨by kernel_rfl,?_⟩)))
    all_goals(try(exfalso;omega))
    refine g_op ?_;refine g_call ?_;refine g_args ?_;refine s_fzE (B:=lend m) (es:=[[.int .i64 wt],[.int .i64 fr]]) (n:=2) (X.length+3) 1 (awords_c (112::97::114::116::32::(nm++[32]++drW dr)) [wt,fr] (by simp only [List.length_cons,hap,k2];omega) (by simp) hwf _) ?_ (hn:=rfl) (st:= .own) (ty:=3) (sz:=1) (X:=actB a::(X++[.cells .own 71 5 [[.str nm,.str dr,.lst (rksV cor),.int .i64 wt,.int .i64 fr]],.cells .ro 9 1 [[.str dr],[.str [45]]],.cells .own 3 1 [[.int .i64 wt],[.int .i64 fr]]])) (m':=lend m++(actB a::(X++[.cells .own 71 5 [[.str nm,.str dr,.lst (rksV cor),.int .i64 wt,.int .i64 fr]],.cells .ro 9 1 [[.str dr],[.str [45]]],.cells .ro 3 1 [[.int .i64 wt],[.int .i64 fr]]]))) (hX:=by simp) (hm':=by simp)
    have hrl:=rowT_len hwf
    obtain⟨u1,hu1⟩:∃ u1:Txt,u1=112::97::114::116::32::(nm++[32]++drW dr)++rowT [wt,fr]:=⟨_,rfl⟩
    have hul:u1.length≤200:=by
      rw [hu1,List.length_append]
      simp only [List.length_cons,List.length_nil,hap] at hrl ⊢
      omega
    rw [show([112,97,114,116,32]:Txt)++nm++[32]++drW dr++rowT [wt,fr]=u1 from hu1.symm] at hny
    rw [show(112::97::114::116::32::(nm++[32]++drW dr)++rowT [wt,fr]:Txt)=u1 from hu1.symm]
    clear hrl hu1
    have hlc:=rksV_length (l:=cor)
    (have FX:=And.intro hlp (And.intro hga (And.intro hlt (And.intro hfp (And.intro hgj (And.intro hap (And.intro k1 (And.intro k2 (And.intro hn12 hd12))))))));repeat'(first|(refine sx ?_ ?_<;>intro h<;>first|(exfalso;omega)|skip)|refine ny ?_|refine WA_block ?_|(refine uU16_10_20 ?_;refine⟨by kernel_rfl,?_⟩)))
    clear FX
    have hT0:u1++corT (cor.take 0)=u1:=by simp [corT]
    refine WA_while (σ:=Nat×Mem) [1,5,9,27,28,29,51,52,53] (fun q=>[.ptr (lend m).length 0 0,.sl ((lend m).length+(j+1)) L.length,.str (u1++corT (cor.take q.1)),.lst (prtsV a.parts),.int .i64 a.parts.length,.int .i64 i,.lst (rksV cor),.int .i64 cor.length,.int .i64 q.1]) (fun q=>q.2) (fun q=>q.1≤cor.length∧∃ X2,q.2=lend m++(actB a::X2)∧X2[j]?=some (.cells .own 9 1 (xsV L))) (fun q=>cor.length - q.1) (0,_) ⟨Nat.zero_le _,_,rfl,hgj _⟩ (by dsimp only;rw [hT0,←hlc];exact tv_) rfl ?_
    rintro⟨k,M2⟩ ⟨hk,X2,hM2,hj2⟩ K2 hK2
    dsimp only at hk hM2 hj2
    subst hM2
    simp only [zipT]
    clear hgj hj hjl hT0
    have hjl:=(List.getElem?_eq_some_iff.1 hj2).1
    have hgj:∀ Y:Mem,(X2++Y)[j]?=some (.cells .own 9 1 (xsV L)):=fun Y=>by rw [List.getElem?_append_left hjl];exact hj2
    have hsj:∀ (Y:Mem) (z:Blk),(X2++Y).set j z=X2.set j z++Y:=fun Y z=>List.set_append_left _ _ hjl
    rw [show X2=X2++[] from(List.append_nil _).symm]
    rcases Nat.lt_or_ge k cor.length with hlt2|hge2
    · have hga2:=rksV_get hlt2
      have hcm:=hcc _ (gdm (d:=rk0) hlt2)
      have hsn2:=corT_snoc (cor.take k) (cor.getD k rk0)
      rw [←take_snR hlt2] at hsn2
      have hcl2:=corT_len (l:=cor.take k) fun c hc=>hcc c (List.mem_of_mem_take hc)
      have hcl3:(cor.take k).length * 26≤12 * 26:=Nat.mul_le_mul_right _ (by rw [List.length_take];omega)
      have hnz:=fun(M9:Mem)=>hK2 (k+1,M9)
      dsimp only at hnz
      rw [hsn2,←List.append_assoc] at hnz
      clear hK2 hsn2
      generalize cor.getD k rk0=c at *
      obtain⟨⟨x,xd⟩,⟨y,yd⟩⟩:=c
      unfold rkV at hga2
      dsimp only at hga2 hcm hnz
      have hxy:∀ n∈[x,y],n.natAbs≤100000:=fun n hn=>by
        simp only [List.mem_cons,List.not_mem_nil,or_false] at hn
        rcases hn with rfl|rfl
        · exact hcm.2.1
        · exact hcm.2.2
      have hul2:(u1++corT (cor.take k)).length≤10000:=by rw [List.length_append];omega
      generalize u1++corT (cor.take k)=u2 at *
      (have FX:=And.intro hlc (And.intro hga2 (And.intro hlt2 hcl));repeat'(first|(refine sx ?_ ?_<;>intro h<;>first|(exfalso;omega)|skip)|refine ny ?_|refine WA_block ?_|(refine uU16_10_20 ?_;refine⟨by kernel_rfl,?_⟩)))
      all_goals(try(exfalso;omega))
      refine g_op ?_;refine g_call ?_;refine g_args ?_;refine s_fzE (B:=lend m) (es:=[[.int .i64 x],[.int .i64 y]]) (n:=2) (X2.length+2) 1 (awords_c u2 [x,y] hul2 (by simp) hxy _) ?_ (hn:=rfl) (st:= .own) (ty:=3) (sz:=1) (X:=actB a::(X2++[.cells .own 80 4 [[.int .i64 x,.int .i64 xd,.int .i64 y,.int .i64 yd]],.cells .own 3 1 [[.int .i64 x],[.int .i64 y]]])) (m':=lend m++(actB a::(X2++[.cells .own 80 4 [[.int .i64 x,.int .i64 xd,.int .i64 y,.int .i64 yd]],.cells .ro 3 1 [[.int .i64 x],[.int .i64 y]]]))) (hX:=by simp) (hm':=by simp)
      (have FX:=And.intro hlc (And.intro hga2 (And.intro hlt2 hcl));repeat'(first|(refine sx ?_ ?_<;>intro h<;>first|(exfalso;omega)|skip)|refine ny ?_|refine WA_block ?_|(refine uU16_10_20 ?_;refine⟨by kernel_rfl,?_⟩)))
      exact hnz _ _ _ tv_ rfl ⟨hlt2,_,rfl,hgj _⟩ (by omega)
    · obtain rfl:k=cor.length:=by omega
      rw [List.take_of_length_le (Nat.le_refl _)]
      clear hK2
      have hcl2:=corT_len hcc
      have hlx:=xsV_length (l:=L)
      have hlt9:(xsV L).take L.length=xsV L:=List.take_of_length_le (by rw [hlx];exact Nat.le_refl _)
      (have FX:=And.intro hlp (And.intro hlc (And.intro hlt (And.intro hfp (And.intro hgj (And.intro hsj (And.intro hlx (And.intro hlt9 hLl)))))));repeat'(first|(refine sx ?_ ?_<;>intro h<;>first|(exfalso;omega)|skip)|refine ny ?_|refine WA_block ?_|(refine uU16_10_20 ?_;refine⟨by kernel_rfl,?_⟩)))
      all_goals(try(exfalso;omega))
      refine hny _ (.sl ((lend m).length+(X2.length+1+1)) (L.length+1)) _ _ tv_ rfl ⟨hlt,X2.set j .dead++[_,_],X2.length+1,rfl,by rw [List.length_append];rfl,?_⟩ (by omega)
      rw [xsV_snocT]
      simp
  · obtain rfl:i=a.parts.length:=by omega
    rw [List.take_of_length_le (Nat.le_refl _)] at hj hLl ⊢
    clear hK
    have hpr:printA a=(joinS (dpW a.dip)::(a.parts.map fun x=>joinS (ptW x))++((a.evs.map fun x=>joinS (evW x))++a.leads.map fun x=>joinS (ldW x))).flatMap fun l=>l++[10]:=by
      unfold printA linesA
      rw [List.cons_append]
    have hL1l:(joinS (dpW a.dip)::a.parts.map fun x=>joinS (ptW x)).length≤13:=by rw [List.length_cons,List.length_map];omega
    have hLne:(joinS (dpW a.dip)::a.parts.map fun x=>joinS (ptW x))≠[]:=by simp
    have hpl:=printA_len hw
    rw [hpr] at hQ hpl
    clear hpr hLl
    generalize (joinS (dpW a.dip)::a.parts.map fun x=>joinS (ptW x))=L1 at *
    have hgj:∀ Y:Mem,(X++Y)[j]?=some (.cells .own 9 1 (xsV L1)):=fun Y=>by rw [List.getElem?_append_left hjl];exact hj
    rw [show X=X++[] from(List.append_nil _).symm]
    (have FX:=And.intro hlp (And.intro hle (And.intro hgj (And.intro hfp hfe)));repeat'(first|(refine sx ?_ ?_<;>intro h<;>first|(exfalso;omega)|skip)|refine ny ?_|refine WA_block ?_|(refine uU16_10_20 ?_;refine⟨by kernel_rfl,?_⟩)))
    all_goals(try(exfalso;omega))
    clear FX
    refine WA_while (σ:=Nat×Mem×V) [1,5,73,74,75] (fun q=>[.ptr (lend m).length 0 0,q.2.2,.lst (evsV a.evs),.int .i64 a.evs.length,.int .i64 q.1]) (fun q=>q.2.1) (fun q=>q.1≤a.evs.length∧lnM m a (L1++(a.evs.take q.1).map fun x=>joinS (evW x)) q.2.1 q.2.2) (fun q=>a.evs.length - q.1) (0,_,.sl ((lend m).length+(j+1)) L1.length) ⟨Nat.zero_le _,X,j,by simp,by simp,by simpa using hj⟩ tv_ rfl ?_
    clear hgj hj hjl
    rintro⟨i,M1,vv⟩ ⟨hi,X,j,hM1,hvv,hj⟩ K hK
    dsimp only at hi hM1 hvv hj
    subst hM1 hvv
    simp only [zipT]
    have hLl:(L1++(a.evs.take i).map fun x=>joinS (evW x)).length≤50:=by rw [List.length_append,List.length_map,List.length_take];omega
    have hjl:=(List.getElem?_eq_some_iff.1 hj).1
    rcases Nat.lt_or_ge i a.evs.length with hlt|hge
    · have hga:=evsV_get hlt
      have hx:=hw.e _ (gdm (d:=e0) hlt)
      have hlt1:=line_evT (a.evs.getD i e0)
      have hsn:(L1++(a.evs.take (i+1)).map fun x=>joinS (evW x))=(L1++(a.evs.take i).map fun x=>joinS (evW x))++[joinS (evW (a.evs.getD i e0))]:=by rw [take_snR (d:=e0) hlt];simp
      have hny:=fun(M9:Mem) (v9:V)=>hK (i+1,M9,v9)
      dsimp only at hny
      rw [hsn] at hny
      clear hK hsn
      generalize (L1++(a.evs.take i).map fun x=>joinS (evW x))=L at *
      generalize a.evs.getD i e0=p at *
      obtain⟨nm,pt,lv,fl⟩:=p
      dsimp only at hlt1
      rw [←hlt1] at hny
      clear hlt1
      unfold evV at hga
      dsimp only at hga
      have hn12:nm.length≤12:=hx.n.2.1
      have hp12:pt.length≤12:=hx.p.2.1
      have hd12:(dirW fl).length≤12:=by cases fl<;>decide
      have hlv:∀ n∈[lv],n.natAbs≤100000:=fun n hn=>by obtain rfl:=List.mem_singleton.1 hn;exact hx.l
      clear hx
      have hgj:∀ Y:Mem,(X++Y)[j]?=some (.cells .own 9 1 (xsV L)):=fun Y=>by rw [List.getElem?_append_left hjl];exact hj
      have hsj:∀ (Y:Mem) (z:Blk),(X++Y).set j z=X.set j z++Y:=fun Y z=>List.set_append_left _ _ hjl
      have hap:∀ a b:Txt,(a++b).length=a.length+b.length:=fun a b=>List.length_append
      have k1:([101,118,101,110,116,32]:Txt).length=6:=rfl
      have k2:([32]:Txt).length=1:=rfl
      have hlx:=xsV_length (l:=L)
      have hlt9:(xsV L).take L.length=xsV L:=List.take_of_length_le (by rw [hlx];exact Nat.le_refl _)
      have hdi:=fun m=>adir_c fl m
      rw [show X=X++[] from(List.append_nil _).symm]
      (have FX:=And.intro hle (And.intro hga (And.intro hlt (And.intro hfe (And.intro hgj (And.intro hsj (And.intro hap (And.intro k1 (And.intro k2 (And.intro hn12 (And.intro hp12 (And.intro hd12 (And.intro hlx (And.intro hlt9 hLl)))))))))))));repeat'(first|(refine sx ?_ ?_<;>intro h<;>first|(exfalso;omega)|skip)|(refine g_op ?_;refine g_call ?_;refine g_args ?_;(first|refine s_fn (hdi _) ?_)<;>try first|omega|assumption)|refine ny ?_|refine WA_block ?_|(refine uU16_10_20 ?_;refine⟨by kernel_rfl,?_⟩)|((first|refine grp_cons (fun _=>hdi _) ?_)<;>try first|omega|assumption)|(refine g_d ?_;refine d_args ?_;(first|refine d_fn (hdi _) ?_|refine d_fnQ (fun _=>hdi _) ?_)<;>try first|omega|assumption)|(refine g_d ?_;(first|refine d_fnY (hdi _) ?_)<;>try first|omega|assumption)))
      all_goals(try(exfalso;omega))
      refine g_d ?_
      refine d_args ?_
      refine d_fzE (B:=lend m) (es:=[[.int .i64 lv]]) (n:=1) (X.length+2) 1 (awords_c (101::118::101::110::116::32::(nm++[32]++pt++[32]++dirW fl)) [lv] (by simp only [List.length_cons,hap,k2];omega) (by simp) hlv _) ?_ (hn:=rfl) (st:= .own) (ty:=3) (sz:=1) (X:=actB a::(X++[.cells .own 74 4 [[.str nm,.str pt,.int .i64 lv,.bool fl]],.cells .own 3 1 [[.int .i64 lv]]])) (m':=lend m++(actB a::(X++[.cells .own 74 4 [[.str nm,.str pt,.int .i64 lv,.bool fl]],.cells .ro 3 1 [[.int .i64 lv]]]))) (hX:=by simp) (hm':=by simp)
      have hrl:=rowT_len hlv
      rw [show([101,118,101,110,116,32]:Txt)++nm++[32]++pt++[32]++dirW fl++rowT [lv]=101::118::101::110::116::32::(nm++[32]++pt++[32]++dirW fl)++rowT [lv] from rfl] at hny
      generalize (101::118::101::110::116::32::(nm++[32]++pt++[32]++dirW fl)++rowT [lv]:Txt)=u1 at *
      (have FX:=And.intro hle (And.intro hga (And.intro hlt (And.intro hfe (And.intro hgj (And.intro hsj (And.intro hap (And.intro k1 (And.intro k2 (And.intro hn12 (And.intro hp12 (And.intro hd12 (And.intro hlx (And.intro hlt9 hLl)))))))))))));repeat'(first|(refine sx ?_ ?_<;>intro h<;>first|(exfalso;omega)|skip)|(refine g_op ?_;refine g_call ?_;refine g_args ?_;(first|refine s_fn (hdi _) ?_)<;>try first|omega|assumption)|refine ny ?_|refine WA_block ?_|(refine uU16_10_20 ?_;refine⟨by kernel_rfl,?_⟩)|((first|refine grp_cons (fun _=>hdi _) ?_)<;>try first|omega|assumption)|(refine g_d ?_;refine d_args ?_;(first|refine d_fn (hdi _) ?_|refine d_fnQ (fun _=>hdi _) ?_)<;>try first|omega|assumption)|(refine g_d ?_;(first|refine d_fnY (hdi _) ?_)<;>try first|omega|assumption)))
      all_goals(try(exfalso;omega))
      refine hny _ (.sl ((lend m).length+(X.length+3+1)) (L.length+1)) _ _ tv_ rfl ⟨hlt,X.set j .dead++[_,_,_,_],X.length+3,rfl,by rw [List.length_append];rfl,?_⟩ (by omega)
      rw [xsV_snocT]
      simp
    · obtain rfl:i=a.evs.length:=by omega
      rw [List.take_of_length_le (Nat.le_refl _)] at hj hLl ⊢
      clear hK
      rw [←List.append_assoc] at hQ hpl
      have hL2l:(L1++a.evs.map fun x=>joinS (evW x)).length≤33:=by rw [List.length_append,List.length_map];omega
      have hL2n:(L1++a.evs.map fun x=>joinS (evW x))≠[]:=by simp [hLne]
      clear hLl hL1l hLne
      generalize (L1++a.evs.map fun x=>joinS (evW x))=L2 at *
      have hgj:∀ Y:Mem,(X++Y)[j]?=some (.cells .own 9 1 (xsV L2)):=fun Y=>by rw [List.getElem?_append_left hjl];exact hj
      rw [show X=X++[] from(List.append_nil _).symm]
      (have FX:=And.intro hle (And.intro hld (And.intro hgj (And.intro hfe hfl)));repeat'(first|(refine sx ?_ ?_<;>intro h<;>first|(exfalso;omega)|skip)|refine ny ?_|refine WA_block ?_|(refine uU16_10_20 ?_;refine⟨by kernel_rfl,?_⟩)))
      all_goals(try(exfalso;omega))
      clear FX
      refine WA_while (σ:=Nat×Mem×V) [1,5,100,101,102] (fun q=>[.ptr (lend m).length 0 0,q.2.2,.lst (ldsV a.leads),.int .i64 a.leads.length,.int .i64 q.1]) (fun q=>q.2.1) (fun q=>q.1≤a.leads.length∧lnM m a (L2++(a.leads.take q.1).map fun x=>joinS (ldW x)) q.2.1 q.2.2) (fun q=>a.leads.length - q.1) (0,_,.sl ((lend m).length+(j+1)) L2.length) ⟨Nat.zero_le _,X,j,by simp,by simp,by simpa using hj⟩ tv_ rfl ?_
      clear hgj hj hjl
      rintro⟨i,M1,vv⟩ ⟨hi,X,j,hM1,hvv,hj⟩ K hK
      dsimp only at hi hM1 hvv hj
      subst hM1 hvv
      simp only [zipT]
      have hLl:(L2++(a.leads.take i).map fun x=>joinS (ldW x)).length≤50:=by rw [List.length_append,List.length_map,List.length_take];omega
      have hjl:=(List.getElem?_eq_some_iff.1 hj).1
      rcases Nat.lt_or_ge i a.leads.length with hlt|hge
      · have hga:=ldsV_get hlt
        have hx:=hw.l _ (gdm (d:=l0) hlt)
        have hlt1:=line_ldT (a.leads.getD i l0)
        have hsn:(L2++(a.leads.take (i+1)).map fun x=>joinS (ldW x))=(L2++(a.leads.take i).map fun x=>joinS (ldW x))++[joinS (ldW (a.leads.getD i l0))]:=by rw [take_snR (d:=l0) hlt];simp
        have hny:=fun(M9:Mem) (v9:V)=>hK (i+1,M9,v9)
        dsimp only at hny
        rw [hsn] at hny
        clear hK hsn
        generalize (L2++(a.leads.take i).map fun x=>joinS (ldW x))=L at *
        generalize a.leads.getD i l0=p at *
        obtain⟨x,y⟩:=p
        dsimp only at hlt1 hx
        rw [←hlt1] at hny
        clear hlt1
        unfold ldV at hga
        dsimp only at hga
        have hxy:∀ n∈[x,y],n.natAbs≤100000:=fun n hn=>by
          simp only [List.mem_cons,List.not_mem_nil,or_false] at hn
          rcases hn with rfl|rfl
          · exact hx.1
          · exact hx.2
        clear hx
        have hgj:∀ Y:Mem,(X++Y)[j]?=some (.cells .own 9 1 (xsV L)):=fun Y=>by rw [List.getElem?_append_left hjl];exact hj
        have hsj:∀ (Y:Mem) (z:Blk),(X++Y).set j z=X.set j z++Y:=fun Y z=>List.set_append_left _ _ hjl
        have hlx:=xsV_length (l:=L)
        have hlt9:(xsV L).take L.length=xsV L:=List.take_of_length_le (by rw [hlx];exact Nat.le_refl _)
        rw [show X=X++[] from(List.append_nil _).symm]
        (have FX:=And.intro hld (And.intro hga (And.intro hlt (And.intro hfl (And.intro hgj (And.intro hsj (And.intro hlx (And.intro hlt9 hLl)))))));repeat'(first|(refine sx ?_ ?_<;>intro h<;>first|(exfalso;omega)|skip)|refine ny ?_|refine WA_block ?_|(refine uU16_10_20 ?_;refine⟨by kernel_rfl,?_⟩)))
        all_goals(try(exfalso;omega))
        refine g_op ?_;refine g_call ?_;refine g_args ?_;refine s_fzE (B:=lend m) (es:=[[.int .i64 x],[.int .i64 y]]) (n:=2) (X.length+2) 1 (awords_c [108,101,97,100] [x,y] (by decide) (by simp) hxy _) ?_ (hn:=rfl) (st:= .own) (ty:=3) (sz:=1) (X:=actB a::(X++[.cells .own 76 2 [[.int .i64 x,.int .i64 y]],.cells .own 3 1 [[.int .i64 x],[.int .i64 y]]])) (m':=lend m++(actB a::(X++[.cells .own 76 2 [[.int .i64 x,.int .i64 y]],.cells .ro 3 1 [[.int .i64 x],[.int .i64 y]]]))) (hX:=by simp) (hm':=by simp)
        generalize ([108,101,97,100]++rowT [x,y]:Txt)=u1 at *
        (have FX:=And.intro hld (And.intro hga (And.intro hlt (And.intro hfl (And.intro hgj (And.intro hsj (And.intro hlx (And.intro hlt9 hLl)))))));repeat'(first|(refine sx ?_ ?_<;>intro h<;>first|(exfalso;omega)|skip)|refine ny ?_|refine WA_block ?_|(refine uU16_10_20 ?_;refine⟨by kernel_rfl,?_⟩)))
        all_goals(try(exfalso;omega))
        refine hny _ (.sl ((lend m).length+(X.length+3+1)) (L.length+1)) _ _ tv_ rfl ⟨hlt,X.set j .dead++[_,_,_,_],X.length+3,rfl,by rw [List.length_append];rfl,?_⟩ (by omega)
        rw [xsV_snocT]
        simp
      · obtain rfl:i=a.leads.length:=by omega
        rw [List.take_of_length_le (Nat.le_refl _)] at hj hLl ⊢
        clear hK
        have hL3n:(L2++a.leads.map fun x=>joinS (ldW x))≠[]:=by simp [hL2n]
        generalize (L2++a.leads.map fun x=>joinS (ldW x))=L3 at *
        rw [←join_ne hL3n] at hQ hpl
        have hgj:∀ Y:Mem,(X++Y)[j]?=some (.cells .own 9 1 (xsV L3)):=fun Y=>by rw [List.getElem?_append_left hjl];exact hj
        have hjn:(Lib.join L3 [10]).length≤41000:=by rw [List.length_append] at hpl;omega
        rw [show X=X++[] from(List.append_nil _).symm]
        (have FX:=And.intro hld (And.intro hfl hgj);repeat'(first|(refine sx ?_ ?_<;>intro h<;>first|(exfalso;omega)|skip)|refine ny ?_|refine WA_block ?_|(refine uU16_10_20 ?_;refine⟨by kernel_rfl,?_⟩)))
        all_goals(try(exfalso;omega))
        refine g_op ?_;refine g_call ?_;refine g_args ?_;refine s_fzE (B:=lend m) (es:=xsV L3) (n:=L3.length) (j+1) 0 (xjoin_c L3 hL3n (by omega) (by omega) _) ?_ (hn:=xsV_length) (st:= .own) (ty:=9) (sz:=1) (X:=actB a::X) (m':=lend m++(actB a::X.set j (.cells .ro 9 1 (xsV L3)))) (hX:=by simpa using hj) (hm':=by simp) (hm:=by simp)
        have k1:([10]:Txt).length=1:=rfl
        clear hgj FX
        (have FX:=And.intro hjn k1;repeat'(first|(refine sx ?_ ?_<;>intro h<;>first|(exfalso;omega)|skip)|refine ny ?_|refine WA_block ?_|(refine uU16_10_20 ?_;refine⟨by kernel_rfl,?_⟩)))
        all_goals(try(exfalso;omega))
        exact r_esA hQ (v':= .tup [.str (Lib.join L3 [10]++[10]),.int .i64 0]) (.inl ⟨rfl,rfl,WkV.refl _⟩)
end Go.Proofs.YtomkbpoicjabfaaGreatDoor
