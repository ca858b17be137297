import Derived.Test.YtomkbpoicjabfaaGreatDoorGAQ
import Derived.Test.YtomkbpoicjabfaaGreatDoorGAO
import Derived.Test.YtomkbpoicjabfaaGreatDoorD4
set_option linter.unusedSimpArgs false
set_option linter.unusedVariables false
/- contracts: the dips of events -/
namespace Go.Proofs.YtomkbpoicjabfaaGreatDoor
open Go.RowKit
attribute [local irreducible] WA WOs WDs WAn qThen qBlock tput
set_option maxHeartbeats 1000000
set_option maxRecDepth 20000
set_option linter.unusedSimpArgs false
set_option linter.unusedVariables false
attribute [local irreducible] smB cut sm
theorem uC26_89_2{N:Nat}{l:List Oper}{t:List (Nat×V)}{m:Mem}{Q:Exit→List (Nat×V)→Mem→Prop}(h:RgN Tryz.prog N l t m Q (fun i=>if i==11 then .f else if i==6 || i==10 then .a else if i==0 || i==2 || i==4 || i==5 then .q else .p) [.one 0,.one 1,.one 2,.one 3,.one 4,.one 5,.grp true [6] [10],.one 7,.one 8,.one 9,.one 11,.one 12]):WA Tryz.prog N (.region 2 l.toArray true) t m Q:=d_rgN h
theorem uC26_89_5{N:Nat}{l:List Oper}{t:List (Nat×V)}{m:Mem}{Q:Exit→List (Nat×V)→Mem→Prop}(h:RgN Tryz.prog N l t m Q (fun i=>if i==9 then .w else if i==0 || i==2 || i==3 || i==5 || i==6 then .q else .p) [.one 0,.one 1,.one 2,.one 3,.one 4,.one 5,.one 6,.one 7,.one 8,.one 9,.one 10]):WA Tryz.prog N (.region 5 l.toArray true) t m Q:=d_rgN h
theorem adipof_c(a:ActR)(ha:Lt a)(h:acErr a=0)(i:Nat)(hi:i<a.evs.length)(m:Mem):Gives Tryz.prog 89 [.agg (actV a),.int .i64 i] m (rchV (evtP a i)):=by
  have hla:=evsV_length (l:=a.evs)
  have hga:=evsV_get hi
  obtain⟨_,h2,_⟩:=acErr_evs h
  have hz:=h2 i hi
  obtain⟨h3,hfx⟩:=prtN_lt hz
  obtain⟨_,_,_,hlv⟩:=evErrAt_zero hz
  have hp:=acErr_pts h
  have hcu:=fun m=>acurveof_c a ha h 13 (prtN a (a.evs.getD i e0)) m (by have:=hp.few;omega) h3
  have hcv:=fun c hc=>cvP_valid hp (i:=prtN a (a.evs.getD i e0)) (l:=c) h3 hc
  unfold evtP
  unfold cvP at hcv ⊢
  generalize prtN a (a.evs.getD i e0)=j at *
  rw [←hfx] at hcu
  generalize a.evs.getD i e0=x at *
  unfold evV at hga
  generalize hr:curP a 13 j=r at hcu hcv ⊢
  cases r with
  | none=>
    have hre:=hcu
    simp only [crv,rchV,frO] at hcu ⊢
    unfold actV at hcu ⊢
    refine Gives_in Tryz.func89 rfl Tryz.ntmps89 Tryz.results89 (by kernel_rfl) (by simp) rfl fun Q hQ=>?_
    (have FX:=And.intro hla (And.intro hga hfx);repeat'(first|(refine sx ?_ ?_<;>intro h<;>first|(exfalso;omega)|skip)|(refine g_op ?_;refine g_call ?_;refine g_args ?_;(first|refine s_fn (awhole_c _ _) ?_|refine s_fn (afind_c a.parts _ _ ha.np) ?_|refine s_fn (hcu _) ?_)<;>try first|omega|assumption)|refine ny ?_|refine WA_block ?_|(refine uC26_89_2 ?_;refine⟨by kernel_rfl,?_⟩)|(refine uC26_89_5 ?_;refine⟨by kernel_rfl,?_⟩)|((first|refine grp_cons (fun _=>awhole_c _ _) ?_|refine grp_cons (fun _=>afind_c a.parts _ _ ha.np) ?_|refine grp_cons (fun _=>hcu _) ?_)<;>try first|omega|assumption)|(refine g_d ?_;refine d_args ?_;(first|refine d_fn (awhole_c _ _) ?_|refine d_fn (afind_c a.parts _ _ ha.np) ?_|refine d_fn (hcu _) ?_|refine d_fnQ (fun _=>awhole_c _ _) ?_|refine d_fnQ (fun _=>afind_c a.parts _ _ ha.np) ?_|refine d_fnQ (fun _=>hcu _) ?_)<;>try first|omega|assumption)|(refine g_d ?_;(first|refine d_fnY (awhole_c _ _) ?_|refine d_fnY (afind_c a.parts _ _ ha.np) ?_|refine d_fnY (hcu _) ?_)<;>try first|omega|assumption)))
    all_goals(try(exfalso;omega))
    all_goals((refine r_es hQ ?_;try with_reducible rfl))
  | some c=>
    have hv:=hcv c rfl
    simp only [crv] at hcu
    dsimp only
    have hre:∀ m,Gives Tryz.prog 111 [.agg [.lst (ptsV c)],.agg [.int .i64 x.lev,.int .i64 1],.bool x.fall] m (rchV (rch c (x.lev:Rat) x.fall)):=fun m=>areach_c c (x.lev:Rat) x.fall hv (sm_int (by omega)) m
    rcases rch_code c (x.lev:Rat) x.fall with ⟨q,hq⟩|hq|hq
    all_goals
      rw [hq] at hre ⊢
      simp only [rchV,frO] at hre ⊢
      unfold actV at hcu ⊢
      refine Gives_in Tryz.func89 rfl Tryz.ntmps89 Tryz.results89 (by kernel_rfl) (by simp) rfl fun Q hQ=>?_
      (have FX:=And.intro hla (And.intro hga hfx);repeat'(first|(refine sx ?_ ?_<;>intro h<;>first|(exfalso;omega)|skip)|(refine g_op ?_;refine g_call ?_;refine g_args ?_;(first|refine s_fn (awhole_c _ _) ?_|refine s_fn (afind_c a.parts _ _ ha.np) ?_|refine s_fn (hcu _) ?_|refine s_fn (hre _) ?_)<;>try first|omega|assumption)|refine ny ?_|refine WA_block ?_|(refine uC26_89_2 ?_;refine⟨by kernel_rfl,?_⟩)|(refine uC26_89_5 ?_;refine⟨by kernel_rfl,?_⟩)|((first|refine grp_cons (fun _=>awhole_c _ _) ?_|refine grp_cons (fun _=>afind_c a.parts _ _ ha.np) ?_|refine grp_cons (fun _=>hcu _) ?_|refine grp_cons (fun _=>hre _) ?_)<;>try first|omega|assumption)|(refine g_d ?_;refine d_args ?_;(first|refine d_fn (awhole_c _ _) ?_|refine d_fn (afind_c a.parts _ _ ha.np) ?_|refine d_fn (hcu _) ?_|refine d_fn (hre _) ?_|refine d_fnQ (fun _=>awhole_c _ _) ?_|refine d_fnQ (fun _=>afind_c a.parts _ _ ha.np) ?_|refine d_fnQ (fun _=>hcu _) ?_|refine d_fnQ (fun _=>hre _) ?_)<;>try first|omega|assumption)|(refine g_d ?_;(first|refine d_fnY (awhole_c _ _) ?_|refine d_fnY (afind_c a.parts _ _ ha.np) ?_|refine d_fnY (hcu _) ?_|refine d_fnY (hre _) ?_)<;>try first|omega|assumption)))
      all_goals(try(exfalso;omega))
      all_goals((refine r_es hQ ?_;try with_reducible rfl))
end Go.Proofs.YtomkbpoicjabfaaGreatDoor
namespace Go.Proofs.YtomkbpoicjabfaaGreatDoor
/-- a sum, and whether a number on the way was large, as the program finds them -/
def adP(s:Rat×Bool)(p:Rat):Rat×Bool:=(cut (s.1+cut p),(s.2 || !smB p) || !smB (s.1+cut p))
def sbP(s:Rat×Bool)(p:Rat):Rat×Bool:=(cut (s.1 - cut p),(s.2 || !smB p) || !smB (s.1 - cut p))
def absQ(q:Rat):Rat:=if q.num<0 then -q else q
theorem absQ_num(q:Rat):(absQ q).num=(if q.num<0 then -q.num else q.num)∧((absQ q).den:Int)=q.den:=by
  unfold absQ
  split
  · rw [Rat.neg_num,Rat.neg_den];exact⟨rfl,rfl⟩
  · exact⟨rfl,rfl⟩
theorem sm_abs{q:Rat}(h:sm q):sm (absQ q):=by
  obtain⟨h1,h2,h3⟩:=h
  obtain⟨e1,e2⟩:=absQ_num q
  unfold sm
  rw [e1,e2]
  split<;>omega
/-- the ratio of the part i -/
def slpA(a:ActR)(x:Rat)(i:Nat):Rat:=slopeE ((cvP a i).getD []) x
/-- the curves of all parts are there -/
def allC(a:ActR)(n:Nat):Prop:=∀ i,i<n→(cvP a i).isSome=true
instance(a:ActR)(n:Nat):Decidable (allC a n):=inferInstanceAs (Decidable (∀ i,i<n→_))
def balP(a:ActR)(l:List Rat)(g:Bool):Nat→Rat×Bool
  |0=>(0,g)
  |i+1=>adP (balP a l g i) (((a.parts.getD i p0).wt:Rat) * l.getD i 0)
def ldQ(l:Int×Int):Rat:=((l.1 * l.2:Int):Rat) / ((1000:Int):Rat)
def ldP(a:ActR)(s:Rat×Bool):Nat→Rat×Bool
  |0=>s
  |i+1=>sbP (ldP a s i) (ldQ (a.leads.getD i l0))
def frcP(a:ActR)(l:List Rat)(g:Bool):Nat→Rat×Bool
  |0=>(0,g)
  |i+1=>adP (frcP a l g i) (((a.parts.getD i p0).fr:Rat) * absQ (l.getD i 0))
def rts(a:ActR)(x:Rat)(n:Nat):List Rat:=(List.range n).map (slpA a x)
theorem rts_len(a:ActR)(x:Rat)(n:Nat):(rts a x n).length=n:=by simp [rts]
theorem rts_get{a:ActR}{x:Rat}{n i:Nat}(h:i<n):(rts a x n).getD i 0=slpA a x i:=by
  unfold rts;rw [List.getD_eq_getElem?_getD,List.getElem?_map,List.getElem?_range h];rfl
theorem rts_succ(a:ActR)(x:Rat)(n:Nat):rts a x (n+1)=rts a x n++[slpA a x n]:=by
  simp [rts,List.range_succ]
theorem sm_slpA{a:ActR}(h:PtsOk a){i:Nat}(hi:i<a.parts.length)(x:Rat):sm (slpA a x i):=by
  unfold slpA
  cases hc:cvP a i with
  | none=>
    have:slopeE [] x=0:=by unfold slopeE cnt;simp
    show sm (slopeE [] x)
    rw [this];exact sm_zero
  |some c=>exact sm_slopeE (cvP_valid h hi hc) x
/-- the balance, and whether a number on the way was large -/
def balA(a:ActR)(l:List Rat)(g:Bool):Rat×Bool:=ldP a (balP a l g l.length) a.leads.length
def touP (a:ActR) (x:Rat):Option (Rat×Rat):=
  if allC a a.parts.length then
    let l:=rts a x a.parts.length
    let b:=balA a l false
    let f:=frcP a l b.2 a.parts.length
    if ((f.2 || !smB (b.1+f.1)) || !smB (b.1 - f.1))=true then none else some (cut (b.1+f.1),cut (b.1 - f.1))
  else none
/-! the reference -/
theorem slpA_some{a:ActR}{i:Nat}{c:List Pt}(x:Rat)(h:cvP a i=some c):slpA a x i=slopeE c x:=by unfold slpA;rw [h];rfl
end Go.Proofs.YtomkbpoicjabfaaGreatDoor
namespace Go.Proofs.YtomkbpoicjabfaaGreatDoor
open Go.RowKit
attribute [local irreducible] WA WOs WDs WAn qThen qBlock tput
set_option maxHeartbeats 1000000
set_option maxRecDepth 20000
set_option linter.unusedSimpArgs false
set_option linter.unusedVariables false
attribute [local irreducible] smB cut sm
def frV(q:Rat):List V:=[.int .i64 q.num,.int .i64 (q.den:Int)]
def frsV(l:List Rat):List (List V):=l.map frV
theorem frsV_length{l:List Rat}:(frsV l).length=l.length:=by simp [frsV]
theorem frsV_get{l:List Rat}{i:Nat}(h:i<l.length):(frsV l)[i]?=some (frV (l.getD i 0)):=by
  unfold frsV;rw [List.getElem?_map,list_get h];rfl
theorem frsV_plain(l:List Rat):plainLL (frsV l)=true:=by
  induction l with
  |nil=>rfl
  |cons x xs ih=>simp only [frsV,List.map_cons,plainLL,frV,plainL,V.plain,Bool.true_and] at ih ⊢;exact ih
def frSt(k:Nat):List Rat→TV
  |[]=> .v .nilsl
  |p::r=> .sl k (r.length+1)
def frE:List Rat→List TB
  |[]=>[]
  |p::r=>[.cells .own 43 2 ((frsV (p::r)).map (List.map TV.v))]
def actT(a:ActR):TB:= .cells .own 27 4 [[.v (.int .i64 a.dip),.v (.lst (prtsV a.parts)),.v (.lst (evsV a.evs)),.v (.lst (ldsV a.leads))]]
def fqT(q:Rat):TB:= .cells .own 43 2 [[.v (.int .i64 q.num),.v (.int .i64 (q.den:Int))]]
def raE(a:ActR)(q:Rat)(l:List Rat):List TB:=actT a::fqT q::frE l
def raS(a:ActR)(l:List Rat)(i:Nat):List TV:=[.ptr 0 0 0,.ptr 1 0 0,frSt 2 l,.v (.int .i64 a.parts.length),.v (.int .i64 i)]
theorem raE_ok{a:ActR}{q:Rat}{l:List Rat}:(raE a q l).all (TB.ok (raE a q l).length)=true:=by
  unfold raE actT fqT
  cases l with
  |nil=>simp [TB.ok,TV.okT,frE]
  |cons p r=>simp only [frE,List.all_cons,TB.ok,TV.okT,List.all_nil,Bool.and_true,Bool.and_self,tv_ok]
theorem raS_ok{a:ActR}{q:Rat}{l:List Rat}{i:Nat}:(raS a l i).all (TV.okT (raE a q l).length)=true:=by
  unfold raE raS
  cases l with
  |nil=>simp [TV.okT,frE,frSt]
  |cons p r=>simp [TV.okT,frE,frSt]
def rtsV(a:ActR)(x:Rat):V:=if allC a a.parts.length then .tup [.lst (frsV (rts a x a.parts.length)),.int .i64 0] else .tup [.nilsl,.int .i64 8]
theorem allC_succ{a:ActR}{i:Nat}(h:allC a i){c:List Pt}(hc:cvP a i=some c):allC a (i+1):=by
  intro j hj
  rcases Nat.lt_or_ge j i with q|q
  · exact h j q
  · have:j=i:=by omega
    subst this;rw [hc];rfl

theorem aratios_c (a:ActR) (ha:Lt a) (h:acErr a=0) (x:Rat) (hx:sm x) (m:Mem):Gives Tryz.prog 86 [.agg (actV a),.agg [.int .i64 (Rat.num (x)),.int .i64 ((Rat.den (x):Nat):Int)]] m (rtsV a x):=by
  have hlen:=prtsV_length (l:=a.parts)
  have hp:=acErr_pts h
  have hll:=hlen
  have hlt:=hlen
  have hfew:=hp.few
  suffices key:CallA Tryz.prog 86 [.agg (actV a),.agg [.int .i64 (Rat.num (x)),.int .i64 ((Rat.den (x):Nat):Int)]] m (fun v' mo=>v'=(if allC a a.parts.length then .tup [oV (frsV (rts a x a.parts.length)),.int .i64 0] else .tup [.nilsl,.int .i64 8])∧mo=none) by
    refine Gives_weak (v:=if allC a a.parts.length then .tup [oV (frsV (rts a x a.parts.length)),.int .i64 0] else .tup [.nilsl,.int .i64 8]) key ?_
    unfold rtsV
    split
    · exact wk_tup ⟨wk_oV _,WkV.refl _,trivial⟩
    · exact fun _ _ _ _ h=>h
  unfold actV
  refine CallA_in Tryz.func86 rfl Tryz.ntmps86 Tryz.results86 (by kernel_rfl) (by simp) fun Q hQ=>?_
  (have FX:=And.intro hlen (And.intro hll hlt);repeat'(first|(refine sx ?_ ?_<;>intro h<;>first|(exfalso;omega)|skip)|refine ny ?_|refine WA_block ?_))
  refine WA_whileJ (σ:=Nat) (L:=lend m) [2,3,6,12,13] (fun i=>raS a (rts a x i) i) (fun i=>raE a x (rts a x i)) (fun i=>i≤a.parts.length∧allC a i) (fun i=>a.parts.length - i) 0 [0,1] ⟨Nat.zero_le _,fun i hi=>absurd hi (Nat.not_lt_zero _)⟩ ?_ rfl rfl (by decide) (by decide) (fun _ _=>raS_ok) (fun _ _=>raE_ok) ?_
  · simp only [raS,rts,List.range_zero,List.map_nil,frSt,List.map_cons,TV.inst,List.getD_cons_zero,List.getD_cons_succ]
    exact tv_
  rintro i ⟨hi1,hia⟩ B ⟨D,hB⟩ K hK
  clear FX
  have hrl:=rts_len a x i
  have hsu:=rts_succ a x i
  rcases Nat.lt_or_ge i a.parts.length with hi|hi
  · have hcu:=fun m=>acurveof_c a ha h 13 i m (by omega) hi
    have hcv:=fun c hc=>cvP_valid hp (i:=i) (l:=c) hi hc
    have hac:=fun c hc=>allC_succ hia (c:=c) hc
    unfold actV at hcu
    unfold cvP at hcv
    cases hr:cvP a i with
    | none=>
      have hno:¬ allC a a.parts.length:=fun hh=>by have:=hh i hi;rw [hr] at this;cases this
      rw [if_neg hno] at hQ
      unfold cvP at hr
      rw [hr] at hcu
      simp only [crv] at hcu
      have hsl:=hcu
      generalize rts a x i=l at *
      cases l with
      | nil=>
        have hll:=hlen
        have hlt:=hlen
        simp only [raS,raE,actT,fqT,frSt,frE]
        simp only [List.map_cons,List.map_nil,TB.inst,TV.inst,tv_map,zipT,List.cons_append,List.nil_append,Nat.add_zero]
        (have FX:=And.intro hlen (And.intro hll hlt);repeat'(first|(refine sx ?_ ?_<;>intro h<;>first|(exfalso;omega)|skip)|(refine g_op ?_;refine g_call ?_;refine g_args ?_;(first|refine s_fn (hcu _) ?_)<;>try first|omega|assumption)|refine ny ?_|refine WA_block ?_))
        all_goals(try(exfalso;omega))
        all_goals(refine r_esA hQ (.inl ⟨rfl,rfl,rfl⟩))
      | cons p r=>
        have hll:=hlen
        have hlt:=hlen
        simp only [raS,raE,actT,fqT,frSt,frE]
        simp only [List.map_cons,List.map_nil,TB.inst,TV.inst,tv_map,zipT,List.cons_append,List.nil_append,Nat.add_zero]
        (have FX:=And.intro hlen (And.intro hll hlt);repeat'(first|(refine sx ?_ ?_<;>intro h<;>first|(exfalso;omega)|skip)|(refine g_op ?_;refine g_call ?_;refine g_args ?_;(first|refine s_fn (hcu _) ?_)<;>try first|omega|assumption)|refine ny ?_|refine WA_block ?_))
        all_goals(try(exfalso;omega))
        all_goals(refine r_esA hQ (.inl ⟨rfl,rfl,rfl⟩))
    | some c=>
      have hac:=hac c hr
      have hsE:=slpA_some x hr
      unfold cvP at hr
      rw [hr] at hcu
      simp only [crv] at hcu
      have hv:=hcv c hr
      have hsl:=fun m=>aslopeat_c c x hv hx m
      rw [hsE] at hsu
      generalize slopeE c x=sl at *
      have hnx:=hK (i+1)
      rw [hsu] at hnx
      have hny:=fun(_:Unit)=>hnx
      clear hsu
      generalize rts a x i=l at *
      cases l with
      | nil=>
        have hll:=hlen
        have hlt:=hlen
        simp only [raS,raE,actT,fqT,frSt,frE]
        simp only [List.map_cons,List.map_nil,TB.inst,TV.inst,tv_map,zipT,List.cons_append,List.nil_append,Nat.add_zero]
        (have FX:=And.intro hlen (And.intro hll hlt);repeat'(first|(refine sx ?_ ?_<;>intro h<;>first|(exfalso;omega)|skip)|(refine g_op ?_;refine g_call ?_;refine g_args ?_;(first|refine s_fn (hcu _) ?_|refine s_fn (hsl _) ?_)<;>try first|omega|assumption)|refine ny ?_|refine WA_block ?_))
        all_goals(try(exfalso;omega))
        all_goals((refine nextU_ hny (()) [0,1,4] (⟨hi,hac⟩) (by omega) ?_ (ht:=?_);(focus (simp only [raE,actT,fqT,frE,List.map_cons,List.map_nil,TB.inst,TV.inst,tv_map,List.cons_append,List.nil_append];first|rfl|(simp [ptsV,ptV];done)|(simp [hpsV,hpV];done)|(simp [frsV,frV];done)|(simp [txV];done)|(simp [prtsV,prtV];done)));(simp only [raS,frSt,List.length_nil,Nat.zero_add,List.map_cons,List.map_nil,TV.inst,List.getD_cons_zero,List.getD_cons_succ];exact tv_)))
      | cons p r=>
        have hll:(frsV (p::r)).length=r.length+1:=frsV_length
        have hlt:(frsV (p::r)).take (r.length+1)=frsV (p::r):=by rw [List.take_of_length_le (by rw [hll];exact Nat.le_refl _)]
        simp only [List.length_cons] at hrl
        simp only [raS,raE,actT,fqT,frSt,frE]
        simp only [List.map_cons,List.map_nil,TB.inst,TV.inst,tv_map,zipT,List.cons_append,List.nil_append,Nat.add_zero]
        (have FX:=And.intro hlen (And.intro hll hlt);repeat'(first|(refine sx ?_ ?_<;>intro h<;>first|(exfalso;omega)|skip)|(refine g_op ?_;refine g_call ?_;refine g_args ?_;(first|refine s_fn (hcu _) ?_|refine s_fn (hsl _) ?_)<;>try first|omega|assumption)|refine ny ?_|refine WA_block ?_))
        all_goals(try(exfalso;omega))
        all_goals((refine nextU_ hny (()) [0,1,5] (⟨hi,hac⟩) (by omega) ?_ (ht:=?_);(focus (simp only [raE,actT,fqT,frE,List.map_cons,List.map_nil,TB.inst,TV.inst,tv_map,List.cons_append,List.nil_append];first|rfl|(simp [ptsV,ptV];done)|(simp [hpsV,hpV];done)|(simp [frsV,frV];done)|(simp [txV];done)|(simp [prtsV,prtV];done)));(simp only [raS,frSt,List.cons_append,List.length_append,List.length_cons,List.length_nil,Nat.zero_add,List.map_cons,List.map_nil,TV.inst,List.getD_cons_zero,List.getD_cons_succ];exact tv_)))
  · have hie:i=a.parts.length:=by omega
    subst hie
    rw [if_pos hia] at hQ
    generalize rts a x a.parts.length=l at *
    cases l with
    | nil=>
      have hll:=hlen
      simp only [frsV,List.map_nil,oV] at hQ
      simp only [raS,raE,actT,fqT,frSt,frE]
      simp only [List.map_cons,List.map_nil,TB.inst,TV.inst,tv_map,zipT,List.cons_append,List.nil_append,Nat.add_zero]
      (have FX:=And.intro hlen hll;repeat'(first|(refine sx ?_ ?_<;>intro h<;>first|(exfalso;omega)|skip)|refine ny ?_|refine WA_block ?_))
      all_goals(try(exfalso;omega))
      all_goals(refine r_esA hQ (.inl ⟨rfl,rfl,rfl⟩))
    | cons p r=>
      have hll:(frsV (p::r)).length=r.length+1:=frsV_length
      have hoV:oV (frsV (p::r))= .lst (frsV (p::r)):=rfl
      rw [hoV] at hQ
      simp only [raS,raE,actT,fqT,frSt,frE]
      simp only [List.map_cons,List.map_nil,TB.inst,TV.inst,tv_map,zipT,List.cons_append,List.nil_append,Nat.add_zero]
      (have FX:=And.intro hlen hll;repeat'(first|(refine sx ?_ ?_<;>intro h<;>first|(exfalso;omega)|skip)|refine ny ?_|refine WA_block ?_))
      all_goals(try(exfalso;omega))
      all_goals(refine r_esA hQ ?_)
      all_goals(refine fin_sl2 (D:=D) (j:=2) hB rfl (by rw [hll];exact Nat.le_refl _) (by rw [List.take_of_length_le (by rw [hll];exact Nat.le_refl _)];exact frsV_plain _) (fun m L=>frz_int m L 3 _ _) ⟨?_,rfl⟩)
      all_goals(rw [List.take_of_length_le (by rw [hll];exact Nat.le_refl _)])
end Go.Proofs.YtomkbpoicjabfaaGreatDoor
