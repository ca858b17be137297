import Derived.Test.YtnablpehkeicmaaGreatYC
import Derived.Test.YtnablpehkeicmaaGreatFY
import Derived.Test.YtnablpehkeicmaaGreatGAE
import Derived.Test.YtnablpehkeicmaaGreatGAC
set_option linter.unusedSimpArgs false
set_option linter.unusedVariables false
/- a yield, as a step of a walk -/
namespace Go.Proofs.YtnablpehkeicmaaGreat
open Go.RowKit
section
variable {P:Program} {N:Nat} {ops:Array Oper} {rest:List Oper} {kd:Nat→Kd} {LL:Lim} {is:List El} {t:List (Nat×V)} {m:Mem} {Q:List (Nat×V)→Mem→Prop} {f:Operand} {l:List Operand} {ts:Array TypeId} {ty:TypeId} {pos:String} {af:Array Edge} {vs:List V} {d lp:Nat}
theorem s_yld(hy:YieldA P lp vs m (fun v mo=>WOs P N ops rest ((d,v)::t) (mo.getD m) Q))(hd:dOkB N (some d)=true:=by first|exact rfl|fail)(hf:evO t f= .clo (.yield lp) [] []:=by first|exact lk_|fail)(ha:l.map (evO t)=vs:=by first|exact lk_|fail):WOs P N ops (⟨some d,.call ⟨.value f,l.toArray,ts⟩,ty,pos,af,none⟩::rest) t m Q:=by
  subst ha
  refine⟨dOk_b hd,?_⟩
  simp only [hf]
  show YieldA P lp (l.toArray.toList.map (evO t)) m (fun v mo=>WOs P N ops rest ((d,v)::t) (mo.getD m) Q)
  simpa using hy
theorem d_yldY{i j e:Nat}{want:Bool}(hy:YieldA P lp vs m (fun v mo=>WDs P N ops kd LL is ((d,v)::t) (mo.getD m) Q))(hi:ops[i]?=some ⟨some d,.call ⟨.value f,l.toArray,ts⟩,ty,pos,af,some (j,want)⟩:=by first|exact rfl|fail)(hj:(ops[j]?).bind (·.dst)=some e:=by first|exact rfl|fail)(ht:tget t e= .bool want:=by first|exact lk_|fail)
    (hd:dOkB N (some d)=true:=by first|exact rfl|fail) (hf:evO t f= .clo (.yield lp) [] []:=by first|exact lk_|fail) (ha:l.map (evO t)=vs:=by first|exact lk_|fail) (hk:kd i= .w:=by first|exact rfl|fail):DG P N ops kd LL i is t m Q:=by
  subst ha
  unfold DG WDs
  simp only [hi,hj,ht]
  refine⟨fun _=>⟨dOk_b hd,?_⟩,fun hn=>(hn trivial).elim⟩
  simp only [hf]
  refine⟨hk,?_⟩
  show YieldA P lp (l.toArray.toList.map (evO t)) m (fun v mo=>WDs P N ops kd LL is ((d,v)::t) (mo.getD m) Q)
  simpa using hy
theorem YieldA.mono{m:Mem}{R R':V→Option Mem→Prop}(h:YieldA P lp vs m R)(hR:∀ v mo,R v mo→R' v mo):YieldA P lp vs m R':=by
  intro F hF w ρ xs h1 h2
  obtain⟨fn,tmps,asg,bd,g1,g2⟩:=h F hF w ρ xs h1 h2
  refine⟨fn,tmps,asg,bd,g1,g2.mono ?_⟩
  rintro e w' ⟨v,mo,x,k1,k2,k3⟩
  exact⟨v,mo,x,k1,hR v mo k2,k3⟩
theorem CallA_inD{fi:FuncId}{fn:Func}{c:Code}{n:Nat}{rs:Array ResultVar}{M:Mem}{R:V→Option Mem→Prop}(hf:P.funcs[fi]?=some fn)(hb:fn.body=some c)(hN:fn.ntmps=n)(hr:fn.results=rs)(hg:isGo P fi=true)(hn:vs.length≤n)
    (h:∀ (Q:Exit→List (Nat×V)→Mem→Prop),(∀ e t m',(e= .normal∨e= .ret)→∀ v,resV P t m' rs.toList=some v→R v (some m')→Q e t m')→WA P n c (argT 0 vs) M Q):CallA P fi vs M R:=by
  subst hN;subst hr
  refine CallA_introD hf hb hg hn (h _ ?_)
  intro e t m' he v hres hR
  refine⟨he,?_⟩
  rw [hres]
  exact hR
/-- a range over a function, by what holds behind it -/
theorem WA_rf{N:Nat}{g:Operand}{ps:Array Tmp}{assign body:Code}{t:List (Nat×V)}{m:Mem}{Q:Exit→List (Nat×V)→Mem→Prop}{f:FuncId}{fs cs:List V}(Rn:Mem→Prop)(Rp:Code→Mem→Prop)
    (h:∀ l,CallA P f (fs++ .clo (.yield l) [] []::cs) (m++[LoopB l N t ps assign body .ready none]) (fun _ mo=>∃ st pend m',mo=some m'∧m'[m.length]?=some (LoopB l N t ps assign body st pend)∧st≠ .busy∧(pend=none→Rn (m'.set m.length .dead))∧∀ c,pend=some c→Rp c (m'.set m.length .dead)))
    (hn:∀ m',Rn m'→Q .normal t m') (hp:∀ c m',Rp c m'→WA P N c t m' Q) (hg:evO t g= .clo (.func f) fs cs:=by first|exact lk_|fail):WA P N (.rangeFunc g ps assign body) t m Q:=by
  refine WA_rangeFunc h ?_ hg
  rintro l v mo ⟨st,pend,m',rfl,h1,h2,h3,h4⟩
  exact⟨st,pend,h1,h2,fun e=>hn _ (h3 e),fun c e=>hp c _ (h4 c e)⟩
theorem YieldA_in{l N:Nat}{t:List (Nat×V)}{ps:Array Tmp}{assign body:Code}{M1 X:Mem}{vs:List V}{R:V→Option Mem→Prop}(hv:vs.length=ps.size)(hp:∀ p∈ps.toList,p<N)(ht:t.all (fun p=>decide (p.1<N))=true)
    (h:WA P N assign (setPs t ps.toList vs) (M1++LoopL l N t ps assign body::X) (fun e t1 m1=>e= .normal∧m1[M1.length]?=some (LoopL l N t ps assign body)∧WA P N body t1 m1 (roundQ l N t ps assign body M1.length R))):YieldA P l vs (M1++LoopB l N t ps assign body .ready none::X) R:=by
  refine YieldA_intro (b:=M1.length) (assign:=assign) (body:=body) (t:=t) (by simp) hv hp ht ?_
  have e:(M1++LoopB l N t ps assign body .ready none::X).set M1.length (LoopL l N t ps assign body)=M1++LoopL l N t ps assign body::X:=by
    rw [List.set_append_right _ _ (Nat.le_refl _),Nat.sub_self];rfl
  rw [e]
  exact h
/-- a loop whose rounds leave the memory's beginning as it is -/
theorem WA_whileP{N:Nat}{t:List (Nat×V)}{m:Mem}{c:Code}{Q:Exit→List (Nat×V)→Mem→Prop}{σ:Type}{M:Mem}(ks:List Nat)(st:σ→List V)(E:σ→Mem)(k:Nat)(inv:σ→Prop)(μ:σ→Nat)(s0:σ)(h0:inv s0)(ht:ks.map (tget t)=st s0)(hm:m=M++E s0)
    (hlen:∀ s,(E s).length=k) (hst:∀ s s',inv s→inv s'→conS (M.length+k) (st s) (st s')) (hb:∀ s s',inv s→inv s'→conB (E s) (E s'))
    (hr:∀ s,inv s→∀ K:List (Nat×V)→Mem→Prop,(∀ s' t' m' ext,ks.map (tget t')=st s'→m'=M++(E s'++ext)→inv s'→μ s'<μ s→K t' m')→WA P N c (zipT ks (st s)) (M++E s) (qThen K Q)):WA P N (.loop c) t m Q:=by
  have hml:m.length=M.length+k:=by rw [hm,List.length_append,hlen]
  refine WA_whileD2 ks st (fun s=>M++E s) inv μ s0 h0 ht hm (fun s=>by rw [List.length_append,hlen,hml]) (fun s s' h1 h2=>by rw [hml];exact hst s s' h1 h2) ?_ (fun s hs K hK=>hr s hs K fun s' t' m' ext e1 e2 e3 e4=>hK s' t' m' ext e1 (by rw [e2,List.append_assoc]) e3 e4)
  intro s s' b blk h1 h2 h
  rcases Nat.lt_or_ge b M.length with hl|hl
  · rw [List.getElem?_append_left hl] at h
    exact .inr (by rw [List.getElem?_append_left hl];exact h)
  · rw [List.getElem?_append_right hl] at h
    rcases conB_get (hb s s' h1 h2) _ _ h with q|q
    · exact .inl q
    · exact .inr (by rw [List.getElem?_append_right hl];exact q)
theorem nextP_{σ:Type}{ks:List Nat}{st:σ→List V}{M:Mem}{E:σ→Mem}{inv:σ→Prop}{lt:σ→Prop}{K:List (Nat×V)→Mem→Prop}{t:List (Nat×V)}{m:Mem}(hL:∀ s' t' m' ext,ks.map (tget t')=st s'→m'=M++(E s'++ext)→inv s'→lt s'→K t' m')(s':σ)(hi:inv s')(hl:lt s'){ext:Mem}(ht:ks.map (tget t)=st s':=by first|exact tv_|fail)(hm:m=M++(E s'++ext):=by first|exact rfl|fail):K t m:=hL s' t m ext ht hm hi hl
theorem roundQ_ret{l N b:Nat}{t t':List (Nat×V)}{ps:Array Tmp}{assign body:Code}{A X M:Mem}{R:V→Option Mem→Prop}(hM:M=A++LoopL l N t ps assign body::X)(hb:A.length=b)(h:R (.bool false) (some (A++LoopB l N t ps assign body .done (some .ret)::X))):roundQ l N t ps assign body b R .ret t' M:=by
  subst hb;subst hM
  refine⟨by simp,?_⟩
  rw [List.set_append_right _ _ (Nat.le_refl _),Nat.sub_self]
  exact h
end
/-- how a round ends: the record (ready, within a round, done) told by names -/
def rndQ(LB LL:Blk)(LD:Code→Blk)(b:Nat)(R:V→Option Mem→Prop):Exit→List (Nat×V)→Mem→Prop
  | .normal,_,m=>m[b]?=some LL∧R (.bool true) (some (m.set b LB))
  | .ret,_,m=>m[b]?=some LL∧R (.bool false) (some (m.set b (LD .ret)))
  | .exit id,_,m=>m[b]?=some LL∧R (.bool false) (some (m.set b (LD (.exit id))))
  |_,_,_=>False
/-- what a yield does, the loop's record told by names -/
def YldS(P:Program)(l N:Nat)(t:List (Nat×V))(ps:Array Tmp)(assign body:Code)(LB LL:Blk)(LD:Code→Blk):Prop:=
  ∀ (M1 X:Mem) (vs:List V) (R:V→Option Mem→Prop),vs.length=ps.size→WA P N assign (setPs t ps.toList vs) (M1++LL::X) (fun e t1 m1=>e= .normal∧m1[M1.length]?=some LL∧WA P N body t1 m1 (rndQ LB LL LD M1.length R))→YieldA P l vs (M1++LB::X) R
theorem WA_rfA{P:Program}{N:Nat}{g:Operand}{ps:Array Tmp}{assign body:Code}{t:List (Nat×V)}{m:Mem}{Q:Exit→List (Nat×V)→Mem→Prop}{f:FuncId}{fs cs:List V}(Rn:Mem→Prop)(Rp:Code→Mem→Prop)
    (h:∀ (l:Nat) (LB LL:Blk) (LD:Code→Blk),YldS P l N t ps assign body LB LL LD→CallA P f (fs++ .clo (.yield l) [] []::cs) (m++[LB]) (fun _ mo=>∃ m',mo=some m'∧((m'[m.length]?=some LB∧Rn (m'.set m.length .dead))∨∃ c,m'[m.length]?=some (LD c)∧Rp c (m'.set m.length .dead))))
    (hn:∀ m',Rn m'→Q .normal t m') (hp:∀ c m',Rp c m'→WA P N c t m' Q) (hg:evO t g= .clo (.func f) fs cs:=by first|exact lk_|fail) (hps:∀ p∈ps.toList,p<N:=by simp) (ht:t.all (fun p=>decide (p.1<N))=true:=by rfl):WA P N (.rangeFunc g ps assign body) t m Q:=by
  refine WA_rf Rn Rp (fun l=>(h l (LoopB l N t ps assign body .ready none) (LoopL l N t ps assign body) (fun c=>LoopB l N t ps assign body .done (some c)) ?_).mono ?_) hn hp hg
  · intro M1 X vs R hv hw
    refine YieldA_in hv hps ht (WA_mono hw ?_)
    rintro e t1 m1 ⟨h1,h2,h3⟩
    refine⟨h1,h2,WA_mono h3 ?_⟩
    intro e t2 m2 h4
    cases e<;>exact h4
  · rintro v mo ⟨m',rfl,h1⟩
    rcases h1 with ⟨h2,h3⟩|⟨c,h2,h3⟩
    · exact⟨_,_,m',rfl,h2,by decide,fun _=>h3,fun c hc=>by cases hc⟩
    · exact⟨_,_,m',rfl,h2,by decide,(fun hc=>by cases hc),fun c' hc=>by cases hc;exact h3⟩
theorem rndQ_nrm{LB LL:Blk}{LD:Code→Blk}{b:Nat}{t':List (Nat×V)}{A X M:Mem}{R:V→Option Mem→Prop}(hM:M=A++LL::X)(hb:A.length=b)(h:R (.bool true) (some (A++LB::X))):rndQ LB LL LD b R .normal t' M:=by
  subst hb;subst hM
  refine⟨by simp,?_⟩
  rw [List.set_append_right _ _ (Nat.le_refl _),Nat.sub_self]
  exact h
theorem rndQ_ret{LB LL:Blk}{LD:Code→Blk}{b:Nat}{t':List (Nat×V)}{A X M:Mem}{R:V→Option Mem→Prop}(hM:M=A++LL::X)(hb:A.length=b)(h:R (.bool false) (some (A++LD .ret::X))):rndQ LB LL LD b R .ret t' M:=by
  subst hb;subst hM
  refine⟨by simp,?_⟩
  rw [List.set_append_right _ _ (Nat.le_refl _),Nat.sub_self]
  exact h
theorem conB_refl:∀ (m:Mem),conB m m
  |[]=>trivial
  |_::r=>⟨.inr rfl,conB_refl r⟩
section
variable {P:Program} {N:Nat} {t:List (Nat×V)} {m:Mem} {Q:List (Nat×V)→Mem→Prop} {ops:Array Oper} {rest:List Oper} {k:Option Nat} {ty:TypeId} {pos:String} {af:Array Edge}
/-- is an empty list nil: either -/
theorem x_nl0 {T T':TypeId} {x y:Operand} {K:V→Mem→Prop} (hx:evO t x= .lst []) (hy:evO t y= .nilsl) (hT:∃ e,P.underlying T=some (.slice e)) (h1:K (.bool true) m) (h2:K (.bool false) m):XOp P t m (.binOp .eql T x y T') K:=by
  refine⟨fun c=>by simp,fun w ρ a o ho hM hTm=>?_⟩
  obtain⟨e,hu⟩:=hT
  have hrx:=evO_rel hTm x;rw [hx] at hrx
  have hry:=evO_rel hTm y;rw [hy] at hry
  have key:∃ (r:Bool) (z:Value),(do eqGuard .eql T x y (a.eval x) (a.eval y);binOp .eql T (a.eval x) (a.eval y):Sem Value).run P w= .ok z w∧RelV w ρ (bad m ρ) (.bool r) z:=by
    generalize a.eval x=ex at hrx
    generalize a.eval y=ey at hry
    cases hry
    cases hrx with
    | lnil ad c hc ha=>
      cases ad with
      | none=>
        refine⟨true,eq_fin (op:= .eql) rfl ?_ ?_ ?_⟩
        · exact run_equal_of fun d=>by simp only [Op.equalIn,Sem.run_bind,run_underlying hu,Result.andThen_ok,Sem.run_pure]<;>rfl
        · simp [eqGuard,go_sem]
        · rintro op (rfl|rfl)<;>simp [binOp]
      | some ad=>
        refine⟨false,eq_fin (op:= .eql) rfl ?_ ?_ ?_⟩
        · exact run_equal_of fun d=>by simp only [Op.equalIn,Sem.run_bind,run_underlying hu,Result.andThen_ok,Sem.run_pure]<;>rfl
        · simp [eqGuard,go_sem]
        · rintro op (rfl|rfl)<;>simp [binOp]
    | lst _ b off c s Y=>
      refine⟨false,eq_fin (op:= .eql) rfl ?_ ?_ ?_⟩
      · exact run_equal_of fun d=>by simp only [Op.equalIn,Sem.run_bind,run_underlying hu,Result.andThen_ok,Sem.run_pure]<;>rfl
      · simp [eqGuard,go_sem]
      · rintro op (rfl|rfl)<;>simp [binOp]
  obtain⟨r,z,hr,hv⟩:=key
  refine⟨.value z,w,.bool r,m,ρ,?_,by cases r<;>assumption,After.refl hM,.inl ⟨_,rfl,hv⟩⟩
  simp only [execOp,ho]
  exact run_v hr
theorem s_nl0{T T':TypeId}{x y:Operand}(h1:WOs P N ops rest (tput t k (.bool true)) m Q)(h2:WOs P N ops rest (tput t k (.bool false)) m Q)(hd:dOkB N k=true)(hx:evO t x= .lst [])(hy:evO t y= .nilsl)(hT:∃ e,P.underlying T=some (.slice e)):WOs P N ops (⟨k,.binOp .eql T x y T',ty,pos,af,none⟩::rest) t m Q:=by
  refine WOs_x (dOk_b hd) (by simp) ?_ rfl (x_nl0 hx hy hT h1 h2)
  rw [ev_binOp,hx,hy]
  rfl
theorem s_nl1{T T':TypeId}{x y:Operand}{e:List V}{es:List (List V)}(h:WOs P N ops rest (tput t k (.bool false)) m Q)(hd:dOkB N k=true)(hx:evO t x= .lst (e::es))(hy:evO t y= .nilsl)(hT:kdT P T=2):WOs P N ops (⟨k,.binOp .eql T x y T',ty,pos,af,none⟩::rest) t m Q:=
  op_of (dOk_b hd) (p:=True) (m':=m) (by rw [ev_binOp,hx,hy];simp [evB,evEq,eqV,hT]) trivial h
theorem s_nl2{T T':TypeId}{x y:Operand}{b n:Nat}(h:WOs P N ops rest (tput t k (.bool false)) m Q)(hd:dOkB N k=true)(hx:evO t x= .sl b n)(hy:evO t y= .nilsl)(hT:kdT P T=2):WOs P N ops (⟨k,.binOp .eql T x y T',ty,pos,af,none⟩::rest) t m Q:=
  op_of (dOk_b hd) (p:=True) (m':=m) (by rw [ev_binOp,hx,hy];simp [evB,evEq,eqV,hT]) trivial h
end
end Go.Proofs.YtnablpehkeicmaaGreat
namespace Go.Proofs.YtnablpehkeicmaaGreat
open Go.RowKit
attribute [local irreducible] WA WOs WDs WAn qThen qBlock tput
set_option maxHeartbeats 1000000
set_option maxRecDepth 20000
set_option linter.unusedSimpArgs false
set_option linter.unusedVariables false
theorem uB10_58_6{N:Nat}{l:List Oper}{t:List (Nat×V)}{m:Mem}{Q:Exit→List (Nat×V)→Mem→Prop}(h:RgN Tryz.prog N l t m Q (fun i=>if i==3 || i==5 || i==7 || i==8 || i==9 then .q else .p) [.one 0,.one 1,.one 2,.one 3,.one 4,.one 5,.one 6,.one 7,.one 8,.one 9]):WA Tryz.prog N (.region 6 l.toArray true) t m Q:=d_rgN h
theorem gchecksteps_c(b:BnR)(hfa:b.ads.length≤12)(l:List Int)(m:Mem):Gives Tryz.prog 58 [.bp (bxC b) 0,.lst (nsV l)] m (.int .i64 (stErr b.ads l)):=by
  have hla:=adsV_length (l:=b.ads)
  have hln:=nsV_length (l:=l)
  have hga:=hla
  have hgb:=hla
  unfold bxC stErr
  refine Gives_in Tryz.func58 rfl Tryz.ntmps58 Tryz.results58 (by kernel_rfl) (by simp) rfl fun Q hQ=>?_
  (have FX:=fx4 hla hln hga hgb;repeat'(first|(refine sx ?_ ?_<;>intro h<;>first|(exfalso;omega)|skip)|(refine na ?_;(first|refine nb (gwithin_c _ _ _) ?_)<;>try first|omega|assumption)|refine ny ?_|refine WA_block ?_|(refine uB10_58_6 ?_;refine⟨by kernel_rfl,?_⟩)|(refine g_d ?_;(first|refine d_fnY (gwithin_c _ _ _ _) ?_)<;>try first|omega|assumption)))
  all_goals(try(exfalso;omega))
  all_goals try
    ((refine r_es hQ ?_;try with_reducible rfl)
     refine congrArg (V.int .i64) ?_
     rw [if_pos (by omega)]
     done)
  have hlb:l.length=b.ads.length:=by omega
  rw [if_neg (by omega)] at hQ
  generalize hO:nuV (ordB b.ads)=O at*
  generalize hRW:rwV (rowsB b.ms b.ads)=RW at*
  generalize hMN:nsV (mnsB b.ms b.ads)=MN at*
  refine WA_whileK (σ:=Nat) (L:=m) [0,1,20,21,22] (fun i=>[.bp [.lst (mssV b.ms),.lst (adsV b.ads),.lst O,.lst RW,.lst MN] 0,.lst (nsV l),.lst (adsV b.ads),.int .i64 b.ads.length,.int .i64 i]) (fun _=>[]) 0 (fun i=>i≤b.ads.length∧∀ j,j<i→stErrAt b.ads l j=0) (fun i=>b.ads.length - i) 0 ⟨Nat.zero_le _,fun j h=>absurd h (Nat.not_lt_zero _)⟩ tv_ rfl (fun _=>rfl) (by intro s s' _ _;simp [conB,conS,V.keeps,V.plain,Blk.flat,flatL,plainL,V.flat]) (by intro s s' _ _;simp [conB,conS,V.keeps,V.plain,Blk.flat,flatL,plainL,V.flat]) ?_
  rintro i ⟨hi1,hi2⟩ K hK
  simp only [zipT]
  clear FX hga hgb
  rcases Nat.lt_or_ge i b.ads.length with hi|hi
  · have hga:=adsV_get hi
    have hgb:=nsV_get (l:=l) (i:=i) (by omega)
    have hat:stErrAt b.ads l i=if (b.ads.getD i adz).least≤l.getD i 0∧l.getD i 0≤(b.ads.getD i adz).most then 0 else 2:=rfl
    generalize b.ads.getD i adz=x at*
    obtain⟨nm,ef,le,mo,pa,af⟩:=x
    unfold adV at hga
    dsimp only at hga hat
    (have FX:=fx4 hla hln hga hgb;repeat'(first|(refine sx ?_ ?_<;>intro h<;>first|(exfalso;omega)|skip)|(refine na ?_;(first|refine nb (gwithin_c _ _ _) ?_)<;>try first|omega|assumption)|refine ny ?_|refine WA_block ?_|(refine uB10_58_6 ?_;refine⟨by kernel_rfl,?_⟩)|(refine g_d ?_;(first|refine d_fnY (gwithin_c _ _ _ _) ?_)<;>try first|omega|assumption)))
    all_goals(try(exfalso;omega))
    all_goals try
      ((refine r_es hQ ?_;try with_reducible rfl)
       refine congrArg (V.int .i64) (fE_is hi hi2 (hat.trans ?_) (by decide)).symm
       rw [if_neg (by omega)]
       done)
    all_goals(refine nextL_ hK (i+1) ⟨by omega,up_zero hi2 (hat.trans (by rw [if_pos (by omega)]))⟩ (by omega))
  · obtain rfl:i=b.ads.length:=by omega
    have hga:=hla
    have hgb:=hla
    (have FX:=fx4 hla hln hga hgb;repeat'(first|(refine sx ?_ ?_<;>intro h<;>first|(exfalso;omega)|skip)|(refine na ?_;(first|refine nb (gwithin_c _ _ _) ?_)<;>try first|omega|assumption)|refine ny ?_|refine WA_block ?_|(refine uB10_58_6 ?_;refine⟨by kernel_rfl,?_⟩)|(refine g_d ?_;(first|refine d_fnY (gwithin_c _ _ _ _) ?_)<;>try first|omega|assumption)))
    all_goals(try(exfalso;omega))
    all_goals((refine r_es hQ ?_;try with_reducible rfl))
    all_goals(exact congrArg (V.int .i64) (fE_zero.2 hi2).symm)

theorem gvalue_c(b:BnR)(hb:Bnd b)(l:List Int)(hl:l.length=b.ads.length)(hs:∀ k,k<b.ads.length→ -1000≤l.getD k 0∧l.getD k 0≤1000)(i:Nat)(hi:i<b.ms.length)(m:Mem):Gives Tryz.prog 49 [.bp (bxC b) 0,.int .i64 i,.lst (nsV l)] m (.int .i64 (valP b l i)):=by
  have hlm:=mssV_length (l:=b.ms)
  have hln:=nsV_length (l:=l)
  have hla:=adsV_length (l:=b.ads)
  have hlw:(rwV (rowsB b.ms b.ads)).length=b.ads.length:=by rw [rwV_length,rowsB_length]
  have hgm:=mssV_get hi
  have hga:=hla
  have hgb:=hla
  have hgc:=hla
  have hfa:=hb.fa
  have hva:=(hb.va i hi).1
  have hv0:valK b l i 0=(b.ms.getD i msz).val:=rfl
  have hvn:valP b l i=valK b l i b.ads.length:=rfl
  generalize b.ms.getD i msz=y at hgm hva hv0
  obtain⟨ynm,yva,ylo,yhi⟩:=y
  unfold msV at hgm
  dsimp only at hgm hva hv0
  unfold bxC
  generalize hO:nuV (ordB b.ads)=O at*
  generalize hMN:nsV (mnsB b.ms b.ads)=MN at*
  refine Gives_in Tryz.func49 rfl Tryz.ntmps49 Tryz.results49 (by kernel_rfl) (by simp) rfl fun Q hQ=>?_
  (have FX:=fx8 hlm hln hla hlw hgm hga hgb hgc;repeat'(first|(refine sx ?_ ?_<;>intro h<;>first|(exfalso;omega)|skip)|refine ny ?_|refine WA_block ?_))
  all_goals(try(exfalso;omega))
  refine WA_while (σ:=Nat) [0,1,7,19,20,21] (fun k=>[.bp [.lst (mssV b.ms),.lst (adsV b.ads),.lst O,.lst (rwV (rowsB b.ms b.ads)),.lst MN] 0,.int .i64 i,.int .i64 (valK b l i k),.lst (nsV l),.int .i64 l.length,.int .i64 k]) (fun _=>lend m++[]) (fun k=>k≤b.ads.length) (fun k=>b.ads.length - k) 0 (Nat.zero_le _) (by rw [hv0];exact tv_) rfl ?_
  rintro k hk1 L hL
  simp only [zipT]
  clear FX hga hgb hgc
  have hbd:=valK_bd hb hi hs k hk1
  rcases Nat.lt_or_ge k b.ads.length with hk|hk
  · have hga:=nsV_get (l:=l) (i:=k) (by omega)
    have hgb:=rwV_get (l:=rowsB b.ms b.ads) (i:=k) (by rw [rowsB_length];exact hk)
    rw [rowsB_get hk] at hgb
    have hgc:=nsV_get (l:=rowL b.ms (b.ads.getD k adz).effs) (i:=i) (by rw [rowL_length];exact hi)
    rw [rowL_get hi] at hgc
    have hlr:(nsV (rowL b.ms (b.ads.getD k adz).effs)).length=b.ms.length:=by rw [nsV_length,rowL_length]
    have hgc:(nsV (rowL b.ms (b.ads.getD k adz).effs))[i]?=some [V.int .i64 (byN b k i)]∧(nsV (rowL b.ms (b.ads.getD k adz).effs)).length=b.ms.length:=⟨hgc,hlr⟩
    have hbx:=hb.by_ k i
    have hsk:=hs k hk
    have hmb:=mul_bd (a:=1000) (c:=1000) (by decide) hsk hbx
    have hsu:valK b l i (k+1)=valK b l i k+l.getD k 0*byN b k i:=rfl
    generalize nsV (rowL b.ms (b.ads.getD k adz).effs)=RL at*
    generalize byN b k i=by' at*
    generalize l.getD k 0=sk at*
    generalize hvk:valK b l i k=vk at*
    (have FX:=fx8 hlm hln hla hlw hgm hga hgb hgc;repeat'(first|(refine sx ?_ ?_<;>intro h<;>first|(exfalso;omega)|skip)|refine ny ?_|refine WA_block ?_))
    all_goals(try(exfalso;omega))
    all_goals(refine next_ hL (k+1) hk (by omega) (by rw [hsu];exact tv_))
  · obtain rfl:k=b.ads.length:=by omega
    have hga:=hla
    have hgb:=hla
    have hgc:=hla
    rw [hvn] at hQ
    (have FX:=fx8 hlm hln hla hlw hgm hga hgb hgc;repeat'(first|(refine sx ?_ ?_<;>intro h<;>first|(exfalso;omega)|skip)|refine ny ?_|refine WA_block ?_))
    all_goals(try(exfalso;omega))
    all_goals((refine r_es hQ ?_;try with_reducible rfl))
theorem bxC_plain(b:BnR):plainL (bxC b)=true:=by
  simp [bxC,plainL,V.plain,mssV_plain,adsV_plain,nuV_plain,rwV_plain,nsV_plain]
theorem frz_clo2{m0:Mem}{fn:Fn}{s1 s2:Sta}{t1 t2 z1 z2:Nat}{cs:List V}{es:List (List V)}(h1:plainL cs=true)(h2:plainLL es=true):frz (lend m0++[.cells s1 t1 z1 [[.bp cs 0]],.cells s2 t2 z2 [[.lst es]]]) m0.length 4 (.clo fn [] [.ptr (lend m0).length 0 0,.ptr ((lend m0).length+1) 0 0])=some (.clo fn [] [.bp [.bp cs 0] 0,.bp [.lst es] 0]):=by
  have hl:(lend m0).length=m0.length:=by simp [lend]
  have g1:¬ (lend m0).length<m0.length:=by omega
  have g2:¬ (lend m0).length+1<m0.length:=by omega
  have e1:(lend m0++[Blk.cells s1 t1 z1 [[.bp cs 0]],.cells s2 t2 z2 [[.lst es]]])[(lend m0).length]?=some (.cells s1 t1 z1 [[.bp cs 0]]):=by
    rw [List.getElem?_append_right (Nat.le_refl _),Nat.sub_self];rfl
  have e2:(lend m0++[Blk.cells s1 t1 z1 [[.bp cs 0]],.cells s2 t2 z2 [[.lst es]]])[(lend m0).length+1]?=some (.cells s2 t2 z2 [[.lst es]]):=by
    rw [List.getElem?_append_right (by omega),Nat.add_sub_cancel_left];rfl
  simp only [frz,V.plain,plainL,Bool.false_and,Bool.and_false,Bool.false_eq_true,if_false,frzs,g1,g2,e1,e2,List.getElem?_cons_zero,h1,h2,if_true,Option.map_some]

theorem gbroken_c(b:BnR)(l:List Int)(m:Mem):Gives Tryz.prog 34 [.bp (bxC b) 0,.lst (nsV l)] m (.clo (.func 59) [] [.bp [.bp (bxC b) 0] 0,.bp [.lst (nsV l)] 0]):=by
  refine CallA_in Tryz.func34 rfl Tryz.ntmps34 Tryz.results34 (by kernel_rfl) (by simp) fun Q hQ=>?_
  (repeat'(first|(refine sx ?_ ?_<;>intro h<;>first|(exfalso;omega)|skip)|refine ny ?_|refine WA_block ?_))
  all_goals(refine r_esA hQ (.inr ⟨_,_,rfl,frz_clo2 (bxC_plain b) (nsV_plain l),⟨rfl,rfl⟩⟩))
theorem uB13_59_3{N:Nat}{l:List Oper}{t:List (Nat×V)}{m:Mem}{Q:Exit→List (Nat×V)→Mem→Prop}(h:RgN Tryz.prog N l t m Q (fun i=>if i==13 then .w else if i==14 then .a else if i==0 || i==2 || i==3 || i==5 || i==7 || i==8 || i==9 then .q else .p) [.one 0,.one 1,.one 2,.one 3,.one 4,.one 5,.one 6,.one 7,.one 8,.one 9,.one 10,.one 11,.one 12,.one 13,.one 14,.one 15]):WA Tryz.prog N (.region 3 l.toArray true) t m Q:=d_rgN h
/-- .. told to one who does not go on behind the first -/
theorem gbroken1_stop(b:BnR)(hb:Bnd b)(l:List Int)(hl:l.length=b.ads.length)(hs:∀ k,k<b.ads.length→ -1000≤l.getD k 0∧l.getD k 0≤1000)(lp:Nat)(M:Mem)(R:V→Option Mem→Prop)
    (hn:brkP b l b.ms.length=[]→R (.tup []) (some (M++[])))
    (hy:∀ i,i<b.ms.length→brkP b l i=[]→brkB b l i=true→∀ x,YieldA Tryz.prog lp [.int .i64 i] (M++[x]) (fun v mo=>v= .bool false∧∃ m',mo=some m'∧R (.tup []) (some m'))):
    CallA Tryz.prog 59 [.clo (.yield lp) [] [],.bp [.bp (bxC b) 0] 0,.bp [.lst (nsV l)] 0] M R:=by
  have hlm:=mssV_length (l:=b.ms)
  have hga:=hlm
  have hval:=hlm
  have hms:=hb.fm
  refine CallA_inD Tryz.func59 rfl Tryz.ntmps59 Tryz.results59 (by kernel_rfl) (by simp) fun Q hQ=>?_
  have hbx:bxC b=[.lst (mssV b.ms),.lst (adsV b.ads),.lst (nuV (ordB b.ads)),.lst (rwV (rowsB b.ms b.ads)),.lst (nsV (mnsB b.ms b.ads))]:=rfl
  have hval0:=fun(i:Nat) (hi:i<b.ms.length) m=>gvalue_c b hb l hl hs i hi m
  rw [hbx] at hval0 ⊢
  generalize nuV (ordB b.ads)=O at*
  generalize rwV (rowsB b.ms b.ads)=RW at*
  generalize nsV (mnsB b.ms b.ads)=MN at*
  (have FX:=And.intro hlm hga;repeat'(first|(refine sx ?_ ?_<;>intro h<;>first|(exfalso;omega)|skip)|(refine na ?_;(first|refine nb hval ?_|refine nb (gwithin_c _ _ _) ?_)<;>try first|omega|assumption)|refine ny ?_|refine WA_block ?_|(refine uB13_59_3 ?_;refine⟨by kernel_rfl,?_⟩)|(refine g_d ?_;(first|refine d_fnY (hval _) ?_|refine d_fnY (gwithin_c _ _ _ _) ?_)<;>try first|omega|assumption)))
  all_goals(try(exfalso;omega))
  refine WA_whileP (σ:=Nat) (M:=M) [0,1,2,10,11,12] (fun i=>[.clo (.yield lp) [] [],.bp [.bp [.lst (mssV b.ms),.lst (adsV b.ads),.lst O,.lst RW,.lst MN] 0] 0,.bp [.lst (nsV l)] 0,.lst (mssV b.ms),.int .i64 b.ms.length,.int .i64 i]) (fun _=>[]) 0 (fun i=>i≤b.ms.length∧brkP b l i=[]) (fun i=>b.ms.length - i) 0 ⟨Nat.zero_le _,rfl⟩ tv_ (by simp) (fun _=>rfl) (by intro s s' _ _;simp [conB,conS,V.keeps,V.plain,Blk.flat,flatL,plainL,V.flat]) (by intro s s' _ _;simp [conB,conS,V.keeps,V.plain,Blk.flat,flatL,plainL,V.flat]) ?_
  rintro i ⟨hi1,hi2⟩ K hK
  simp only [zipT]
  clear FX hga hval
  rcases Nat.lt_or_ge i b.ms.length with hi|hi
  · have hga:=mssV_get hi
    have hval:=hval0 i hi
    have hbr:brkB b l i=!decide ((b.ms.getD i msz).low≤valP b l i∧valP b l i≤(b.ms.getD i msz).high):=rfl
    have hsu:brkB b l i=false→brkP b l (i+1)=[]:=fun h=>by rw [brkP_succ,if_neg (by rw [h];decide)];exact hi2
    have hyi:=hy i hi hi2
    generalize valP b l i=vi at*
    generalize b.ms.getD i msz=x at*
    obtain⟨nm,va,lo,hg⟩:=x
    unfold msV at hga
    dsimp only at hga hbr
    (have FX:=And.intro hlm hga;repeat'(first|(refine sx ?_ ?_<;>intro h<;>first|(exfalso;omega)|skip)|(refine na ?_;(first|refine nb hval ?_|refine nb (gwithin_c _ _ _) ?_)<;>try first|omega|assumption)|refine ny ?_|refine WA_block ?_|(refine uB13_59_3 ?_;refine⟨by kernel_rfl,?_⟩)|(refine g_d ?_;(first|refine d_fnY (hval _) ?_|refine d_fnY (gwithin_c _ _ _ _) ?_)<;>try first|omega|assumption)))
    all_goals(try(exfalso;omega))
    all_goals try
      (refine nextP_ hK (i+1) ⟨hi,hsu (by rw [hbr,decide_eq_true (by assumption)];rfl)⟩ (by omega)
       done)
    refine g_d ?_
    refine d_yldY ((hyi (by rw [hbr,decide_eq_false (by assumption)];rfl) _).mono ?_)
    rintro v mo ⟨rfl,m',rfl,hR⟩
    simp only [Option.getD_some]
    (have FX:=And.intro hlm hga;repeat'(first|(refine sx ?_ ?_<;>intro h<;>first|(exfalso;omega)|skip)|(refine na ?_;(first|refine nb hval ?_|refine nb (gwithin_c _ _ _) ?_)<;>try first|omega|assumption)|refine ny ?_|refine WA_block ?_|(refine uB13_59_3 ?_;refine⟨by kernel_rfl,?_⟩)|(refine g_d ?_;(first|refine d_fnY (hval _) ?_|refine d_fnY (gwithin_c _ _ _ _) ?_)<;>try first|omega|assumption)))
    all_goals(exact hQ _ _ _ (.inr rfl) _ rfl hR)
  · obtain rfl:i=b.ms.length:=by omega
    have hga:=hlm
    have hval:=hlm
    (have FX:=And.intro hlm hga;repeat'(first|(refine sx ?_ ?_<;>intro h<;>first|(exfalso;omega)|skip)|(refine na ?_;(first|refine nb hval ?_|refine nb (gwithin_c _ _ _) ?_)<;>try first|omega|assumption)|refine ny ?_|refine WA_block ?_|(refine uB13_59_3 ?_;refine⟨by kernel_rfl,?_⟩)|(refine g_d ?_;(first|refine d_fnY (hval _) ?_|refine d_fnY (gwithin_c _ _ _ _) ?_)<;>try first|omega|assumption)))
    all_goals(try(exfalso;omega))
    all_goals(exact hQ _ _ _ (by first|exact .inl rfl|exact .inr rfl) _ rfl (hn hi2))
theorem at_mid{A X:Mem}{x:Blk}:(A++x::X)[A.length]?=some x:=by simp
theorem app_mid{A:Mem}{x y:Blk}:A++[y]++[x]=A++y::[x]:=by simp
theorem brk_ne{b:BnR}{l:List Int}{n i:Nat}(hi:i<n)(h:brkB b l i=true):brkP b l n≠[]:=by
  intro e
  have:i∈brkP b l n:=List.mem_filter.2 ⟨List.mem_range.2 hi,h⟩
  rw [e] at this
  cases this

theorem gholds_c(b:BnR)(hb:Bnd b)(l:List Int)(hl:l.length=b.ads.length)(hs:∀ k,k<b.ads.length→ -1000≤l.getD k 0∧l.getD k 0≤1000)(m:Mem):Gives Tryz.prog 25 [.bp (bxC b) 0,.lst (nsV l)] m (.bool (decide (brkP b l b.ms.length=[]))):=by
  have FX:=hl
  refine Gives_in Tryz.func25 rfl Tryz.ntmps25 Tryz.results25 (by kernel_rfl) (by simp) rfl fun Q hQ=>?_
  (repeat'(first|(refine sx ?_ ?_<;>intro h<;>first|(exfalso;omega)|skip)|(refine na ?_;(first|refine nb (gbroken_c b l) ?_)<;>try first|omega|assumption)|refine ny ?_|refine WA_block ?_))
  refine WA_rf (fun m'=>brkP b l b.ms.length=[]∧m'=lend m++[.cells .own 4 1 [[.bool false]],.dead]) (fun c m'=>c= .ret∧brkP b l b.ms.length≠[]∧∃ x,m'=lend m++[.cells .own 4 1 [[.bool false]],.dead,x]) (fun lp=>?_) (fun m' hm=>?_) (fun c m' hm=>?_)
  · refine gbroken1_stop b hb l hl hs lp _ _ ?_ ?_
    · intro h
      exact⟨.ready,none,_,rfl,by simp,by decide,fun _=>⟨h,by simp⟩,fun c hc=>by cases hc⟩
    · intro i hi h0 h1 x
      have hne:brkP b l b.ms.length≠[]:=brk_ne hi h1
      rw [app_mid]
      refine YieldA_in rfl (by simp) rfl ?_
      refine WA_skip ⟨rfl,at_mid,?_⟩
      simp only [setPs,List.append_assoc,List.cons_append,List.nil_append]
      (repeat'(first|(refine sx ?_ ?_<;>intro h<;>first|(exfalso;omega)|skip)|(refine na ?_;(first|refine nb (gbroken_c b l) ?_)<;>try first|omega|assumption)|refine ny ?_|refine WA_block ?_))
      refine roundQ_ret (A:=lend m++[.cells .own 4 1 [[.bool false]]]) (X:=[x]) (by simp only [List.append_assoc,List.cons_append,List.nil_append];rfl) (by simp) ?_
      exact⟨rfl,_,rfl,.done,some .ret,_,rfl,by simp,by decide,(fun h=>by cases h),fun c hc=>⟨(by cases hc;rfl),hne,x,by simp⟩⟩
  · obtain⟨h0,rfl⟩:=hm
    rw [decide_eq_true h0] at hQ
    (repeat'(first|(refine sx ?_ ?_<;>intro h<;>first|(exfalso;omega)|skip)|(refine na ?_;(first|refine nb (gbroken_c b l) ?_)<;>try first|omega|assumption)|refine ny ?_|refine WA_block ?_))
    all_goals(refine r_es hQ ?_;try with_reducible rfl)
  · obtain⟨rfl,h0,x,rfl⟩:=hm
    rw [decide_eq_false h0] at hQ
    (repeat'(first|(refine sx ?_ ?_<;>intro h<;>first|(exfalso;omega)|skip)|(refine na ?_;(first|refine nb (gbroken_c b l) ?_)<;>try first|omega|assumption)|refine ny ?_|refine WA_block ?_))
    all_goals(refine r_es hQ ?_;try with_reducible rfl)
end Go.Proofs.YtnablpehkeicmaaGreat
