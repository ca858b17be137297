import Derived.Test.YtomkbpoicjabfaaGreatDoorYC
import Derived.Test.YtomkbpoicjabfaaGreatDoorFY
import Derived.MapKept
import Derived.Test.YtomkbpoicjabfaaGreatDoorGAB
set_option linter.unusedSimpArgs false
set_option linter.unusedVariables false
/- a group of a drawn region whose steps look at one another: the walk of each of its orders -/
namespace Go.Proofs.YtomkbpoicjabfaaGreatDoor
open Go.RowKit
section
variable {P:Program} {N:Nat} {ops:Array Oper} {kd:Nat→Kd} {LL:Lim} {is:List El} {t:List (Nat×V)} {m:Mem} {Q K:List (Nat×V)→Mem→Prop}
theorem d_alt{cs ns:List Nat}{f:Nat}(h:WDg P N ops kd LL (fun t m=>WDs P N ops kd LL is t m Q) f cs ns t m)(hf:cs.length+ns.length=f:=by first|exact rfl|fail):WDs P N ops kd LL (.grp false cs ns::is) t m Q:=by
  subst hf
  unfold WDs
  exact h
theorem wg_0(h:K t m):WDg P N ops kd LL K 0 [] [] t m:=⟨rfl,rfl,h⟩
/-- one of a group's steps, and what follows -/
def WGo(P:Program)(N:Nat)(ops:Array Oper)(kd:Nat→Kd)(LL:Lim)(i:Nat)(t:List (Nat×V))(m:Mem)(R:List (Nat×V)→Mem→Prop):Prop:=∃ o,ops[i]?=some o∧WDop P N LL (kd i) t m o.op o.dst R
/-- each of the makers that are left -/
def WGm(P:Program)(N:Nat)(ops:Array Oper)(kd:Nat→Kd)(LL:Lim)(K:List (Nat×V)→Mem→Prop)(f:Nat)(cs ns l:List Nat)(t:List (Nat×V))(m:Mem):Prop:=∀ n∈l,WGo P N ops kd LL n t m fun t m=>WDg P N ops kd LL K f cs (ns.erase n) t m
theorem wg_b{c f:Nat}{cs ns:List Nat}(h:WGm P N ops kd LL K f (c::cs) ns ns t m)(hb:ns.any (fun n=>reach ops ops.size c n)=true:=by first|exact rfl|fail):WDg P N ops kd LL K (f+1) (c::cs) ns t m:=by
  refine⟨fun c' cs' e hr=>?_,h⟩
  cases e
  obtain⟨n,hn,hx⟩:=List.any_eq_true.1 hb
  rw [hr n hn] at hx
  cases hx
theorem wg_c{c f:Nat}{cs ns:List Nat}(h1:WGo P N ops kd LL c t m fun t m=>WDg P N ops kd LL K f cs ns t m)(h:WGm P N ops kd LL K f (c::cs) ns ns t m):WDg P N ops kd LL K (f+1) (c::cs) ns t m:=by
  refine⟨fun c' cs' e _=>?_,h⟩
  cases e
  exact h1
theorem wg_n{f:Nat}{ns:List Nat}(h:WGm P N ops kd LL K f [] ns ns t m):WDg P N ops kd LL K (f+1) [] ns t m:=⟨fun c' cs' e _=>(by cases e),h⟩
theorem wm_nil{f:Nat}{cs ns:List Nat}:WGm P N ops kd LL K f cs ns [] t m:=fun n hn=>by cases hn
theorem wm_cons{f n:Nat}{cs ns ns' l:List Nat}(h1:WGo P N ops kd LL n t m fun t m=>WDg P N ops kd LL K f cs ns' t m)(h:WGm P N ops kd LL K f cs ns l t m)(he:ns.erase n=ns':=by first|exact rfl|fail):WGm P N ops kd LL K f cs ns (n::l) t m:=by
  subst he
  intro k hk
  rcases List.mem_cons.1 hk with rfl|hk
  · exact h1
  · exact h k hk
theorem wg_op{R:List (Nat×V)→Mem→Prop}{i d:Nat}{op:Op}{ty:TypeId}{pos:String}{af:Array Edge}{g:Option (Nat×Bool)}{p:Prop}{v:V}{m':Mem}(h:R ((d,v)::t) m')(hi:ops[i]?=some ⟨some d,op,ty,pos,af,g⟩:=by first|exact rfl|fail)(hd:dOkB N (some d)=true:=by first|exact rfl|fail)(hev:evA P t m op=some (p,v,m'):=by first|exact ev_|fail)(hp:p:=by first|exact trivial|assumption|omega)
    (hk:kOk P LL (kd i) t op m m' v:=by first|(simp [kOk,isPure,isFresh,isRd,isLd,V.det,detL];done)|(refine Or.inr (Or.inr ⟨_,_,_,_,_,rfl,Or.inr ⟨lk_,Or.inl ?_⟩⟩);simp only [List.length_append,List.length_cons,List.length_nil];omega)|(exact Or.inr (Or.inr ⟨_,_,_,0,0,rfl,Or.inl lk_⟩))|(refine Or.inr (Or.inr ⟨_,_,_,_,_,rfl,Or.inr ⟨lk_,Or.inr ⟨_,ev_,?_⟩⟩⟩);rfl)):WGo P N ops kd LL i t m R:=by
  refine⟨_,hi,dOk_b hd,?_⟩
  dsimp only
  split
  · rename_i fo args ts
    exfalso
    have:evA P t m (.call ⟨.value fo,args,ts⟩)=none:=rfl
    rw [this] at hev
    cases hev
  · rw [hev]
    exact⟨hp,hk,h⟩
end
end Go.Proofs.YtomkbpoicjabfaaGreatDoor
namespace Go.Proofs.YtomkbpoicjabfaaGreatDoor
open Go.RowKit

theorem After.objTurn{w w':World}{ρ:List Re}{m:Mem}(h:RelM w ρ m){b:Nat}{vs:List V}{φ φ':Nat→Obj→List Value→Prop}(hb:m[b]?=some (.obj .own vs φ)){r:Re}(hr:ρ[b]?=some r)
    (hos:w'.os=w.os) (htp:w'.tape=w.tape) (hou:w'.output=w.output) (hz:w'.heap.size=w.heap.size) (hk:∀ k,k≠r.blk→w'.heap[k]?=w.heap[k]?) {o':Obj} (ho':w'.heap[r.blk]?=some o') (hd:∀ d,o'≠ .deferred d) (hφ:∀ xs o,w.heap[r.blk]?=some o→φ r.blk o xs→φ' r.blk o' xs):
    After w ρ m w' ρ (m.set b (.obj .own vs φ')):=by
  have hown:owned m ρ r.blk:=⟨b,_,r,hb,rfl,hr,rfl⟩
  refine⟨⟨hos,htp,hou,Nat.le_of_eq hz.symm,fun k _ hn=>hk k fun e=>hn (e ▸ hown)⟩,fun _ _ h=>h,h.objTurn (by decide) (by decide) hb hr hz hk ho' hd hφ,fun k _ ho=>?_,fun k _ ho=>?_⟩
  · exact owned_set_obj (p:=Blk.own) (blk':= .obj .own vs φ') hb rfl ho
  · exact owned_set_obj (p:=Blk.bad) (blk':= .obj .own vs φ') hb rfl ho

section
variable {P:Program} {t:List (Nat×V)} {m:Mem} {K:V→Mem→Prop}
end
section
variable {P:Program} {N:Nat} {t:List (Nat×V)} {m m':Mem} {Q:List (Nat×V)→Mem→Prop} {ops:Array Oper} {rest:List Oper} {k:Option Nat} {ty:TypeId} {pos:String} {af:Array Edge}
theorem WOs_x{op:Op}(hd:dOk N k)(hc:(∀ f args ts,op≠ .call ⟨.value f,args,ts⟩))(he:evA P t m op=none)(hv:cvStr P t op=none)(h:XOp P t m op fun v m'=>WOs P N ops rest (tput t k v) m' Q):WOs P N ops (⟨k,op,ty,pos,af,none⟩::rest) t m Q:=by
  simp only [WOs,WOp]
  refine⟨hd,?_⟩
  split
  · rename_i heq;rw [he] at heq;cases heq
  · rw [hv];exact h
end
end Go.Proofs.YtomkbpoicjabfaaGreatDoor
namespace Go.Proofs.YtomkbpoicjabfaaGreatDoor
open Go.RowKit
section
variable {P:Program} {N:Nat} {ops:Array Oper} {rest:List Oper} {kd:Nat→Kd} {LL:Lim} {is:List El} {t:List (Nat×V)} {m:Mem} {Q:List (Nat×V)→Mem→Prop} {f:Operand} {l:List Operand} {ts:Array TypeId} {ty:TypeId} {pos:String} {af:Array Edge} {vs:List V} {d lp:Nat}
theorem s_yld(hy:YieldA P lp vs m (fun v mo=>WOs P N ops rest ((d,v)::t) (mo.getD m) Q))(hd:dOkB N (some d)=true:=by first|exact rfl|fail)(hf:evO t f= .clo (.yield lp) [] []:=by first|exact lk_|fail)(ha:l.map (evO t)=vs:=by first|exact lk_|fail):WOs P N ops (⟨some d,.call ⟨.value f,l.toArray,ts⟩,ty,pos,af,none⟩::rest) t m Q:=by
  subst ha
  refine⟨dOk_b hd,?_⟩
  simp only [hf]
  show YieldA P lp (l.toArray.toList.map (evO t)) m (fun v mo=>WOs P N ops rest ((d,v)::t) (mo.getD m) Q)
  simpa using hy
theorem YieldA.mono{m:Mem}{R R':V→Option Mem→Prop}(h:YieldA P lp vs m R)(hR:∀ v mo,R v mo→R' v mo):YieldA P lp vs m R':=by
  intro F hF w ρ xs h1 h2
  obtain⟨fn,tmps,asg,bd,g1,g2⟩:=h F hF w ρ xs h1 h2
  refine⟨fn,tmps,asg,bd,g1,g2.mono ?_⟩
  rintro e w' ⟨v,mo,x,k1,k2,k3⟩
  exact⟨v,mo,x,k1,hR v mo k2,k3⟩
theorem CallA_inD{fi:FuncId}{fn:Func}{c:Code}{n:Nat}{rs:Array ResultVar}{M:Mem}{R:V→Option Mem→Prop}(hf:P.funcs[fi]?=some fn)(hb:fn.body=some c)(hN:fn.ntmps=n)(hr:fn.results=rs)(hg:isGo P fi=true)(hn:vs.length≤n)
    (h:∀ (Q:Exit→List (Nat×V)→Mem→Prop),(∀ e t m',(e= .normal∨e= .ret)→∀ v,resV P t m' rs.toList=some v→R v (some m')→Q e t m')→WA P n c (argT 0 vs) M Q):CallA P fi vs M R:=by
  subst hN;subst hr
  refine CallA_introD hf hb hg hn (h _ ?_)
  intro e t m' he v hres hR
  refine⟨he,?_⟩
  rw [hres]
  exact hR
/-- a range over a function, by what holds behind it -/
theorem WA_rf{N:Nat}{g:Operand}{ps:Array Tmp}{assign body:Code}{t:List (Nat×V)}{m:Mem}{Q:Exit→List (Nat×V)→Mem→Prop}{f:FuncId}{fs cs:List V}(Rn:Mem→Prop)(Rp:Code→Mem→Prop)
    (h:∀ l,CallA P f (fs++ .clo (.yield l) [] []::cs) (m++[LoopB l N t ps assign body .ready none]) (fun _ mo=>∃ st pend m',mo=some m'∧m'[m.length]?=some (LoopB l N t ps assign body st pend)∧st≠ .busy∧(pend=none→Rn (m'.set m.length .dead))∧∀ c,pend=some c→Rp c (m'.set m.length .dead)))
    (hn:∀ m',Rn m'→Q .normal t m') (hp:∀ c m',Rp c m'→WA P N c t m' Q) (hg:evO t g= .clo (.func f) fs cs:=by first|exact lk_|fail):WA P N (.rangeFunc g ps assign body) t m Q:=by
  refine WA_rangeFunc h ?_ hg
  rintro l v mo ⟨st,pend,m',rfl,h1,h2,h3,h4⟩
  exact⟨st,pend,h1,h2,fun e=>hn _ (h3 e),fun c e=>hp c _ (h4 c e)⟩
theorem YieldA_in{l N:Nat}{t:List (Nat×V)}{ps:Array Tmp}{assign body:Code}{M1 X:Mem}{vs:List V}{R:V→Option Mem→Prop}(hv:vs.length=ps.size)(hp:∀ p∈ps.toList,p<N)(ht:t.all (fun p=>decide (p.1<N))=true)
    (h:WA P N assign (setPs t ps.toList vs) (M1++LoopL l N t ps assign body::X) (fun e t1 m1=>e= .normal∧m1[M1.length]?=some (LoopL l N t ps assign body)∧WA P N body t1 m1 (roundQ l N t ps assign body M1.length R))):YieldA P l vs (M1++LoopB l N t ps assign body .ready none::X) R:=by
  refine YieldA_intro (b:=M1.length) (assign:=assign) (body:=body) (t:=t) (by simp) hv hp ht ?_
  have e:(M1++LoopB l N t ps assign body .ready none::X).set M1.length (LoopL l N t ps assign body)=M1++LoopL l N t ps assign body::X:=by
    rw [List.set_append_right _ _ (Nat.le_refl _),Nat.sub_self];rfl
  rw [e]
  exact h
/-- a loop whose rounds leave the memory's beginning as it is -/
theorem WA_whileP{N:Nat}{t:List (Nat×V)}{m:Mem}{c:Code}{Q:Exit→List (Nat×V)→Mem→Prop}{σ:Type}{M:Mem}(ks:List Nat)(st:σ→List V)(E:σ→Mem)(k:Nat)(inv:σ→Prop)(μ:σ→Nat)(s0:σ)(h0:inv s0)(ht:ks.map (tget t)=st s0)(hm:m=M++E s0)
    (hlen:∀ s,(E s).length=k) (hst:∀ s s',inv s→inv s'→conS (M.length+k) (st s) (st s')) (hb:∀ s s',inv s→inv s'→conB (E s) (E s'))
    (hr:∀ s,inv s→∀ K:List (Nat×V)→Mem→Prop,(∀ s' t' m' ext,ks.map (tget t')=st s'→m'=M++(E s'++ext)→inv s'→μ s'<μ s→K t' m')→WA P N c (zipT ks (st s)) (M++E s) (qThen K Q)):WA P N (.loop c) t m Q:=by
  have hml:m.length=M.length+k:=by rw [hm,List.length_append,hlen]
  refine WA_whileD2 ks st (fun s=>M++E s) inv μ s0 h0 ht hm (fun s=>by rw [List.length_append,hlen,hml]) (fun s s' h1 h2=>by rw [hml];exact hst s s' h1 h2) ?_ (fun s hs K hK=>hr s hs K fun s' t' m' ext e1 e2 e3 e4=>hK s' t' m' ext e1 (by rw [e2,List.append_assoc]) e3 e4)
  intro s s' b blk h1 h2 h
  rcases Nat.lt_or_ge b M.length with hl|hl
  · rw [List.getElem?_append_left hl] at h
    exact .inr (by rw [List.getElem?_append_left hl];exact h)
  · rw [List.getElem?_append_right hl] at h
    rcases conB_get (hb s s' h1 h2) _ _ h with q|q
    · exact .inl q
    · exact .inr (by rw [List.getElem?_append_right hl];exact q)
theorem nextP_{σ:Type}{ks:List Nat}{st:σ→List V}{M:Mem}{E:σ→Mem}{inv:σ→Prop}{lt:σ→Prop}{K:List (Nat×V)→Mem→Prop}{t:List (Nat×V)}{m:Mem}(hL:∀ s' t' m' ext,ks.map (tget t')=st s'→m'=M++(E s'++ext)→inv s'→lt s'→K t' m')(s':σ)(hi:inv s')(hl:lt s'){ext:Mem}(ht:ks.map (tget t)=st s':=by first|exact tv_|fail)(hm:m=M++(E s'++ext):=by first|exact rfl|fail):K t m:=hL s' t m ext ht hm hi hl
end
/-- how a round ends: the record (ready, within a round, done) told by names -/
def rndQ(LB LL:Blk)(LD:Code→Blk)(b:Nat)(R:V→Option Mem→Prop):Exit→List (Nat×V)→Mem→Prop
  | .normal,_,m=>m[b]?=some LL∧R (.bool true) (some (m.set b LB))
  | .ret,_,m=>m[b]?=some LL∧R (.bool false) (some (m.set b (LD .ret)))
  | .exit id,_,m=>m[b]?=some LL∧R (.bool false) (some (m.set b (LD (.exit id))))
  |_,_,_=>False
/-- what a yield does, the loop's record told by names -/
def YldS(P:Program)(l N:Nat)(t:List (Nat×V))(ps:Array Tmp)(assign body:Code)(LB LL:Blk)(LD:Code→Blk):Prop:=
  ∀ (M1 X:Mem) (vs:List V) (R:V→Option Mem→Prop),vs.length=ps.size→WA P N assign (setPs t ps.toList vs) (M1++LL::X) (fun e t1 m1=>e= .normal∧m1[M1.length]?=some LL∧WA P N body t1 m1 (rndQ LB LL LD M1.length R))→YieldA P l vs (M1++LB::X) R
theorem WA_rfA{P:Program}{N:Nat}{g:Operand}{ps:Array Tmp}{assign body:Code}{t:List (Nat×V)}{m:Mem}{Q:Exit→List (Nat×V)→Mem→Prop}{f:FuncId}{fs cs:List V}(Rn:Mem→Prop)(Rp:Code→Mem→Prop)
    (h:∀ (l:Nat) (LB LL:Blk) (LD:Code→Blk),YldS P l N t ps assign body LB LL LD→CallA P f (fs++ .clo (.yield l) [] []::cs) (m++[LB]) (fun _ mo=>∃ m',mo=some m'∧((m'[m.length]?=some LB∧Rn (m'.set m.length .dead))∨∃ c,m'[m.length]?=some (LD c)∧Rp c (m'.set m.length .dead))))
    (hn:∀ m',Rn m'→Q .normal t m') (hp:∀ c m',Rp c m'→WA P N c t m' Q) (hg:evO t g= .clo (.func f) fs cs:=by first|exact lk_|fail) (hps:∀ p∈ps.toList,p<N:=by simp) (ht:t.all (fun p=>decide (p.1<N))=true:=by rfl):WA P N (.rangeFunc g ps assign body) t m Q:=by
  refine WA_rf Rn Rp (fun l=>(h l (LoopB l N t ps assign body .ready none) (LoopL l N t ps assign body) (fun c=>LoopB l N t ps assign body .done (some c)) ?_).mono ?_) hn hp hg
  · intro M1 X vs R hv hw
    refine YieldA_in hv hps ht (WA_mono hw ?_)
    rintro e t1 m1 ⟨h1,h2,h3⟩
    refine⟨h1,h2,WA_mono h3 ?_⟩
    intro e t2 m2 h4
    cases e<;>exact h4
  · rintro v mo ⟨m',rfl,h1⟩
    rcases h1 with ⟨h2,h3⟩|⟨c,h2,h3⟩
    · exact⟨_,_,m',rfl,h2,by decide,fun _=>h3,fun c hc=>by cases hc⟩
    · exact⟨_,_,m',rfl,h2,by decide,(fun hc=>by cases hc),fun c' hc=>by cases hc;exact h3⟩
theorem rndQ_nrm{LB LL:Blk}{LD:Code→Blk}{b:Nat}{t':List (Nat×V)}{A X M:Mem}{R:V→Option Mem→Prop}(hM:M=A++LL::X)(hb:A.length=b)(h:R (.bool true) (some (A++LB::X))):rndQ LB LL LD b R .normal t' M:=by
  subst hb;subst hM
  refine⟨by simp,?_⟩
  rw [List.set_append_right _ _ (Nat.le_refl _),Nat.sub_self]
  exact h
theorem rndQ_ret{LB LL:Blk}{LD:Code→Blk}{b:Nat}{t':List (Nat×V)}{A X M:Mem}{R:V→Option Mem→Prop}(hM:M=A++LL::X)(hb:A.length=b)(h:R (.bool false) (some (A++LD .ret::X))):rndQ LB LL LD b R .ret t' M:=by
  subst hb;subst hM
  refine⟨by simp,?_⟩
  rw [List.set_append_right _ _ (Nat.le_refl _),Nat.sub_self]
  exact h
theorem conB_refl:∀ (m:Mem),conB m m
  |[]=>trivial
  |_::r=>⟨.inr rfl,conB_refl r⟩
section
variable {P:Program} {N:Nat} {t:List (Nat×V)} {m:Mem} {Q:List (Nat×V)→Mem→Prop} {ops:Array Oper} {rest:List Oper} {k:Option Nat} {ty:TypeId} {pos:String} {af:Array Edge}
end
end Go.Proofs.YtomkbpoicjabfaaGreatDoor
namespace Go.Proofs.YtomkbpoicjabfaaGreatDoor
open Go.RowKit
section
variable {P:Program} {N:Nat} {t:List (Nat×V)} {m:Mem} {Q:List (Nat×V)→Mem→Prop} {ops:Array Oper} {rest:List Oper} {k:Option Nat} {ty:TypeId} {pos:String} {af:Array Edge}
theorem x_ni{op:BinOp}{T T':TypeId}{x:Operand}{c:Value}{r:Bool}{K:V→Mem→Prop}(ho:resEq op true=some (.bool r))(hx:evO t x= .nilif)(hc:c= .nilIface)(hT:kdT P T=6)(h:K (.bool r) m):XOp P t m (.binOp op T x (.const c) T') K:=by
  refine⟨fun c=>by simp,fun w ρ a o ho' hM hTm=>?_⟩
  obtain⟨e,hu⟩:=kdT_6 hT
  have hrx:=evO_rel hTm x;rw [hx] at hrx
  subst hc
  have key:∃ z:Value,(do eqGuard op T x (.const .nilIface) (a.eval x) (a.eval (.const .nilIface));binOp op T (a.eval x) (a.eval (.const .nilIface)):Sem Value).run P w= .ok z w∧RelV w ρ (bad m ρ) (.bool r) z:=by
    generalize a.eval x=ex at hrx
    cases hrx
    refine eq_fin (op:=op) ho ?_ ?_ ?_
    · exact run_equal_of fun d=>by simp only [Act.eval,Op.equalIn,Sem.run_bind,run_underlying hu,Result.andThen_ok,Sem.run_pure]<;>rfl
    · cases op<;>simp [resEq] at ho<;>simp [eqGuard,go_sem]
    · rintro op (rfl|rfl)<;>simp [binOp]
  obtain⟨z,hr,hv⟩:=key
  refine⟨.value z,w,.bool r,m,ρ,?_,h,After.refl hM,.inl ⟨_,rfl,hv⟩⟩
  simp only [execOp,ho']
  exact run_v hr
theorem s_niN{T T':TypeId}{x:Operand}{c:Value}(h:WOs P N ops rest (tput t k (.bool false)) m Q)(hd:dOkB N k=true:=by first|exact rfl|fail)(hx:evO t x= .nilif:=by first|exact lk_|fail)(hc:c= .nilIface:=by first|exact rfl|fail)(hT:kdT P T=6:=by first|kernel_rfl|fail):WOs P N ops (⟨k,.binOp .neq T x (.const c) T',ty,pos,af,none⟩::rest) t m Q:=by
  refine WOs_x (dOk_b hd) (by simp) ?_ rfl (x_ni (r:=false) rfl hx hc hT h)
  subst hc
  rw [ev_binOp,hx]
  rfl
theorem s_ifN{T T':TypeId}{x y:Operand}(h:WOs P N ops rest (tput t k (.bool true)) m Q)(hd:dOkB N k=true:=by first|exact rfl|fail)(hx:evO t x= .ifv:=by first|exact lk_|fail)(hy:evO t y= .nilif:=by first|exact lk_|fail)(hT:kdT P T=6:=by first|kernel_rfl|fail):WOs P N ops (⟨k,.binOp .neq T x y T',ty,pos,af,none⟩::rest) t m Q:=
  op_of (dOk_b hd) (p:=True) (m':=m) (by rw [ev_binOp,hx,hy];simp [evB,evEq,eqV,hT]) trivial h
/-- 'string([]byte{c})' -/
theorem x_bk{S D e:TypeId}{x:Operand}{b:Nat}{c:UInt8}{z:Int}{st:Sta}{T:TypeId}{K:V→Mem→Prop}(hx:evO t x= .sl b 1)(hb:m[b]?=some (.cells st T 1 [[V.int .u8 z]]))(hz:z=(c.toNat:Int))(hS:P.underlying S=some (.slice e))(hE:P.underlying e=some (.int .u8))(hD:P.underlying D=some .string)(h:K (.str [c]) m):
    XOp P t m (.convert S D x) K:=by
  refine⟨fun c=>by simp,fun w ρ a o ho' hM hTm=>?_⟩
  have hrx:=evO_rel hTm x;rw [hx] at hrx
  subst hz
  obtain⟨r,cur,hr,hs, -,hh, -, -, -, -,hv⟩:=hM.cells b _ _ _ _ hb
  obtain⟨-,y,hy,hry⟩:=hv 0 0 _ _ rfl rfl
  refine⟨.value (.string ⟨#[c]⟩),w,.str [c],m,ρ,?_,h,After.refl hM,.inl ⟨_,rfl,.str _ _ rfl⟩⟩
  simp only [execOp,ho']
  generalize a.eval x=ex at hrx
  cases hrx with
  | sl _ _ r' hr' hn hm=>
    obtain rfl:r=r':=by rw [hr] at hr';injection hr'
    cases hry
    refine run_v (run_convert_bytes_back w S D e ⟨r.blk,0,none⟩ r.cap [c] hS hE hD fun j hj=>?_)
    have hj0:j=0:=by simpa using hj
    subst hj0
    simp only [Nat.zero_mul,Nat.zero_add] at hy
    simp [World.cell?,Addr.add,hh,hy]
theorem s_bk {S D:TypeId} {x:Operand} {b:Nat} {c:UInt8} {z:Int} {st:Sta} {T:TypeId} (h:WOs P N ops rest (tput t k (.str [c])) m Q) (hz:z=(c.toNat:Int)) (hx:evO t x= .sl b 1) (hb:m[b]?=some (.cells st T 1 [[V.int .u8 z]])) (hd:dOkB N k=true) (hT:bytesT P D S=true):WOs P N ops (⟨k,.convert S D x,ty,pos,af,none⟩::rest) t m Q:=by
  have hh:∃ e,P.underlying S=some (.slice e)∧P.underlying e=some (.int .u8)∧P.underlying D=some .string:=by
    unfold bytesT at hT
    split at hT
    · rename_i e h1 h2
      split at hT
      · rename_i h3
        exact⟨e,h2,h3,h1⟩
      · cases hT
    · cases hT
  obtain⟨e,hS,hE,hD⟩:=hh
  refine WOs_x (dOk_b hd) (by simp) ?_ ?_ (x_bk hx hb hz hS hE hD h)
  · simp only [evA,hx]
    split<;>first|rfl|(rename_i q;cases q)
  · simp only [cvStr,hx]
end
end Go.Proofs.YtomkbpoicjabfaaGreatDoor
namespace Go.Proofs.YtomkbpoicjabfaaGreatDoor
open Go.RowKit
abbrev Txt:=List UInt8
def nsV(l:List Int):List (List V):=l.map fun n=>[V.int .i64 n]
theorem lst_get{α:Type}{l:List α}{d:α}{i:Nat}(h:i<l.length):l[i]?=some (l.getD i d):=by
  rw [List.getD_eq_getElem?_getD,List.getElem?_eq_getElem h];rfl
theorem nsV_length{l:List Int}:(nsV l).length=l.length:=by simp [nsV]
theorem nsV_get{l:List Int}{i:Nat}(h:i<l.length):(nsV l)[i]?=some [V.int .i64 (l.getD i 0)]:=by
  unfold nsV;rw [List.getElem?_map,lst_get (d:=0) h];rfl
theorem nsV_all{l:List Int}{n:Nat}(h:n=1):(nsV l).all (fun e=>e.length==n)=true:=by subst h;simp [nsV]
theorem plainLL_of{es:List (List V)}(h:∀ e∈es,plainL e=true):plainLL es=true:=by
  induction es with
  |nil=>rfl
  |cons x xs ih=>simp only [plainLL,Bool.and_eq_true];exact⟨h x List.mem_cons_self,ih fun e he=>h e (List.mem_cons_of_mem _ he)⟩
theorem nsV_plain(l:List Int):plainLL (nsV l)=true:=plainLL_of fun e he=>by obtain⟨x,_,rfl⟩:=List.mem_map.1 he;rfl
end Go.Proofs.YtomkbpoicjabfaaGreatDoor
