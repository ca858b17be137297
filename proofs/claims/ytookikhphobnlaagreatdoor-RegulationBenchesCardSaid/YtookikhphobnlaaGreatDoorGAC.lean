import Derived.Test.YtookikhphobnlaaGreatDoorYC
import Derived.Test.YtookikhphobnlaaGreatDoorFY
import Derived.Test.YtookikhphobnlaaGreatDoorGAB
set_option linter.unusedSimpArgs false
set_option linter.unusedVariables false
/- a yield, as a step of a walk -/
namespace Go.Proofs.YtookikhphobnlaaGreatDoor
open Go.RowKit
section
variable {P:Program} {N:Nat} {ops:Array Oper} {rest:List Oper} {kd:Nat→Kd} {LL:Lim} {is:List El} {t:List (Nat×V)} {m:Mem} {Q:List (Nat×V)→Mem→Prop} {f:Operand} {l:List Operand} {ts:Array TypeId} {ty:TypeId} {pos:String} {af:Array Edge} {vs:List V} {d lp:Nat}
theorem s_yld(hy:YieldA P lp vs m (fun v mo=>WOs P N ops rest ((d,v)::t) (mo.getD m) Q))(hd:dOkB N (some d)=true:=by first|exact rfl|fail)(hf:evO t f= .clo (.yield lp) [] []:=by first|exact lk_|fail)(ha:l.map (evO t)=vs:=by first|exact lk_|fail):WOs P N ops (⟨some d,.call ⟨.value f,l.toArray,ts⟩,ty,pos,af,none⟩::rest) t m Q:=by
  subst ha
  refine⟨dOk_b hd,?_⟩
  simp only [hf]
  show YieldA P lp (l.toArray.toList.map (evO t)) m (fun v mo=>WOs P N ops rest ((d,v)::t) (mo.getD m) Q)
  simpa using hy
theorem d_yldY{i j e:Nat}{want:Bool}(hy:YieldA P lp vs m (fun v mo=>WDs P N ops kd LL is ((d,v)::t) (mo.getD m) Q))(hi:ops[i]?=some ⟨some d,.call ⟨.value f,l.toArray,ts⟩,ty,pos,af,some (j,want)⟩:=by first|exact rfl|fail)(hj:(ops[j]?).bind (·.dst)=some e:=by first|exact rfl|fail)(ht:tget t e= .bool want:=by first|exact lk_|fail)
    (hd:dOkB N (some d)=true:=by first|exact rfl|fail) (hf:evO t f= .clo (.yield lp) [] []:=by first|exact lk_|fail) (ha:l.map (evO t)=vs:=by first|exact lk_|fail) (hk:kd i= .w:=by first|exact rfl|fail):DG P N ops kd LL i is t m Q:=by
  subst ha
  unfold DG WDs
  simp only [hi,hj,ht]
  refine⟨fun _=>⟨dOk_b hd,?_⟩,fun hn=>(hn trivial).elim⟩
  simp only [hf]
  refine⟨hk,?_⟩
  show YieldA P lp (l.toArray.toList.map (evO t)) m (fun v mo=>WDs P N ops kd LL is ((d,v)::t) (mo.getD m) Q)
  simpa using hy
theorem YieldA.mono{m:Mem}{R R':V→Option Mem→Prop}(h:YieldA P lp vs m R)(hR:∀ v mo,R v mo→R' v mo):YieldA P lp vs m R':=by
  intro F hF w ρ xs h1 h2
  obtain⟨fn,tmps,asg,bd,g1,g2⟩:=h F hF w ρ xs h1 h2
  refine⟨fn,tmps,asg,bd,g1,g2.mono ?_⟩
  rintro e w' ⟨v,mo,x,k1,k2,k3⟩
  exact⟨v,mo,x,k1,hR v mo k2,k3⟩
theorem CallA_inD{fi:FuncId}{fn:Func}{c:Code}{n:Nat}{rs:Array ResultVar}{M:Mem}{R:V→Option Mem→Prop}(hf:P.funcs[fi]?=some fn)(hb:fn.body=some c)(hN:fn.ntmps=n)(hr:fn.results=rs)(hg:isGo P fi=true)(hn:vs.length≤n)
    (h:∀ (Q:Exit→List (Nat×V)→Mem→Prop),(∀ e t m',(e= .normal∨e= .ret)→∀ v,resV P t m' rs.toList=some v→R v (some m')→Q e t m')→WA P n c (argT 0 vs) M Q):CallA P fi vs M R:=by
  subst hN;subst hr
  refine CallA_introD hf hb hg hn (h _ ?_)
  intro e t m' he v hres hR
  refine⟨he,?_⟩
  rw [hres]
  exact hR
/-- a range over a function, by what holds behind it -/
theorem WA_rf{N:Nat}{g:Operand}{ps:Array Tmp}{assign body:Code}{t:List (Nat×V)}{m:Mem}{Q:Exit→List (Nat×V)→Mem→Prop}{f:FuncId}{fs cs:List V}(Rn:Mem→Prop)(Rp:Code→Mem→Prop)
    (h:∀ l,CallA P f (fs++ .clo (.yield l) [] []::cs) (m++[LoopB l N t ps assign body .ready none]) (fun _ mo=>∃ st pend m',mo=some m'∧m'[m.length]?=some (LoopB l N t ps assign body st pend)∧st≠ .busy∧(pend=none→Rn (m'.set m.length .dead))∧∀ c,pend=some c→Rp c (m'.set m.length .dead)))
    (hn:∀ m',Rn m'→Q .normal t m') (hp:∀ c m',Rp c m'→WA P N c t m' Q) (hg:evO t g= .clo (.func f) fs cs:=by first|exact lk_|fail):WA P N (.rangeFunc g ps assign body) t m Q:=by
  refine WA_rangeFunc h ?_ hg
  rintro l v mo ⟨st,pend,m',rfl,h1,h2,h3,h4⟩
  exact⟨st,pend,h1,h2,fun e=>hn _ (h3 e),fun c e=>hp c _ (h4 c e)⟩
theorem YieldA_in{l N:Nat}{t:List (Nat×V)}{ps:Array Tmp}{assign body:Code}{M1 X:Mem}{vs:List V}{R:V→Option Mem→Prop}(hv:vs.length=ps.size)(hp:∀ p∈ps.toList,p<N)(ht:t.all (fun p=>decide (p.1<N))=true)
    (h:WA P N assign (setPs t ps.toList vs) (M1++LoopL l N t ps assign body::X) (fun e t1 m1=>e= .normal∧m1[M1.length]?=some (LoopL l N t ps assign body)∧WA P N body t1 m1 (roundQ l N t ps assign body M1.length R))):YieldA P l vs (M1++LoopB l N t ps assign body .ready none::X) R:=by
  refine YieldA_intro (b:=M1.length) (assign:=assign) (body:=body) (t:=t) (by simp) hv hp ht ?_
  have e:(M1++LoopB l N t ps assign body .ready none::X).set M1.length (LoopL l N t ps assign body)=M1++LoopL l N t ps assign body::X:=by
    rw [List.set_append_right _ _ (Nat.le_refl _),Nat.sub_self];rfl
  rw [e]
  exact h
/-- a loop whose rounds leave the memory's beginning as it is -/
theorem WA_whileP{N:Nat}{t:List (Nat×V)}{m:Mem}{c:Code}{Q:Exit→List (Nat×V)→Mem→Prop}{σ:Type}{M:Mem}(ks:List Nat)(st:σ→List V)(E:σ→Mem)(k:Nat)(inv:σ→Prop)(μ:σ→Nat)(s0:σ)(h0:inv s0)(ht:ks.map (tget t)=st s0)(hm:m=M++E s0)
    (hlen:∀ s,(E s).length=k) (hst:∀ s s',inv s→inv s'→conS (M.length+k) (st s) (st s')) (hb:∀ s s',inv s→inv s'→conB (E s) (E s'))
    (hr:∀ s,inv s→∀ K:List (Nat×V)→Mem→Prop,(∀ s' t' m' ext,ks.map (tget t')=st s'→m'=M++(E s'++ext)→inv s'→μ s'<μ s→K t' m')→WA P N c (zipT ks (st s)) (M++E s) (qThen K Q)):WA P N (.loop c) t m Q:=by
  have hml:m.length=M.length+k:=by rw [hm,List.length_append,hlen]
  refine WA_whileD2 ks st (fun s=>M++E s) inv μ s0 h0 ht hm (fun s=>by rw [List.length_append,hlen,hml]) (fun s s' h1 h2=>by rw [hml];exact hst s s' h1 h2) ?_ (fun s hs K hK=>hr s hs K fun s' t' m' ext e1 e2 e3 e4=>hK s' t' m' ext e1 (by rw [e2,List.append_assoc]) e3 e4)
  intro s s' b blk h1 h2 h
  rcases Nat.lt_or_ge b M.length with hl|hl
  · rw [List.getElem?_append_left hl] at h
    exact .inr (by rw [List.getElem?_append_left hl];exact h)
  · rw [List.getElem?_append_right hl] at h
    rcases conB_get (hb s s' h1 h2) _ _ h with q|q
    · exact .inl q
    · exact .inr (by rw [List.getElem?_append_right hl];exact q)
theorem nextP_{σ:Type}{ks:List Nat}{st:σ→List V}{M:Mem}{E:σ→Mem}{inv:σ→Prop}{lt:σ→Prop}{K:List (Nat×V)→Mem→Prop}{t:List (Nat×V)}{m:Mem}(hL:∀ s' t' m' ext,ks.map (tget t')=st s'→m'=M++(E s'++ext)→inv s'→lt s'→K t' m')(s':σ)(hi:inv s')(hl:lt s'){ext:Mem}(ht:ks.map (tget t)=st s':=by first|exact tv_|fail)(hm:m=M++(E s'++ext):=by first|exact rfl|fail):K t m:=hL s' t m ext ht hm hi hl
theorem roundQ_ret{l N b:Nat}{t t':List (Nat×V)}{ps:Array Tmp}{assign body:Code}{A X M:Mem}{R:V→Option Mem→Prop}(hM:M=A++LoopL l N t ps assign body::X)(hb:A.length=b)(h:R (.bool false) (some (A++LoopB l N t ps assign body .done (some .ret)::X))):roundQ l N t ps assign body b R .ret t' M:=by
  subst hb;subst hM
  refine⟨by simp,?_⟩
  rw [List.set_append_right _ _ (Nat.le_refl _),Nat.sub_self]
  exact h
end
/-- how a round ends: the record (ready, within a round, done) told by names -/
def rndQ(LB LL:Blk)(LD:Code→Blk)(b:Nat)(R:V→Option Mem→Prop):Exit→List (Nat×V)→Mem→Prop
  | .normal,_,m=>m[b]?=some LL∧R (.bool true) (some (m.set b LB))
  | .ret,_,m=>m[b]?=some LL∧R (.bool false) (some (m.set b (LD .ret)))
  | .exit id,_,m=>m[b]?=some LL∧R (.bool false) (some (m.set b (LD (.exit id))))
  |_,_,_=>False
/-- what a yield does, the loop's record told by names -/
def YldS(P:Program)(l N:Nat)(t:List (Nat×V))(ps:Array Tmp)(assign body:Code)(LB LL:Blk)(LD:Code→Blk):Prop:=
  ∀ (M1 X:Mem) (vs:List V) (R:V→Option Mem→Prop),vs.length=ps.size→WA P N assign (setPs t ps.toList vs) (M1++LL::X) (fun e t1 m1=>e= .normal∧m1[M1.length]?=some LL∧WA P N body t1 m1 (rndQ LB LL LD M1.length R))→YieldA P l vs (M1++LB::X) R
theorem WA_rfA{P:Program}{N:Nat}{g:Operand}{ps:Array Tmp}{assign body:Code}{t:List (Nat×V)}{m:Mem}{Q:Exit→List (Nat×V)→Mem→Prop}{f:FuncId}{fs cs:List V}(Rn:Mem→Prop)(Rp:Code→Mem→Prop)
    (h:∀ (l:Nat) (LB LL:Blk) (LD:Code→Blk),YldS P l N t ps assign body LB LL LD→CallA P f (fs++ .clo (.yield l) [] []::cs) (m++[LB]) (fun _ mo=>∃ m',mo=some m'∧((m'[m.length]?=some LB∧Rn (m'.set m.length .dead))∨∃ c,m'[m.length]?=some (LD c)∧Rp c (m'.set m.length .dead))))
    (hn:∀ m',Rn m'→Q .normal t m') (hp:∀ c m',Rp c m'→WA P N c t m' Q) (hg:evO t g= .clo (.func f) fs cs:=by first|exact lk_|fail) (hps:∀ p∈ps.toList,p<N:=by simp) (ht:t.all (fun p=>decide (p.1<N))=true:=by rfl):WA P N (.rangeFunc g ps assign body) t m Q:=by
  refine WA_rf Rn Rp (fun l=>(h l (LoopB l N t ps assign body .ready none) (LoopL l N t ps assign body) (fun c=>LoopB l N t ps assign body .done (some c)) ?_).mono ?_) hn hp hg
  · intro M1 X vs R hv hw
    refine YieldA_in hv hps ht (WA_mono hw ?_)
    rintro e t1 m1 ⟨h1,h2,h3⟩
    refine⟨h1,h2,WA_mono h3 ?_⟩
    intro e t2 m2 h4
    cases e<;>exact h4
  · rintro v mo ⟨m',rfl,h1⟩
    rcases h1 with ⟨h2,h3⟩|⟨c,h2,h3⟩
    · exact⟨_,_,m',rfl,h2,by decide,fun _=>h3,fun c hc=>by cases hc⟩
    · exact⟨_,_,m',rfl,h2,by decide,(fun hc=>by cases hc),fun c' hc=>by cases hc;exact h3⟩
theorem rndQ_nrm{LB LL:Blk}{LD:Code→Blk}{b:Nat}{t':List (Nat×V)}{A X M:Mem}{R:V→Option Mem→Prop}(hM:M=A++LL::X)(hb:A.length=b)(h:R (.bool true) (some (A++LB::X))):rndQ LB LL LD b R .normal t' M:=by
  subst hb;subst hM
  refine⟨by simp,?_⟩
  rw [List.set_append_right _ _ (Nat.le_refl _),Nat.sub_self]
  exact h
theorem rndQ_ret{LB LL:Blk}{LD:Code→Blk}{b:Nat}{t':List (Nat×V)}{A X M:Mem}{R:V→Option Mem→Prop}(hM:M=A++LL::X)(hb:A.length=b)(h:R (.bool false) (some (A++LD .ret::X))):rndQ LB LL LD b R .ret t' M:=by
  subst hb;subst hM
  refine⟨by simp,?_⟩
  rw [List.set_append_right _ _ (Nat.le_refl _),Nat.sub_self]
  exact h
theorem conB_refl:∀ (m:Mem),conB m m
  |[]=>trivial
  |_::r=>⟨.inr rfl,conB_refl r⟩
section
variable {P:Program} {N:Nat} {t:List (Nat×V)} {m:Mem} {Q:List (Nat×V)→Mem→Prop} {ops:Array Oper} {rest:List Oper} {k:Option Nat} {ty:TypeId} {pos:String} {af:Array Edge}
/-- is an empty list nil: either -/
theorem x_nl0 {T T':TypeId} {x y:Operand} {K:V→Mem→Prop} (hx:evO t x= .lst []) (hy:evO t y= .nilsl) (hT:∃ e,P.underlying T=some (.slice e)) (h1:K (.bool true) m) (h2:K (.bool false) m):XOp P t m (.binOp .eql T x y T') K:=by
  refine⟨fun c=>by simp,fun w ρ a o ho hM hTm=>?_⟩
  obtain⟨e,hu⟩:=hT
  have hrx:=evO_rel hTm x;rw [hx] at hrx
  have hry:=evO_rel hTm y;rw [hy] at hry
  have key:∃ (r:Bool) (z:Value),(do eqGuard .eql T x y (a.eval x) (a.eval y);binOp .eql T (a.eval x) (a.eval y):Sem Value).run P w= .ok z w∧RelV w ρ (bad m ρ) (.bool r) z:=by
    generalize a.eval x=ex at hrx
    generalize a.eval y=ey at hry
    cases hry
    cases hrx with
    | lnil ad c hc ha=>
      cases ad with
      | none=>
        refine⟨true,eq_fin (op:= .eql) rfl ?_ ?_ ?_⟩
        · exact run_equal_of fun d=>by simp only [Op.equalIn,Sem.run_bind,run_underlying hu,Result.andThen_ok,Sem.run_pure]<;>rfl
        · simp [eqGuard,go_sem]
        · rintro op (rfl|rfl)<;>simp [binOp]
      | some ad=>
        refine⟨false,eq_fin (op:= .eql) rfl ?_ ?_ ?_⟩
        · exact run_equal_of fun d=>by simp only [Op.equalIn,Sem.run_bind,run_underlying hu,Result.andThen_ok,Sem.run_pure]<;>rfl
        · simp [eqGuard,go_sem]
        · rintro op (rfl|rfl)<;>simp [binOp]
    | lst _ b off c s Y=>
      refine⟨false,eq_fin (op:= .eql) rfl ?_ ?_ ?_⟩
      · exact run_equal_of fun d=>by simp only [Op.equalIn,Sem.run_bind,run_underlying hu,Result.andThen_ok,Sem.run_pure]<;>rfl
      · simp [eqGuard,go_sem]
      · rintro op (rfl|rfl)<;>simp [binOp]
  obtain⟨r,z,hr,hv⟩:=key
  refine⟨.value z,w,.bool r,m,ρ,?_,by cases r<;>assumption,After.refl hM,.inl ⟨_,rfl,hv⟩⟩
  simp only [execOp,ho]
  exact run_v hr
theorem s_nl0{T T':TypeId}{x y:Operand}(h1:WOs P N ops rest (tput t k (.bool true)) m Q)(h2:WOs P N ops rest (tput t k (.bool false)) m Q)(hd:dOkB N k=true)(hx:evO t x= .lst [])(hy:evO t y= .nilsl)(hT:∃ e,P.underlying T=some (.slice e)):WOs P N ops (⟨k,.binOp .eql T x y T',ty,pos,af,none⟩::rest) t m Q:=by
  refine WOs_x (dOk_b hd) (by simp) ?_ rfl (x_nl0 hx hy hT h1 h2)
  rw [ev_binOp,hx,hy]
  rfl
theorem s_nl1{T T':TypeId}{x y:Operand}{e:List V}{es:List (List V)}(h:WOs P N ops rest (tput t k (.bool false)) m Q)(hd:dOkB N k=true)(hx:evO t x= .lst (e::es))(hy:evO t y= .nilsl)(hT:kdT P T=2):WOs P N ops (⟨k,.binOp .eql T x y T',ty,pos,af,none⟩::rest) t m Q:=
  op_of (dOk_b hd) (p:=True) (m':=m) (by rw [ev_binOp,hx,hy];simp [evB,evEq,eqV,hT]) trivial h
theorem s_nl2{T T':TypeId}{x y:Operand}{b n:Nat}(h:WOs P N ops rest (tput t k (.bool false)) m Q)(hd:dOkB N k=true)(hx:evO t x= .sl b n)(hy:evO t y= .nilsl)(hT:kdT P T=2):WOs P N ops (⟨k,.binOp .eql T x y T',ty,pos,af,none⟩::rest) t m Q:=
  op_of (dOk_b hd) (p:=True) (m':=m) (by rw [ev_binOp,hx,hy];simp [evB,evEq,eqV,hT]) trivial h
end
end Go.Proofs.YtookikhphobnlaaGreatDoor
namespace Go.Proofs.YtookikhphobnlaaGreatDoor
open Go.RowKit
section
variable {P:Program} {N:Nat} {t:List (Nat×V)} {m:Mem} {Q:List (Nat×V)→Mem→Prop} {ops:Array Oper} {rest:List Oper} {k:Option Nat} {ty:TypeId} {pos:String} {af:Array Edge}
theorem x_ni{op:BinOp}{T T':TypeId}{x:Operand}{c:Value}{r:Bool}{K:V→Mem→Prop}(ho:resEq op true=some (.bool r))(hx:evO t x= .nilif)(hc:c= .nilIface)(hT:kdT P T=6)(h:K (.bool r) m):XOp P t m (.binOp op T x (.const c) T') K:=by
  refine⟨fun c=>by simp,fun w ρ a o ho' hM hTm=>?_⟩
  obtain⟨e,hu⟩:=kdT_6 hT
  have hrx:=evO_rel hTm x;rw [hx] at hrx
  subst hc
  have key:∃ z:Value,(do eqGuard op T x (.const .nilIface) (a.eval x) (a.eval (.const .nilIface));binOp op T (a.eval x) (a.eval (.const .nilIface)):Sem Value).run P w= .ok z w∧RelV w ρ (bad m ρ) (.bool r) z:=by
    generalize a.eval x=ex at hrx
    cases hrx
    refine eq_fin (op:=op) ho ?_ ?_ ?_
    · exact run_equal_of fun d=>by simp only [Act.eval,Op.equalIn,Sem.run_bind,run_underlying hu,Result.andThen_ok,Sem.run_pure]<;>rfl
    · cases op<;>simp [resEq] at ho<;>simp [eqGuard,go_sem]
    · rintro op (rfl|rfl)<;>simp [binOp]
  obtain⟨z,hr,hv⟩:=key
  refine⟨.value z,w,.bool r,m,ρ,?_,h,After.refl hM,.inl ⟨_,rfl,hv⟩⟩
  simp only [execOp,ho']
  exact run_v hr
theorem s_niN{T T':TypeId}{x:Operand}{c:Value}(h:WOs P N ops rest (tput t k (.bool false)) m Q)(hd:dOkB N k=true:=by first|exact rfl|fail)(hx:evO t x= .nilif:=by first|exact lk_|fail)(hc:c= .nilIface:=by first|exact rfl|fail)(hT:kdT P T=6:=by first|kernel_rfl|fail):WOs P N ops (⟨k,.binOp .neq T x (.const c) T',ty,pos,af,none⟩::rest) t m Q:=by
  refine WOs_x (dOk_b hd) (by simp) ?_ rfl (x_ni (r:=false) rfl hx hc hT h)
  subst hc
  rw [ev_binOp,hx]
  rfl
theorem s_ifN{T T':TypeId}{x y:Operand}(h:WOs P N ops rest (tput t k (.bool true)) m Q)(hd:dOkB N k=true:=by first|exact rfl|fail)(hx:evO t x= .ifv:=by first|exact lk_|fail)(hy:evO t y= .nilif:=by first|exact lk_|fail)(hT:kdT P T=6:=by first|kernel_rfl|fail):WOs P N ops (⟨k,.binOp .neq T x y T',ty,pos,af,none⟩::rest) t m Q:=
  op_of (dOk_b hd) (p:=True) (m':=m) (by rw [ev_binOp,hx,hy];simp [evB,evEq,eqV,hT]) trivial h
/-- 'string([]byte{c})' -/
theorem x_bk{S D e:TypeId}{x:Operand}{b:Nat}{c:UInt8}{z:Int}{st:Sta}{T:TypeId}{K:V→Mem→Prop}(hx:evO t x= .sl b 1)(hb:m[b]?=some (.cells st T 1 [[V.int .u8 z]]))(hz:z=(c.toNat:Int))(hS:P.underlying S=some (.slice e))(hE:P.underlying e=some (.int .u8))(hD:P.underlying D=some .string)(h:K (.str [c]) m):
    XOp P t m (.convert S D x) K:=by
  refine⟨fun c=>by simp,fun w ρ a o ho' hM hTm=>?_⟩
  have hrx:=evO_rel hTm x;rw [hx] at hrx
  subst hz
  obtain⟨r,cur,hr,hs, -,hh, -, -, -, -,hv⟩:=hM.cells b _ _ _ _ hb
  obtain⟨-,y,hy,hry⟩:=hv 0 0 _ _ rfl rfl
  refine⟨.value (.string ⟨#[c]⟩),w,.str [c],m,ρ,?_,h,After.refl hM,.inl ⟨_,rfl,.str _ _ rfl⟩⟩
  simp only [execOp,ho']
  generalize a.eval x=ex at hrx
  cases hrx with
  | sl _ _ r' hr' hn hm=>
    obtain rfl:r=r':=by rw [hr] at hr';injection hr'
    cases hry
    refine run_v (run_convert_bytes_back w S D e ⟨r.blk,0,none⟩ r.cap [c] hS hE hD fun j hj=>?_)
    have hj0:j=0:=by simpa using hj
    subst hj0
    simp only [Nat.zero_mul,Nat.zero_add] at hy
    simp [World.cell?,Addr.add,hh,hy]
theorem s_bk {S D:TypeId} {x:Operand} {b:Nat} {c:UInt8} {z:Int} {st:Sta} {T:TypeId} (h:WOs P N ops rest (tput t k (.str [c])) m Q) (hz:z=(c.toNat:Int)) (hx:evO t x= .sl b 1) (hb:m[b]?=some (.cells st T 1 [[V.int .u8 z]])) (hd:dOkB N k=true) (hT:bytesT P D S=true):WOs P N ops (⟨k,.convert S D x,ty,pos,af,none⟩::rest) t m Q:=by
  have hh:∃ e,P.underlying S=some (.slice e)∧P.underlying e=some (.int .u8)∧P.underlying D=some .string:=by
    unfold bytesT at hT
    split at hT
    · rename_i e h1 h2
      split at hT
      · rename_i h3
        exact⟨e,h2,h3,h1⟩
      · cases hT
    · cases hT
  obtain⟨e,hS,hE,hD⟩:=hh
  refine WOs_x (dOk_b hd) (by simp) ?_ ?_ (x_bk hx hb hz hS hE hD h)
  · simp only [evA,hx]
    split<;>first|rfl|(rename_i q;cases q)
  · simp only [cvStr,hx]
end
end Go.Proofs.YtookikhphobnlaaGreatDoor
