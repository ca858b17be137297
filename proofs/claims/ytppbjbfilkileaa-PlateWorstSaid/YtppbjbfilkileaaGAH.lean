import Derived.Test.YtppbjbfilkileaaYC
import Derived.Test.YtppbjbfilkileaaGAG
set_option linter.unusedSimpArgs false
set_option linter.unusedVariables false
/- a yield, as a step of a walk -/
namespace Go.Proofs.Ytppbjbfilkileaa
open Go.RowKit
section
variable {P:Program} {N:Nat} {ops:Array Oper} {rest:List Oper} {kd:Nat→Kd} {LL:Lim} {is:List El} {t:List (Nat×V)} {m:Mem} {Q:List (Nat×V)→Mem→Prop} {f:Operand} {l:List Operand} {ts:Array TypeId} {ty:TypeId} {pos:String} {af:Array Edge} {vs:List V} {d lp:Nat}
theorem s_yld(hy:YieldA P lp vs m (fun v mo=>WOs P N ops rest ((d,v)::t) (mo.getD m) Q))(hd:dOkB N (some d)=true:=by first|exact rfl|fail)(hf:evO t f= .clo (.yield lp) [] []:=by first|exact lk_|fail)(ha:l.map (evO t)=vs:=by first|exact lk_|fail):WOs P N ops (⟨some d,.call ⟨.value f,l.toArray,ts⟩,ty,pos,af,none⟩::rest) t m Q:=by
  subst ha
  refine⟨dOk_b hd,?_⟩
  simp only [hf]
  show YieldA P lp (l.toArray.toList.map (evO t)) m (fun v mo=>WOs P N ops rest ((d,v)::t) (mo.getD m) Q)
  simpa using hy
theorem YieldA.mono{m:Mem}{R R':V→Option Mem→Prop}(h:YieldA P lp vs m R)(hR:∀ v mo,R v mo→R' v mo):YieldA P lp vs m R':=by
  intro F hF w ρ xs h1 h2
  obtain⟨fn,tmps,asg,bd,g1,g2⟩:=h F hF w ρ xs h1 h2
  refine⟨fn,tmps,asg,bd,g1,g2.mono ?_⟩
  rintro e w' ⟨v,mo,x,k1,k2,k3⟩
  exact⟨v,mo,x,k1,hR v mo k2,k3⟩
theorem CallA_inD{fi:FuncId}{fn:Func}{c:Code}{n:Nat}{rs:Array ResultVar}{M:Mem}{R:V→Option Mem→Prop}(hf:P.funcs[fi]?=some fn)(hb:fn.body=some c)(hN:fn.ntmps=n)(hr:fn.results=rs)(hg:isGo P fi=true)(hn:vs.length≤n)
    (h:∀ (Q:Exit→List (Nat×V)→Mem→Prop),(∀ e t m',(e= .normal∨e= .ret)→∀ v,resV P t m' rs.toList=some v→R v (some m')→Q e t m')→WA P n c (argT 0 vs) M Q):CallA P fi vs M R:=by
  subst hN;subst hr
  refine CallA_introD hf hb hg hn (h _ ?_)
  intro e t m' he v hres hR
  refine⟨he,?_⟩
  rw [hres]
  exact hR
/-- a range over a function, by what holds behind it -/
theorem WA_rf{N:Nat}{g:Operand}{ps:Array Tmp}{assign body:Code}{t:List (Nat×V)}{m:Mem}{Q:Exit→List (Nat×V)→Mem→Prop}{f:FuncId}{fs cs:List V}(Rn:Mem→Prop)(Rp:Code→Mem→Prop)
    (h:∀ l,CallA P f (fs++ .clo (.yield l) [] []::cs) (m++[LoopB l N t ps assign body .ready none]) (fun _ mo=>∃ st pend m',mo=some m'∧m'[m.length]?=some (LoopB l N t ps assign body st pend)∧st≠ .busy∧(pend=none→Rn (m'.set m.length .dead))∧∀ c,pend=some c→Rp c (m'.set m.length .dead)))
    (hn:∀ m',Rn m'→Q .normal t m') (hp:∀ c m',Rp c m'→WA P N c t m' Q) (hg:evO t g= .clo (.func f) fs cs:=by first|exact lk_|fail):WA P N (.rangeFunc g ps assign body) t m Q:=by
  refine WA_rangeFunc h ?_ hg
  rintro l v mo ⟨st,pend,m',rfl,h1,h2,h3,h4⟩
  exact⟨st,pend,h1,h2,fun e=>hn _ (h3 e),fun c e=>hp c _ (h4 c e)⟩
theorem YieldA_in{l N:Nat}{t:List (Nat×V)}{ps:Array Tmp}{assign body:Code}{M1 X:Mem}{vs:List V}{R:V→Option Mem→Prop}(hv:vs.length=ps.size)(hp:∀ p∈ps.toList,p<N)(ht:t.all (fun p=>decide (p.1<N))=true)
    (h:WA P N assign (setPs t ps.toList vs) (M1++LoopL l N t ps assign body::X) (fun e t1 m1=>e= .normal∧m1[M1.length]?=some (LoopL l N t ps assign body)∧WA P N body t1 m1 (roundQ l N t ps assign body M1.length R))):YieldA P l vs (M1++LoopB l N t ps assign body .ready none::X) R:=by
  refine YieldA_intro (b:=M1.length) (assign:=assign) (body:=body) (t:=t) (by simp) hv hp ht ?_
  have e:(M1++LoopB l N t ps assign body .ready none::X).set M1.length (LoopL l N t ps assign body)=M1++LoopL l N t ps assign body::X:=by
    rw [List.set_append_right _ _ (Nat.le_refl _),Nat.sub_self];rfl
  rw [e]
  exact h
end
/-- how a round ends: the record (ready, within a round, done) told by names -/
def rndQ(LB LL:Blk)(LD:Code→Blk)(b:Nat)(R:V→Option Mem→Prop):Exit→List (Nat×V)→Mem→Prop
  | .normal,_,m=>m[b]?=some LL∧R (.bool true) (some (m.set b LB))
  | .ret,_,m=>m[b]?=some LL∧R (.bool false) (some (m.set b (LD .ret)))
  | .exit id,_,m=>m[b]?=some LL∧R (.bool false) (some (m.set b (LD (.exit id))))
  |_,_,_=>False
/-- what a yield does, the loop's record told by names -/
def YldS(P:Program)(l N:Nat)(t:List (Nat×V))(ps:Array Tmp)(assign body:Code)(LB LL:Blk)(LD:Code→Blk):Prop:=
  ∀ (M1 X:Mem) (vs:List V) (R:V→Option Mem→Prop),vs.length=ps.size→WA P N assign (setPs t ps.toList vs) (M1++LL::X) (fun e t1 m1=>e= .normal∧m1[M1.length]?=some LL∧WA P N body t1 m1 (rndQ LB LL LD M1.length R))→YieldA P l vs (M1++LB::X) R
theorem WA_rfA{P:Program}{N:Nat}{g:Operand}{ps:Array Tmp}{assign body:Code}{t:List (Nat×V)}{m:Mem}{Q:Exit→List (Nat×V)→Mem→Prop}{f:FuncId}{fs cs:List V}(Rn:Mem→Prop)(Rp:Code→Mem→Prop)
    (h:∀ (l:Nat) (LB LL:Blk) (LD:Code→Blk),YldS P l N t ps assign body LB LL LD→CallA P f (fs++ .clo (.yield l) [] []::cs) (m++[LB]) (fun _ mo=>∃ m',mo=some m'∧((m'[m.length]?=some LB∧Rn (m'.set m.length .dead))∨∃ c,m'[m.length]?=some (LD c)∧Rp c (m'.set m.length .dead))))
    (hn:∀ m',Rn m'→Q .normal t m') (hp:∀ c m',Rp c m'→WA P N c t m' Q) (hg:evO t g= .clo (.func f) fs cs:=by first|exact lk_|fail) (hps:∀ p∈ps.toList,p<N:=by simp) (ht:t.all (fun p=>decide (p.1<N))=true:=by rfl):WA P N (.rangeFunc g ps assign body) t m Q:=by
  refine WA_rf Rn Rp (fun l=>(h l (LoopB l N t ps assign body .ready none) (LoopL l N t ps assign body) (fun c=>LoopB l N t ps assign body .done (some c)) ?_).mono ?_) hn hp hg
  · intro M1 X vs R hv hw
    refine YieldA_in hv hps ht (WA_mono hw ?_)
    rintro e t1 m1 ⟨h1,h2,h3⟩
    refine⟨h1,h2,WA_mono h3 ?_⟩
    intro e t2 m2 h4
    cases e<;>exact h4
  · rintro v mo ⟨m',rfl,h1⟩
    rcases h1 with ⟨h2,h3⟩|⟨c,h2,h3⟩
    · exact⟨_,_,m',rfl,h2,by decide,fun _=>h3,fun c hc=>by cases hc⟩
    · exact⟨_,_,m',rfl,h2,by decide,(fun hc=>by cases hc),fun c' hc=>by cases hc;exact h3⟩
theorem rndQ_nrm{LB LL:Blk}{LD:Code→Blk}{b:Nat}{t':List (Nat×V)}{A X M:Mem}{R:V→Option Mem→Prop}(hM:M=A++LL::X)(hb:A.length=b)(h:R (.bool true) (some (A++LB::X))):rndQ LB LL LD b R .normal t' M:=by
  subst hb;subst hM
  refine⟨by simp,?_⟩
  rw [List.set_append_right _ _ (Nat.le_refl _),Nat.sub_self]
  exact h
section
variable {P:Program} {N:Nat} {t:List (Nat×V)} {m:Mem} {Q:List (Nat×V)→Mem→Prop} {ops:Array Oper} {rest:List Oper} {k:Option Nat} {ty:TypeId} {pos:String} {af:Array Edge}
end
end Go.Proofs.Ytppbjbfilkileaa
namespace Go.Proofs.Ytppbjbfilkileaa
end Go.Proofs.Ytppbjbfilkileaa
