/- range over a function: consumer and iterator over one memory -/
import Derived.Test.YtomkbpoicjabfaaGreatDoorYC
import Derived.RangeFuncIn
set_option linter.unusedSimpArgs false
set_option linter.unusedVariables false
namespace Go.Proofs.YtomkbpoicjabfaaGreatDoor
open Go.RowKit

theorem owned_set_obj{p:Blk→Bool}{m:Mem}{ρ:List Re}{b:Nat}{blk blk':Blk}(hb:m[b]?=some blk)(hp:p blk=p blk'){k:Nat}(h:has p (m.set b blk') ρ k):has p m ρ k:=by
  obtain⟨c,blk0,r,h1,h2,h3,h4⟩:=h
  rw [List.getElem?_set] at h1
  split at h1
  · rename_i e
    subst e
    split at h1
    · simp at h1;subst h1;exact⟨b,_,r,hb,hp.trans h2,h3,h4⟩
    · cases h1
  · exact⟨c,blk0,r,h1,h2,h3,h4⟩
theorem bad_obj{st:Sta}{vs:List V}{φ:Nat→Obj→List Value→Prop}(h:st≠ .ro):(Blk.obj st vs φ).bad=true:=by cases st<;>first|rfl|exact absurd rfl h
theorem set_same{α:Type}{m:List α}{b:Nat}{x:α}(h:m[b]?=some x):m.set b x=m:=by
  apply List.ext_getElem?
  intro i
  rw [List.getElem?_set]
  split
  · rename_i e;subst e
    rw [if_pos (List.getElem?_eq_some_iff.1 h).1,h]
  · rfl
/-- an object that nobody else names is turned -/
theorem RelM.objTurn{w w':World}{ρ:List Re}{m:Mem}(h:RelM w ρ m){b:Nat}{st st':Sta}{vs:List V}{φ φ':Nat→Obj→List Value→Prop}(hs:st≠ .ro)(hs':st'≠ .ro)(hb:m[b]?=some (.obj st vs φ)){r:Re}(hr:ρ[b]?=some r)
    (hz:w'.heap.size=w.heap.size) (hk:∀ k,k≠r.blk→w'.heap[k]?=w.heap[k]?) {o':Obj} (ho':w'.heap[r.blk]?=some o') (hd:∀ d,o'≠ .deferred d) (hφ:∀ xs o,w.heap[r.blk]?=some o→φ r.blk o xs→φ' r.blk o' xs):RelM w' ρ (m.set b (.obj st' vs φ')):=by
  have hbb:(Blk.obj st vs φ).bad=(Blk.obj st' vs φ').bad:=(bad_obj hs).trans (bad_obj hs').symm
  have hbad:bad m ρ r.blk:=⟨b,_,r,hb,bad_obj hs,hr,rfl⟩
  have hblt:b<m.length:=(List.getElem?_eq_some_iff.1 hb).1
  have hOld:∀ {v:V} {x:Value},RelV w ρ (bad m ρ) v x→RelV w' ρ (bad (m.set b (.obj st' vs φ')) ρ) v x:=fun hr'=>
    hr'.mono (Nat.le_of_eq hz.symm) (fun k _ hn=>hk k (fun e=>hn (e ▸ hbad))) (fun k _ ho=>owned_set_obj (p:=Blk.bad) hb hbb ho) (fun _ _ h=>h)
  have get:∀ {c:Nat} {blk:Blk},(m.set b (.obj st' vs φ'))[c]?=some blk→c≠b→m[c]?=some blk:=by
    intro c blk h1 h2
    rw [List.getElem?_set,if_neg (fun e=>h2 e.symm)] at h1
    exact h1
  have hb':(m.set b (Blk.obj st' vs φ'))[b]?=some (Blk.obj st' vs φ'):=by rw [List.getElem?_set,if_pos rfl,if_pos hblt]
  obtain⟨r0,q0,o,xs,g1,g2,g3,g4,g5⟩:=h.objs b st vs φ hb
  rw [hr] at q0
  cases q0
  refine⟨by simp [h.len],fun c wr' ty' sz' es'' hm=>?_,fun c c' blk blk' r1 r2 h1 h2 h3 h4 h5 h6 h7=>?_,fun c st'' vs'' φ'' hm=>?_,h.glob.mono fun v x h3=>hOld h3⟩
  · by_cases hcb:c=b
    · subst hcb;rw [hb'] at hm;simp at hm
    · have hm':=get hm hcb
      obtain⟨r1,cur1,g1,g2,g3,g4,g5,g6,g7,g8,g9⟩:=h.cells c wr' ty' sz' es'' hm'
      refine⟨r1,cur1,g1,g2,g3,(hk _ (fun e=>hcb (h.inj c b _ _ r1 r hm' (by simp) hb (bad_obj hs) g1 hr e))).trans g4,g5,g6,g7,g8,fun i j e v a1 a2=>?_⟩
      obtain⟨b1,y,b2,b3⟩:=g9 i j e v a1 a2
      exact⟨b1,y,b2,hOld b3⟩
  · have key:∀ {c:Nat} {blk:Blk},(m.set b (.obj st' vs φ'))[c]?=some blk→∃ blk0:Blk,m[c]?=some blk0∧(blk≠ .dead→blk0≠ .dead)∧(blk.bad=true→blk0.bad=true):=by
      intro c blk a1
      by_cases hcb:c=b
      · subst hcb;exact⟨_,hb,fun _=>by simp,fun _=>bad_obj hs⟩
      · exact⟨blk,get a1 hcb,fun h=>h,fun h=>h⟩
    obtain⟨b1,q1,q2,_⟩:=key h1
    obtain⟨b2,q3,_,q4⟩:=key h3
    exact h.inj c c' b1 b2 r1 r2 q1 (q2 h2) q3 (q4 h4) h5 h6 h7
  · by_cases hcb:c=b
    · subst hcb
      rw [hb'] at hm
      simp at hm
      obtain⟨rfl,rfl,rfl⟩:=hm
      exact⟨r,hr,o',xs,ho',hd,hφ xs o g1 g3,g4,fun i v x a1 a2=>hOld (g5 i v x a1 a2)⟩
    · have hm':=get hm hcb
      obtain⟨r1,g1,g2⟩:=h.objs c st'' vs'' φ'' hm'
      exact⟨r1,g1,g2.mono (fun _=>hk _ (fun e=>hcb (h.inj c b _ _ r1 r hm' (by simp) hb (bad_obj hs) g1 hr e))) fun v x b3=>hOld b3⟩
theorem RelV.objTurn{w w':World}{ρ:List Re}{m:Mem}{b:Nat}{st:Sta}{vs:List V}{φ:Nat→Obj→List Value→Prop}(hs:st≠ .ro)(hb:m[b]?=some (.obj st vs φ)){r:Re}(hr:ρ[b]?=some r)
    (hz:w'.heap.size=w.heap.size) (hk:∀ k,k≠r.blk→w'.heap[k]?=w.heap[k]?) {B':Nat→Prop} (hB:∀ k,k<w.heap.size→B' k→bad m ρ k) {v:V} {x:Value} (h:RelV w ρ (bad m ρ) v x):RelV w' ρ B' v x:=
  h.mono (Nat.le_of_eq hz.symm) (fun k _ hn=>hk k (fun e=>hn (e ▸ ⟨b,_,r,hb,bad_obj hs,hr,rfl⟩))) hB (fun _ _ h=>h)
/-- a new object of the call's own -/
theorem RelM.pushObj {w w':World} {ρ:List Re} {m:Mem} (h:RelM w ρ m) (hb:Below w.heap.size w w') (g:Nat) (hg:w.heap.size≤g) {vs:List V} {φ:Nat→Obj→List Value→Prop} {o:Obj} (xs:List Value) (hh:w'.heap[g]?=some o)
    (hd:∀ d,o≠ .deferred d) (hφ:φ g o xs) (hl:xs.length=vs.length) (hv:∀ (i:Nat) v x,vs[i]?=some v→xs[i]?=some x→RelV w ρ (bad m ρ) v x):RelM w' (ρ++[⟨g,0,0⟩]) (m++[Blk.obj .own vs φ]):=by
  have h':=h.mono hb
  have hOld:∀ {v:V} {x:Value},RelV w ρ (bad m ρ) v x→RelV w' (ρ++[⟨g,0,0⟩]) (bad (m++[Blk.obj .own vs φ]) (ρ++[⟨g,0,0⟩])) v x:=fun hr=>
    hr.mono hb.size (fun k hk _=>hb.block k hk) (fun k hk ho=>(owned_snoc h.len ho).resolve_right (fun e=>by simp at e;omega)) (fun b r hr=>prefix_get hr)
  refine⟨by simp [h.len],fun b wr' ty' sz' es' hm=>?_,fun b b' blk blk' r r' h1 h2 h3 h4 h5 h6 h7=>?_,fun b st' vs' φ' hm=>?_,h.glob.mono fun v x h3=>hOld h3⟩
  · rcases Nat.lt_or_ge b m.length with hlt'|hge
    · rw [List.getElem?_append_left hlt'] at hm
      obtain⟨r,cur',g1,g2,g3,g4,g5,g6,g7,g8,g9⟩:=h.cells b wr' ty' sz' es' hm
      refine⟨r,cur',prefix_get g1,g2,g3,(hb.block _ (heap_lt g4)).trans g4,g5,g6,g7,g8,fun i j e v a1 a2=>?_⟩
      obtain⟨b1,y,b2,b3⟩:=g9 i j e v a1 a2
      exact⟨b1,y,b2,hOld b3⟩
    · rw [List.getElem?_append_right hge] at hm
      rcases hbm:b - m.length with _|q<;>rw [hbm] at hm<;>simp at hm
  · have key:∀ (c:Nat) (blk:Blk) (r:Re),(m++[Blk.obj .own vs φ])[c]?=some blk→blk≠Blk.dead→(ρ++[⟨g,0,0⟩])[c]?=some r→(c<m.length∧m[c]?=some blk∧ρ[c]?=some r∧r.blk<w.heap.size)∨(c=m.length∧r.blk=g):=by
      intro c blk r k1 k2 k3
      rcases Nat.lt_or_ge c m.length with hlt'|hge
      · rw [List.getElem?_append_left hlt'] at k1
        rw [List.getElem?_append_left (by rw [h.len];exact hlt')] at k3
        refine .inl ⟨hlt',k1,k3,?_⟩
        cases blk with
        | cells wr0 ty0 sz0 es0=>
          obtain⟨r',cur',g1,_,_,g4,_⟩:=h.cells c wr0 ty0 sz0 es0 k1
          rw [k3] at g1
          cases g1
          exact heap_lt g4
        | obj st0 vs0 φ0=>
          obtain⟨r',g1,g2⟩:=h.objs c st0 vs0 φ0 k1
          rw [k3] at g1
          cases g1
          exact g2.lt
        |dead=>exact(k2 rfl).elim
      · rw [List.getElem?_append_right hge] at k1
        rw [List.getElem?_append_right (by rw [h.len];exact hge),h.len] at k3
        rcases hbm:c - m.length with _|q
        · rw [hbm] at k3
          simp at k3
          subst k3
          exact .inr ⟨by omega,rfl⟩
        · rw [hbm] at k1
          simp at k1
    have hd4:blk'≠Blk.dead:=fun e=>by subst e;simp [Blk.bad] at h4
    rcases key b blk r h1 h2 h5 with ⟨a1,a2,a3,a4⟩|⟨a1,a2⟩<;>rcases key b' blk' r' h3 hd4 h6 with ⟨c1,c2,c3,c4⟩|⟨c1,c2⟩
    · exact h.inj b b' blk blk' r r' a2 h2 c2 h4 a3 c3 h7
    · omega
    · omega
    · omega
  · rcases Nat.lt_or_ge b m.length with hlt'|hge
    · rw [List.getElem?_append_left hlt'] at hm
      obtain⟨r,g1,g2⟩:=h.objs b st' vs' φ' hm
      exact⟨r,prefix_get g1,g2.mono (hb.block _) fun v x b3=>hOld b3⟩
    · rw [List.getElem?_append_right hge] at hm
      rcases hbm:b - m.length with _|q
      · rw [hbm] at hm
        simp at hm
        obtain⟨rfl,rfl,rfl⟩:=hm
        refine⟨⟨g,0,0⟩,?_,o,xs,hh,hd,hφ,hl,fun i v x a1 a2=>hOld (hv i v x a1 a2)⟩
        have hle:ρ.length≤b:=by have:=h.len;omega
        rw [List.getElem?_append_right hle,h.len,hbm];rfl
      · rw [hbm] at hm
        simp at hm
theorem After.pushObj{w w':World}{ρ:List Re}{m:Mem}(h:RelM w ρ m)(hb:Below w.heap.size w w')(g:Nat)(hg:w.heap.size≤g){vs:List V}{φ:Nat→Obj→List Value→Prop}{o:Obj}(xs:List Value)(hh:w'.heap[g]?=some o)
    (hd:∀ d,o≠ .deferred d) (hφ:φ g o xs) (hl:xs.length=vs.length) (hv:∀ (i:Nat) v x,vs[i]?=some v→xs[i]?=some x→RelV w ρ (bad m ρ) v x):After w ρ m w' (ρ++[⟨g,0,0⟩]) (m++[Blk.obj .own vs φ]):=
  ⟨Keep.of_below hb,fun b r hr=>prefix_get hr,h.pushObj hb g hg xs hh hd hφ hl hv,fun k hk ho=>(owned_snoc h.len ho).resolve_right (fun e=>by simp at e;omega),fun k hk ho=>(owned_snoc h.len ho).resolve_right (fun e=>by simp at e;omega)⟩

/-! ### a loop's record -/
def slotV(N:Nat)(t:List (Nat×V)):List V:=(List.range N).map (tget t)
def recφ(l:Nat)(ps:Array Tmp)(assign body:Code)(st:LoopState)(pend:Option Code):Nat→Obj→List Value→Prop:=
  fun k o xs=>k=l∧∃ fn D,o= .loop { state:=st,pending:=pend,fn:=fn,tmps:=xs.toArray,params:=ps,assign:=assign,body:=body,defers:=D }
/-- .. that the iterator's side may see -/
def LoopB(l N:Nat)(t:List (Nat×V))(ps:Array Tmp)(assign body:Code)(st:LoopState)(pend:Option Code):Blk:= .obj .own (slotV N t) (recφ l ps assign body st pend)
def recψ(l:Nat)(ps:Array Tmp)(assign body:Code):Nat→Obj→List Value→Prop:=
  fun k o xs=>k=l∧∃ st pend fn D,o= .loop { state:=st,pending:=pend,fn:=fn,tmps:=xs.toArray,params:=ps,assign:=assign,body:=body,defers:=D }
/-- .. within a round -/
def LoopL(l N:Nat)(t:List (Nat×V))(ps:Array Tmp)(assign body:Code):Blk:= .obj .lent (slotV N t) (recψ l ps assign body)
def setPs(t:List (Nat×V)):List Tmp→List V→List (Nat×V)
  |p::ps,v::vs=>setPs (tput t (some p) v) ps vs
  |_,_=>t
theorem loop_get{w:World}{ρ:List Re}{m:Mem}(h:RelM w ρ m){b l N:Nat}{t:List (Nat×V)}{ps:Array Tmp}{assign body:Code}{st:LoopState}{pend:Option Code}(hb:m[b]?=some (LoopB l N t ps assign body st pend)):
    ∃ r xs fn D,ρ[b]?=some r∧r.blk=l∧w.heap[l]?=some (.loop { state:=st,pending:=pend,fn:=fn,tmps:=xs,params:=ps,assign:=assign,body:=body,defers:=D })∧xs.size=N∧∀ i,i<N→RelV w ρ (bad m ρ) (tget t i) (xs.getD i undef):=by
  obtain⟨r,h1,o,xs,h2,_,⟨h4,fn,D,rfl⟩,h5,h6⟩:=h.objs b _ _ _ hb
  subst h4
  have hN:xs.length=N:=by simpa [slotV] using h5
  refine⟨r,xs.toArray,fn,D,h1,rfl,h2,by simpa using hN,fun i hi=>?_⟩
  have hx:xs[i]?=some xs[i]:=List.getElem?_eq_getElem (by omega)
  have:=h6 i (tget t i) xs[i] (by simp [slotV,hi]) hx
  rw [Array.getD_eq_getD_getElem?,List.getElem?_toArray,hx]
  exact this
theorem tget_out{N:Nat}:∀ {t:List (Nat×V)},t.all (fun p=>decide (p.1<N))=true→∀ i,N≤i→tget t i= .any
  |[],_,_,_=>rfl
  | (j,v)::r,h,i,hi=>by
    simp only [List.all_cons,Bool.and_eq_true,decide_eq_true_eq] at h
    unfold tget
    rw [if_neg (by omega)]
    exact tget_out h.2 i hi
def putL(a:Act):List (Tmp×Value)→Act
  |[]=>a
  |(p,x)::r=>putL (a.put (some p) x) r
theorem putL_tmps:∀ (l:List (Tmp×Value)) (a:Act),(putL a l).tmps=l.foldl (fun tmps (t,x)=>tmps.setIfInBounds t x) a.tmps∧(putL a l).defers=a.defers
  |[],_=>⟨rfl,rfl⟩
  | (p,x)::r,a=>by
    obtain⟨h1,h2⟩:=putL_tmps r (a.put (some p) x)
    exact⟨h1,h2⟩
theorem setPs_rel{w:World}{ρ:List Re}{m:Mem}:∀ (ps:List Tmp) (vs:List V) (xs:List Value) (t:List (Nat×V)) (a:Act),RelT w ρ m t a→vs.length=ps.length→xs.length=vs.length→(∀ p∈ps,p<a.tmps.size)→
    (∀ (i:Nat) v x,vs[i]?=some v→xs[i]?=some x→RelV w ρ (bad m ρ) v x)→RelT w ρ m (setPs t ps vs) (putL a (ps.zip xs))∧(putL a (ps.zip xs)).tmps.size=a.tmps.size
  |[],[],[],t,a,h,_,_,_,_=>⟨h,rfl⟩
  | p::ps,v::vs,x::xs,t,a,h,h1,h2,h3,h4=>by
    have hs:(a.put (some p) x).tmps.size=a.tmps.size:=by simp [Act.put]
    obtain⟨k1,k2⟩:=setPs_rel ps vs xs (tput t (some p) v) (a.put (some p) x) (tput_rel h (h4 0 v x rfl rfl) fun k hk=>by cases hk;exact h3 p List.mem_cons_self) (by simpa using h1) (by simpa using h2) (fun q hq=>by rw [hs];exact h3 q (List.mem_cons_of_mem _ hq)) fun i u y a1 a2=>h4 (i+1) u y a1 a2
    exact⟨k1,k2.trans hs⟩
  |[],_::_,_,_,_,_,h1,_,_,_=>by simp at h1
  |[],[],_::_,_,_,_,_,h2,_,_=>by simp at h2
  |_::_,[],_,_,_,_,h1,_,_,_=>by simp at h1
  |_::_,_::_,[],_,_,_,_,h2,_,_=>by simp at h2
/-- how a round ends -/
def roundQ(l N:Nat)(t:List (Nat×V))(ps:Array Tmp)(assign body:Code)(b:Nat)(R:V→Option Mem→Prop):Exit→List (Nat×V)→Mem→Prop
  | .normal,_,m=>m[b]?=some (LoopL l N t ps assign body)∧R (.bool true) (some (m.set b (LoopB l N t ps assign body .ready none)))
  | .ret,_,m=>m[b]?=some (LoopL l N t ps assign body)∧R (.bool false) (some (m.set b (LoopB l N t ps assign body .done (some .ret))))
  | .exit id,_,m=>m[b]?=some (LoopL l N t ps assign body)∧R (.bool false) (some (m.set b (LoopB l N t ps assign body .done (some (.exit id)))))
  |_,_,_=>False
theorem YieldA_intro {P:Program} {l N b:Nat} {t:List (Nat×V)} {ps:Array Tmp} {assign body:Code} {m:Mem} {vs:List V} {R:V→Option Mem→Prop} (hb:m[b]?=some (LoopB l N t ps assign body .ready none)) (hv:vs.length=ps.size) (hp:∀ p∈ps.toList,p<N)
    (ht:t.all (fun p=>decide (p.1<N))=true)
    (h:WA P N assign (setPs t ps.toList vs) (m.set b (LoopL l N t ps assign body)) (fun e t1 m1=>e= .normal∧m1[b]?=some (LoopL l N t ps assign body)∧WA P N body t1 m1 (roundQ l N t ps assign body b R))):YieldA P l vs m R:=by
  intro F hF w ρ xs hM hA
  obtain⟨r,ts,fn,D,hr,rfl,hh,hts,htv⟩:=loop_get hM hb
  have hsz:xs.size=ps.size:=hA.1.symm.trans hv
  refine⟨fn,_,assign,body,run_yield hh hsz,roundIn_of_wpIn (hF.fn fn) ?_⟩
  have hblt:b<m.length:=(List.getElem?_eq_some_iff.1 hb).1
  have hbL:(m.set b (LoopL r.blk N t ps assign body))[b]?=some (LoopL r.blk N t ps assign body):=by rw [List.getElem?_set,if_pos rfl,if_pos hblt]
  have hown:owned m ρ r.blk:=⟨b,_,r,hb,rfl,hr,rfl⟩
  have hML:RelM w ρ (m.set b (LoopL r.blk N t ps assign body)):=hM.objTurn (by decide) (by decide) hb hr rfl (fun _ _=>rfl) hh (by simp) fun ys o a1 a2=>by
    obtain⟨e,fn',D',rfl⟩:=a2
    rw [hh] at a1
    cases a1
    exact⟨rfl,_,_,_,_,rfl⟩
  have hsubo:∀ k,owned (m.set b (LoopL r.blk N t ps assign body)) ρ k→owned m ρ k:=fun k=>owned_demote rfl
  have hsubb:∀ k,bad (m.set b (LoopL r.blk N t ps assign body)) ρ k→bad m ρ k:=fun k=>owned_set_obj (p:=Blk.bad) (blk':=LoopL r.blk N t ps assign body) hb rfl
  have hno:∀ {w:World} {ρ:List Re} {m:Mem} {r':Re},RelM w ρ m→m[b]?=some (LoopL r.blk N t ps assign body)→ρ[b]?=some r'→r'.blk=r.blk→¬ owned m ρ r.blk:=by
    rintro w ρ m r' h1 h2 h3 h4 ⟨c,blk,r2,g1,g2,g3,g4⟩
    have:=h1.inj b c _ blk r' r2 h2 (by simp [LoopL]) g1 (Blk.bad_of_own g2) h3 g3 (h4.trans g4.symm)
    subst this
    rw [h2] at g1
    cases g1
    cases g2
  have hrelL:∀ {v:V} {x:Value},RelV w ρ (bad m ρ) v x→RelV w ρ (bad (m.set b (LoopL r.blk N t ps assign body)) ρ) v x:=fun hv=>hv.mono (Nat.le_refl _) (fun _ _ _=>rfl) (fun k _ hk=>hsubb k hk) (fun _ _ h=>h)
  have hT0:RelT w ρ (m.set b (LoopL r.blk N t ps assign body)) t { tmps:=ts,defers:=[] }:=fun i=>by
    rcases Nat.lt_or_ge i N with hi|hi
    · exact hrelL (htv i hi)
    · rw [tget_out ht i hi];exact .any _
  obtain⟨hT,hTs⟩:=setPs_rel ps.toList vs xs.toList t { tmps:=ts,defers:=[] } hT0 (by simpa using hv) (by simpa using hA.1.symm) (fun p hq=>by rw [hts];exact hp p hq) fun i v x a1 a2=>hrelL (hA.2 i v x a1 (by simpa using a2))
  obtain⟨e1,e2⟩:=putL_tmps (ps.toList.zip xs.toList) { tmps:=ts,defers:=[] }
  have hact:putL { tmps:=ts,defers:=[] } (ps.toList.zip xs.toList)={ tmps:=(ps.zip xs).foldl (fun tmps (t,a)=>tmps.setIfInBounds t a) ts,defers:=[] }:=by
    have e3:(putL { tmps:=ts,defers:=[] } (ps.toList.zip xs.toList)).tmps=(ps.zip xs).foldl (fun tmps (t,a)=>tmps.setIfInBounds t a) ts:=by
      rw [e1,←Array.foldl_toList,Array.toList_zip]
    cases hq:putL { tmps:=ts,defers:=[] } (ps.toList.zip xs.toList) with
    | mk a1 a2=>
      rw [hq] at e2 e3
      simp only at e2 e3
      rw [e2,e3]
  rw [hact] at hT hTs
  refine wpIn_mono (h (F.inRound r.blk) (hF.inRound _) w.heap.size w ρ _ ⟨hML,hT,hTs.trans hts,⟨Nat.le_refl _,fun l' hl'=>?_⟩,List.nodup_nil,fun d hd=>by cases hd⟩) ?_
  · cases hl'
    exact⟨_,hh,hno hML hbL hr rfl⟩
  rintro e a1 w1 ⟨t1,m1,ρ1,⟨rfl,hb1,hbody⟩,hR1,af1⟩
  have hr1:ρ1[b]?=some r:=af1.pre b r hr
  have hh1:=(af1.keep.block r.blk (heap_lt hh) (hno hML hbL hr rfl)).trans hh
  refine⟨_,run_beginRound hh1 rfl,?_⟩
  have hlt1:=heap_lt hh1
  have hk1:∀ k,k≠r.blk→(w1.putObj r.blk (.loop { state:= .busy,pending:=none,fn:=fn,tmps:=ts,params:=ps,assign:=assign,body:=body,defers:=D })).heap[k]?=w1.heap[k]?:=fun k hk=>World.putObj_heap_other hk
  have hh2:(w1.putObj r.blk (.loop { state:= .busy,pending:=none,fn:=fn,tmps:=ts,params:=ps,assign:=assign,body:=body,defers:=D })).heap[r.blk]?=some (.loop { state:= .busy,pending:=none,fn:=fn,tmps:=ts,params:=ps,assign:=assign,body:=body,defers:=D }):=World.putObj_heap_same hlt1
  generalize hw2:w1.putObj r.blk (.loop { state:= .busy,pending:=none,fn:=fn,tmps:=ts,params:=ps,assign:=assign,body:=body,defers:=D })=w2 at hk1 hh2 ⊢
  have hz2:w2.heap.size=w1.heap.size:=by rw [←hw2];simp
  have hos2:w2.os=w1.os∧w2.tape=w1.tape∧w2.output=w1.output:=by rw [←hw2];exact⟨rfl,rfl,rfl⟩
  have hM2:RelM w2 ρ1 m1:=by
    have:=hR1.mem.objTurn (st':= .lent) (φ':=recψ r.blk ps assign body) (by decide) (by decide) hb1 hr1 hz2 hk1 hh2 (by simp) fun ys o a1 a2=>by
      obtain⟨e,st',pe',fn',D',rfl⟩:=a2
      rw [hh1] at a1
      cases a1
      exact⟨rfl,_,_,_,_,rfl⟩
    have e:m1.set b (Blk.obj .lent (slotV N t) (recψ r.blk ps assign body))=m1:=set_same hb1
    rwa [e] at this
  have hno1:¬ owned m1 ρ1 r.blk:=hno hR1.mem hb1 hr1 rfl
  have hR2:Rel N ⟨w.heap.size,(F.inRound r.blk).round⟩ w2 ρ1 m1 t1 a1:=by
    refine⟨hM2,fun i=>(hR1.tm i).objTurn (st:= .lent) (by decide) hb1 hr1 hz2 hk1 fun _ _ h=>h,hR1.size,⟨by rw [hz2];exact hR1.defers.1.1,fun l' hl'=>?_⟩,hR1.defers.2.1,fun d hd=>?_⟩
    · cases hl'
      exact⟨_,hh2,hno1⟩
    · obtain⟨D',q1,q2,q3,q4⟩:=hR1.defers.2.2 d hd
      refine⟨D',q1,q2,(hk1 D' fun e=>?_).trans q3,q4⟩
      rw [e,hh1] at q3
      cases q3
  refine wpIn_mono (hbody (F.inRound r.blk) (hF.inRound _) w.heap.size w2 ρ1 a1 hR2) ?_
  rintro e a2 w3 ⟨t2,m3,ρ3,hq,hR3,af3⟩
  have hh3:=(af3.keep.block r.blk (heap_lt hh2) hno1).trans hh2
  have hr3:ρ3[b]?=some r:=af3.pre b r hr1
  have fin:∀ (jump:Option Code) (st:LoopState),st=(if jump.isNone then .ready else .done)→m3[b]?=some (LoopL r.blk N t ps assign body)→R (.bool jump.isNone) (some (m3.set b (LoopB r.blk N t ps assign body st jump)))→
      ∃ v w',(Instr.endRound r.blk jump).run P w3= .ok v w'∧∃ v' mo x,Ending.returned v= .returned x∧R v' mo∧((mo=none∧Below w.heap.size w w'∧RelV w' ρ (bad m ρ) v' x)∨∃ m' ρ',mo=some m'∧After w ρ m w' ρ' m'∧RelV w' ρ' (bad m' ρ') v' x):=by
    intro jump st hst hb3 hRR
    refine⟨_,_,run_endRound jump hh3,.bool jump.isNone,_,_,rfl,hRR,.inr ⟨_,ρ3,rfl,?_,.bool _⟩⟩
    rw [←hst]
    have hlt3:=heap_lt hh3
    have hM4:RelM (w3.putObj r.blk (.loop { state:=st,pending:=jump,fn:=fn,tmps:=ts,params:=ps,assign:=assign,body:=body,defers:=D })) ρ3 (m3.set b (LoopB r.blk N t ps assign body st jump)):=
      hR3.mem.objTurn (st:= .lent) (by decide) (by decide) hb3 hr3 (by simp) (fun k hk=>World.putObj_heap_other hk) (World.putObj_heap_same hlt3) (by simp) fun ys o a1 a2=>by
        obtain⟨e,st',pe',fn',D',rfl⟩:=a2
        rw [hh3] at a1
        cases a1
        exact⟨rfl,_,_,rfl⟩
    have hsz3:w.heap.size≤w2.heap.size:=by rw [hz2];exact af1.keep.size
    refine⟨⟨?_,?_,?_,?_,fun k hk hn=>?_⟩,fun c q hq=>af3.pre c q (af1.pre c q hq),hM4,fun k hk ho=>?_,fun k hk ho=>?_⟩
    · exact(af3.keep.os.trans hos2.1).trans af1.keep.os
    · exact(af3.keep.tape.trans hos2.2.1).trans af1.keep.tape
    · exact(af3.keep.output.trans hos2.2.2).trans af1.keep.output
    · rw [World.putObj_size];exact Nat.le_trans hsz3 af3.keep.size
    · have hkl:k≠r.blk:=fun e=>hn (e ▸ hown)
      have k1:¬ owned m1 ρ1 k:=fun ho=>hn (hsubo k (af1.own k hk ho))
      rw [World.putObj_heap_other hkl,af3.keep.block k (Nat.lt_of_lt_of_le hk hsz3) k1,hk1 k hkl]
      exact af1.keep.block k hk fun ho=>hn (hsubo k ho)
    · by_cases hkl:k=r.blk
      · rw [hkl];exact hown
      · have k3:owned m3 ρ3 k:=by
          obtain⟨c,blk,r2,g1,g2,g3,g4⟩:=ho
          rw [List.getElem?_set] at g1
          split at g1
          · rename_i e
            subst e
            rw [hr3] at g3
            cases g3
            exact absurd g4.symm hkl
          · exact⟨c,blk,r2,g1,g2,g3,g4⟩
        exact hsubo k (af1.own k hk (af3.own k (Nat.lt_of_lt_of_le hk hsz3) k3))
    · have k3:bad m3 ρ3 k:=owned_set_obj (p:=Blk.bad) (blk':=LoopB r.blk N t ps assign body st jump) hb3 rfl ho
      exact hsubb k (af1.bd k hk (af3.bd k (Nat.lt_of_lt_of_le hk hsz3) k3))
  cases e with
  |normal=>exact fin none .ready rfl hq.1 hq.2
  |ret=>exact fin (some .ret) .done rfl hq.1 hq.2
  |exit id=>exact fin (some (.exit id)) .done rfl hq.1 hq.2
  |_=>exact hq.elim
theorem run_enterLoop_inner{P:Program}{w:World}{l0:Nat}{lo:Loop}(h:w.heap[l0]?=some (.loop lo))(fn:FuncId)(tmps:Array Value)(ps:Array Tmp)(assign body:Code):
    (Instr.enterLoop fn tmps ps assign body (some l0)).run P w= .ok (w.heap.size,[]) (w.alloc (.loop { state:= .ready,pending:=none,fn,tmps,params:=ps,assign,body,defers:=lo.defers })):=by
  unfold Instr.enterLoop
  simp only [Sem.run_bind,run_getLoop h,run_newObj_alloc,Result.andThen,Sem.run_pure]
theorem enter_any{P:Program}{z:Zr}{w:World}{ρ:List Re}{m:Mem}(h:RnR z w ρ m)(fn:FuncId)(tmps:Array Value)(ps:Array Tmp)(assign body:Code):
    ∃ l mark w1 D,(Instr.enterLoop fn tmps ps assign body z.l).run P w= .ok (l,mark) w1∧Below w.heap.size w w1∧w.heap.size≤l∧w1.heap[l]?=some (.loop { state:= .ready,pending:=none,fn,tmps,params:=ps,assign,body,defers:=D })∧mark.Nodup∧
      ∀ d∈mark,∃ D,d={ target:= .collected D,args:= #[] }∧w.heap.size≤D∧D≠l∧w1.heap[D]?=some (.deferred (some [])):=by
  cases hz:z.l with
  | none=>
    refine⟨w.heap.size+1,[{ target:= .collected w.heap.size,args:= #[] }],(w.alloc (.deferred (some []))).alloc (.loop { state:= .ready,pending:=none,fn,tmps,params:=ps,assign,body,defers:=w.heap.size }),w.heap.size,run_enterLoop_outer fn tmps ps assign body,((Below.refl _ w).alloc (Nat.le_refl _) _).alloc (by simp) _,by omega,?_,by simp,fun d hd=>?_⟩
    · have:=World.alloc_heap_new (w.alloc (.deferred (some []))) (.loop { state:= .ready,pending:=none,fn,tmps,params:=ps,assign,body,defers:=w.heap.size })
      rwa [World.size_alloc] at this
    · rw [List.mem_singleton.1 hd]
      exact⟨_,rfl,Nat.le_refl _,by omega,(Below.heap_alloc _ _ _ (by simp)).trans (World.alloc_heap_new w _)⟩
  | some l0=>
    obtain⟨lo,h1,_⟩:=h l0 hz
    exact⟨w.heap.size,[],w.alloc (.loop { state:= .ready,pending:=none,fn,tmps,params:=ps,assign,body,defers:=lo.defers }),lo.defers,run_enterLoop_inner h1 fn tmps ps assign body,(Below.refl _ w).alloc (Nat.le_refl _) _,Nat.le_refl _,World.alloc_heap_new w _,List.nodup_nil,fun d hd=>by cases hd⟩
/-- a range over a function: its call is walked over our memory, behind which the loop's record lies -/
theorem WA_rangeFunc {P:Program} {N:Nat} {g:Operand} {ps:Array Tmp} {assign body:Code} {t:List (Nat×V)} {m:Mem} {Q:Exit→List (Nat×V)→Mem→Prop} {f:FuncId} {fs cs:List V} {R:Nat→V→Option Mem→Prop}
    (h:∀ l,CallA P f (fs++ .clo (.yield l) [] []::cs) (m++[LoopB l N t ps assign body .ready none]) (R l))
    (hR:∀ l v mo,R l v mo→∃ st pend,(mo.getD (m++[LoopB l N t ps assign body .ready none]))[m.length]?=some (LoopB l N t ps assign body st pend)∧st≠ .busy∧
      (pend=none→Q .normal t ((mo.getD (m++[LoopB l N t ps assign body .ready none])).set m.length .dead))∧∀ c,pend=some c→WA P N c t ((mo.getD (m++[LoopB l N t ps assign body .ready none])).set m.length .dead) Q)
    (hg:evO t g= .clo (.func f) fs cs):WA P N (.rangeFunc g ps assign body) t m Q:=by
  intro F hF z w ρ a hRel
  refine wpIn_rangeFunc fun fn _=>?_
  have hgr:=evO_rel hRel.tm g hRel.mem
  rw [hg] at hgr
  obtain⟨f2,c2,hge,hfl,hcl,hfv,hcv⟩:∃ f2 c2:Array Value,a.eval g= .func (.func f) f2 c2∧fs.length=f2.size∧cs.length=c2.size∧(∀ (i:Nat) c x,fs[i]?=some c→f2[i]?=some x→RelV w ρ (bad m ρ) c x)∧∀ (i:Nat) c x,cs[i]?=some c→c2[i]?=some x→RelV w ρ (bad m ρ) c x:=by
    generalize a.eval g=x at hgr
    cases hgr with
    |clo _ _ _ f2 c2 hf hc h1 h2=>exact⟨f2,c2,rfl,hf,hc,h1,h2⟩
  obtain⟨l,mark,w1,D,hent,hbl,hl,hh,hnd,hmk⟩:=enter_any (P:=P) hRel.defers.1.2 fn a.tmps ps assign body
  have haf:After w ρ m w1 (ρ++[⟨l,0,0⟩]) (m++[LoopB l N t ps assign body .ready none]):=After.pushObj hRel.mem hbl l hl a.tmps.toList hh (by simp) ⟨rfl,_,_,rfl⟩ (by simp [slotV,hRel.size]) fun i v x h1 h2=>by
    simp only [slotV,List.getElem?_map,Option.map_eq_some_iff] at h1
    obtain⟨j,h1,rfl⟩:=h1
    obtain⟨_,rfl⟩:i<N∧i=j:=by
      have:=List.getElem?_eq_some_iff.1 h1
      obtain⟨q1,q2⟩:=this
      simp at q1 q2
      exact⟨q1,q2⟩
    have:=hRel.tm i
    rw [Array.getD_eq_getD_getElem?] at this
    have e:a.tmps[i]?=some x:=by simpa using h2
    rwa [e] at this
  have hA:RelAs w1 (ρ++[⟨l,0,0⟩]) (m++[LoopB l N t ps assign body .ready none]) (fs++ .clo (.yield l) [] []::cs) (f2++ #[.func (.yield l) #[] #[]]++c2):=by
    refine⟨by simp;omega,fun i v x h1 h2=>?_⟩
    rcases Nat.lt_or_ge i fs.length with hi|hi
    · rw [List.getElem?_append_left hi] at h1
      rw [Array.append_assoc,Array.getElem?_append_left (by omega)] at h2
      exact haf.rel (hfv i v x h1 h2)
    · rw [List.getElem?_append_right hi] at h1
      rw [Array.append_assoc,Array.getElem?_append_right (by omega),←hfl] at h2
      generalize i - fs.length=i at h1 h2
      cases i with
      | zero=>
        rw [Array.getElem?_append_left (by simp)] at h2
        simp at h1 h2
        subst h1;subst h2
        exact .clo _ _ _ _ _ rfl rfl (fun i c x h=>by simp at h) (fun i c x h=>by simp at h)
      | succ i=>
        simp only [List.getElem?_cons_succ] at h1
        rw [Array.getElem?_append_right (by simp)] at h2
        exact haf.rel (hcv i v x h1 (by simpa using h2))
  obtain⟨hgo,hcall⟩:=h l
  refine⟨l,mark,w1,{ target:= .fn (.func f) c2,args:=f2++ #[.func (.yield l) #[] #[]] },w1,f,f2++ #[.func (.yield l) #[] #[]]++c2,w1,hent,?_,?_,?_,(fun hd=>by rw [hF.depth] at hd;cases hd),?_⟩
  · simp only [resolve,hge]
    simp [go_sem]
  · intro f' _;exact hF.fn f'
  · have:=run_callFunc hgo (f2++ #[.func (.yield l) #[] #[]]++c2) w1
    simp [invoke,go_sem] at this ⊢
    exact this
  refine hF.calls ((hcall w1 _ _ haf.mem hA).mono ?_)
  rintro e w3 ⟨v,mo,x,rfl,hr,hcase⟩
  obtain⟨st,pend,hb,hst,hq1,hq2⟩:=hR l v mo hr
  -- the memory behind the call
  obtain⟨m3,ρ3,rfl,af3⟩:∃ m3 ρ3,mo.getD (m++[LoopB l N t ps assign body .ready none])=m3∧After w1 (ρ++[⟨l,0,0⟩]) (m++[LoopB l N t ps assign body .ready none]) w3 ρ3 m3:=by
    rcases hcase with ⟨rfl,hb3,_⟩|⟨m',ρ',rfl,af,_⟩
    · exact⟨_,_,rfl,After.of_same haf.mem hb3⟩
    · exact⟨_,_,rfl,af⟩
  generalize mo.getD (m++[LoopB l N t ps assign body .ready none])=m3 at *
  have af:=haf.trans af3
  obtain⟨r,ts,fn',D',hr3,rfl,hh3,_⟩:=loop_get af.mem hb
  refine⟨pend,_,run_endLoop hh3 hst,?_⟩
  have hlt3:=heap_lt hh3
  have hk4:∀ k,k≠r.blk→(w3.putObj r.blk (.loop { state:= .exhausted,pending:=pend,fn:=fn',tmps:=ts,params:=ps,assign:=assign,body:=body,defers:=D' })).heap[k]?=w3.heap[k]?:=fun k hk=>World.putObj_heap_other hk
  have hh4:(w3.putObj r.blk (.loop { state:= .exhausted,pending:=pend,fn:=fn',tmps:=ts,params:=ps,assign:=assign,body:=body,defers:=D' })).heap[r.blk]?=some (.loop { state:= .exhausted,pending:=pend,fn:=fn',tmps:=ts,params:=ps,assign:=assign,body:=body,defers:=D' }):=World.putObj_heap_same hlt3
  generalize hw4:w3.putObj r.blk (.loop { state:= .exhausted,pending:=pend,fn:=fn',tmps:=ts,params:=ps,assign:=assign,body:=body,defers:=D' })=w4 at hk4 hh4 ⊢
  have hz4:w4.heap.size=w3.heap.size:=by rw [←hw4];simp
  have hos4:w4.os=w3.os∧w4.tape=w3.tape∧w4.output=w3.output:=by rw [←hw4];exact⟨rfl,rfl,rfl⟩
  have hM4:RelM w4 ρ3 (m3.set m.length .dead):=by
    have h1:=af.mem.objTurn (st':= .own) (φ':=fun _ _ _=>True) (by decide) (by decide) hb hr3 hz4 hk4 hh4 (by simp) (fun _ _ _ _=>trivial)
    have h2:=h1.demote m.length .dead (.inl rfl)
    rwa [List.set_set] at h2
  have hsubo:∀ k,owned (m3.set m.length .dead) ρ3 k→owned m3 ρ3 k:=fun k=>owned_demote rfl
  have hsubb:∀ k,bad (m3.set m.length .dead) ρ3 k→bad m3 ρ3 k:=fun k=>owned_demote rfl
  have af4:After w ρ m w4 ρ3 (m3.set m.length .dead):=by
    refine⟨⟨hos4.1.trans af.keep.os,hos4.2.1.trans af.keep.tape,hos4.2.2.trans af.keep.output,by rw [hz4];exact af.keep.size,fun k hk hn=>?_⟩,af.pre,hM4,fun k hk ho=>af.own k hk (hsubo k ho),fun k hk ho=>af.bd k hk (hsubb k ho)⟩
    exact(hk4 k (by omega)).trans (af.keep.block k hk hn)
  have hmk4:∀ d∈mark,∃ D,d={ target:= .collected D,args:= #[] }∧w.heap.size≤D∧w4.heap[D]?=some (.deferred (some []))∧¬ owned (m3.set m.length .dead) ρ3 D:=by
    intro d hd
    obtain⟨D2,q1,q2,q3,q4⟩:=hmk d hd
    have hno:¬ owned (m++[LoopB r.blk N t ps assign body .ready none]) (ρ++[⟨r.blk,0,0⟩]) D2:=fun ho=>by
      rcases owned_snoc hRel.mem.len ho with h1|h1
      · have:=hRel.mem.lt (bad_of_owned h1);omega
      · exact q3 h1
    refine⟨D2,q1,q2,(hk4 D2 q3).trans ((af3.keep.block D2 (heap_lt q4) hno).trans q4),fun ho=>hno (af3.own D2 (heap_lt q4) (hsubo _ ho))⟩
  have hdf:DfR ⟨z,F.round⟩ w4 ρ3 (m3.set m.length .dead) (mark++a.defers):=by
    have h0:=hRel.defers.after af4
    refine⟨h0.1,?_,fun d hd=>?_⟩
    · rw [List.nodup_append]
      refine⟨hnd,h0.2.1,fun d hd d' hd' e=>?_⟩
      subst e
      obtain⟨D2,q1,q2,_⟩:=hmk d hd
      obtain⟨D3,p1,_,p3,_⟩:=hRel.defers.2.2 d hd'
      have:=heap_lt p3
      rw [q1] at p1
      injection p1 with p1
      injection p1 with p1
      omega
    · rcases List.mem_append.1 hd with hd|hd
      · obtain⟨D2,q1,q2,q3,q4⟩:=hmk4 d hd
        exact⟨D2,q1,Nat.le_trans hRel.defers.1.1 q2,q3,q4⟩
      · exact h0.2.2 d hd
  have hR4:Rel N ⟨z,F.round⟩ w4 ρ3 (m3.set m.length .dead) t { a with defers:=mark++a.defers }:=⟨hM4,fun i=>af4.rel (hRel.tm i),hRel.size,hdf⟩
  cases pend with
  |none=>exact⟨t,_,ρ3,hq1 rfl,hR4,af4⟩
  |some c=>exact wpIn_mono (hq2 c rfl F hF z w4 ρ3 _ hR4) fun _ _ _ h=>h.trans af4
end Go.Proofs.YtomkbpoicjabfaaGreatDoor
