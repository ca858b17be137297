import Derived.Test.YtookikhphobnlaaGreatDoorYC
import Derived.Test.YtookikhphobnlaaGreatDoorFY
import Derived.MapKept
set_option linter.unusedSimpArgs false
set_option linter.unusedVariables false
/- a group of a drawn region whose steps look at one another: the walk of each of its orders -/
namespace Go.Proofs.YtookikhphobnlaaGreatDoor
open Go.RowKit
section
variable {P:Program} {N:Nat} {ops:Array Oper} {kd:Nat→Kd} {LL:Lim} {is:List El} {t:List (Nat×V)} {m:Mem} {Q K:List (Nat×V)→Mem→Prop}
theorem d_alt{cs ns:List Nat}{f:Nat}(h:WDg P N ops kd LL (fun t m=>WDs P N ops kd LL is t m Q) f cs ns t m)(hf:cs.length+ns.length=f:=by first|exact rfl|fail):WDs P N ops kd LL (.grp false cs ns::is) t m Q:=by
  subst hf
  unfold WDs
  exact h
theorem wg_0(h:K t m):WDg P N ops kd LL K 0 [] [] t m:=⟨rfl,rfl,h⟩
/-- one of a group's steps, and what follows -/
def WGo(P:Program)(N:Nat)(ops:Array Oper)(kd:Nat→Kd)(LL:Lim)(i:Nat)(t:List (Nat×V))(m:Mem)(R:List (Nat×V)→Mem→Prop):Prop:=∃ o,ops[i]?=some o∧WDop P N LL (kd i) t m o.op o.dst R
/-- each of the makers that are left -/
def WGm(P:Program)(N:Nat)(ops:Array Oper)(kd:Nat→Kd)(LL:Lim)(K:List (Nat×V)→Mem→Prop)(f:Nat)(cs ns l:List Nat)(t:List (Nat×V))(m:Mem):Prop:=∀ n∈l,WGo P N ops kd LL n t m fun t m=>WDg P N ops kd LL K f cs (ns.erase n) t m
theorem wg_b{c f:Nat}{cs ns:List Nat}(h:WGm P N ops kd LL K f (c::cs) ns ns t m)(hb:ns.any (fun n=>reach ops ops.size c n)=true:=by first|exact rfl|fail):WDg P N ops kd LL K (f+1) (c::cs) ns t m:=by
  refine⟨fun c' cs' e hr=>?_,h⟩
  cases e
  obtain⟨n,hn,hx⟩:=List.any_eq_true.1 hb
  rw [hr n hn] at hx
  cases hx
theorem wg_c{c f:Nat}{cs ns:List Nat}(h1:WGo P N ops kd LL c t m fun t m=>WDg P N ops kd LL K f cs ns t m)(h:WGm P N ops kd LL K f (c::cs) ns ns t m):WDg P N ops kd LL K (f+1) (c::cs) ns t m:=by
  refine⟨fun c' cs' e _=>?_,h⟩
  cases e
  exact h1
theorem wg_n{f:Nat}{ns:List Nat}(h:WGm P N ops kd LL K f [] ns ns t m):WDg P N ops kd LL K (f+1) [] ns t m:=⟨fun c' cs' e _=>(by cases e),h⟩
theorem wm_nil{f:Nat}{cs ns:List Nat}:WGm P N ops kd LL K f cs ns [] t m:=fun n hn=>by cases hn
theorem wm_cons{f n:Nat}{cs ns ns' l:List Nat}(h1:WGo P N ops kd LL n t m fun t m=>WDg P N ops kd LL K f cs ns' t m)(h:WGm P N ops kd LL K f cs ns l t m)(he:ns.erase n=ns':=by first|exact rfl|fail):WGm P N ops kd LL K f cs ns (n::l) t m:=by
  subst he
  intro k hk
  rcases List.mem_cons.1 hk with rfl|hk
  · exact h1
  · exact h k hk
theorem wg_op{R:List (Nat×V)→Mem→Prop}{i d:Nat}{op:Op}{ty:TypeId}{pos:String}{af:Array Edge}{g:Option (Nat×Bool)}{p:Prop}{v:V}{m':Mem}(h:R ((d,v)::t) m')(hi:ops[i]?=some ⟨some d,op,ty,pos,af,g⟩:=by first|exact rfl|fail)(hd:dOkB N (some d)=true:=by first|exact rfl|fail)(hev:evA P t m op=some (p,v,m'):=by first|exact ev_|fail)(hp:p:=by first|exact trivial|assumption|omega)
    (hk:kOk P LL (kd i) t op m m' v:=by first|(simp [kOk,isPure,isFresh,isRd,isLd,V.det,detL];done)|(refine Or.inr (Or.inr ⟨_,_,_,_,_,rfl,Or.inr ⟨lk_,Or.inl ?_⟩⟩);simp only [List.length_append,List.length_cons,List.length_nil];omega)|(exact Or.inr (Or.inr ⟨_,_,_,0,0,rfl,Or.inl lk_⟩))|(refine Or.inr (Or.inr ⟨_,_,_,_,_,rfl,Or.inr ⟨lk_,Or.inr ⟨_,ev_,?_⟩⟩⟩);rfl)):WGo P N ops kd LL i t m R:=by
  refine⟨_,hi,dOk_b hd,?_⟩
  dsimp only
  split
  · rename_i fo args ts
    exfalso
    have:evA P t m (.call ⟨.value fo,args,ts⟩)=none:=rfl
    rw [this] at hev
    cases hev
  · rw [hev]
    exact⟨hp,hk,h⟩
end
end Go.Proofs.YtookikhphobnlaaGreatDoor
namespace Go.Proofs.YtookikhphobnlaaGreatDoor
open Go.RowKit

theorem After.objTurn{w w':World}{ρ:List Re}{m:Mem}(h:RelM w ρ m){b:Nat}{vs:List V}{φ φ':Nat→Obj→List Value→Prop}(hb:m[b]?=some (.obj .own vs φ)){r:Re}(hr:ρ[b]?=some r)
    (hos:w'.os=w.os) (htp:w'.tape=w.tape) (hou:w'.output=w.output) (hz:w'.heap.size=w.heap.size) (hk:∀ k,k≠r.blk→w'.heap[k]?=w.heap[k]?) {o':Obj} (ho':w'.heap[r.blk]?=some o') (hd:∀ d,o'≠ .deferred d) (hφ:∀ xs o,w.heap[r.blk]?=some o→φ r.blk o xs→φ' r.blk o' xs):
    After w ρ m w' ρ (m.set b (.obj .own vs φ')):=by
  have hown:owned m ρ r.blk:=⟨b,_,r,hb,rfl,hr,rfl⟩
  refine⟨⟨hos,htp,hou,Nat.le_of_eq hz.symm,fun k _ hn=>hk k fun e=>hn (e ▸ hown)⟩,fun _ _ h=>h,h.objTurn (by decide) (by decide) hb hr hz hk ho' hd hφ,fun k _ ho=>?_,fun k _ ho=>?_⟩
  · exact owned_set_obj (p:=Blk.own) (blk':= .obj .own vs φ') hb rfl ho
  · exact owned_set_obj (p:=Blk.bad) (blk':= .obj .own vs φ') hb rfl ho

abbrev Mp:=List (List UInt8×V)
/-- a value that lies in such a map -/
def mvOk:V→Bool
  | .int _ _=>true
  | .bool _=>true
  |_=>false
def mvV:V→Value
  | .int k n=> .int k n
  | .bool b=> .bool b
  |_=>undef
theorem mv_rel{w:World}{ρ:List Re}{B:Nat→Prop}{v:V}(h:mvOk v=true):RelV w ρ B v (mvV v):=by
  cases v<;>simp [mvOk] at h
  · exact .int _ _
  · exact .bool _
theorem mv_eq{w:World}{ρ:List Re}{B:Nat→Prop}{v:V}{x:Value}(h:mvOk v=true)(hr:RelV w ρ B v x):x=mvV v:=by
  cases hr<;>simp [mvOk] at h<;>rfl
def keyV:Value→Option (List UInt8)
  | .string b=>some b.data.toList
  |_=>none
def entR(es:List MapEntry)(l:Mp):Prop:=es.map (fun e=>(keyV e.key,e.val))=l.map fun p=>(some p.1,mvV p.2)
def mapφ(l:Mp):Nat→Obj→List Value→Prop:=fun _ o _=>(∃ es clock,o= .map es clock∧entR es.toList l)∧∀ p∈l,mvOk p.2=true
/-- a map with these entries -/
abbrev MapB(l:Mp):Blk:= .obj .own [] (mapφ l)
def mget:Mp→List UInt8→Option V
  |[],_=>none
  |p::r,s=>if p.1=s then some p.2 else mget r s
def mput:Mp→List UInt8→V→Mp
  |[],s,v=>[(s,v)]
  |p::r,s,v=>if p.1=s then (s,v)::r else p::mput r s v
theorem mget_ok:∀ {l:Mp} {s:List UInt8} {v:V},(∀ p∈l,mvOk p.2=true)→mget l s=some v→mvOk v=true
  | p::r,s,v,h,hg=>by
    unfold mget at hg
    split at hg
    · cases hg;exact h p List.mem_cons_self
    · exact mget_ok (fun q hq=>h q (List.mem_cons_of_mem _ hq)) hg
theorem mput_ok:∀ {l:Mp} {s:List UInt8} {v:V},(∀ p∈l,mvOk p.2=true)→mvOk v=true→∀ p∈mput l s v,mvOk p.2=true
  | [],s,v,_,hv,p,hp=>by
    rw [List.mem_singleton.1 hp];exact hv
  | q ::r,s,v,h,hv,p,hp=>by
    unfold mput at hp
    split at hp
    · rcases List.mem_cons.1 hp with rfl|hp
      · exact hv
      · exact h p (List.mem_cons_of_mem _ hp)
    · rcases List.mem_cons.1 hp with rfl|hp
      · exact h _ List.mem_cons_self
      · exact mput_ok (fun x hx=>h x (List.mem_cons_of_mem _ hx)) hv p hp
theorem keyV_some{x:Value}{s:List UInt8}(h:keyV x=some s):∃ b:ByteArray,x= .string b∧b.data.toList=s:=by
  unfold keyV at h
  split at h
  · cases h;exact⟨_,rfl,rfl⟩
  · cases h
theorem bytes_ext{a b:ByteArray}(h:a.data.toList=b.data.toList):a=b:=by
  cases a;cases b
  simp only at h
  congr
  exact Array.toList_inj.1 h
theorem find_ent (b:ByteArray) (v:V) (clock:Nat):∀ (es:List MapEntry) (l:Mp) (i:Nat),entR es l→
    (mget l b.data.toList=none∧Instr.findNow .string (.string b) es i=some none∧entR (es++[⟨.string b,mvV v,clock⟩]) (mput l b.data.toList v))∨
    ∃ j u e,mget l b.data.toList=some u∧Instr.findNow .string (.string b) es i=some (some (i+j,mvV u))∧es[j]?=some e∧e.key= .string b∧entR (es.modify j fun e=>{ e with key:= .string b,val:=mvV v }) (mput l b.data.toList v)
  |[],[],i,_=> .inl ⟨rfl,rfl,rfl⟩
  |[],_::_,i,h=>by simp [entR] at h
  |_::_,[],i,h=>by simp [entR] at h
  | e ::es,p::l,i,h=>by
    simp only [entR,List.map_cons,List.cons.injEq,Prod.mk.injEq] at h
    obtain⟨⟨h1,h2⟩,h3⟩:=h
    obtain⟨b',hk,hb'⟩:=keyV_some h1
    have hsame:Instr.sameNow .string (.string b) e.key=some (b==b'):=by rw [hk];rfl
    by_cases hc:p.1=b.data.toList
    · have hbb:b'=b:=bytes_ext (hb'.trans hc)
      subst hbb
      refine .inr ⟨0,p.2,e,?_,?_,rfl,hk,?_⟩
      · simp only [mget,if_pos hc]
      · have:(b'==b')=true:=(MapKept.bytes_beq _ _).2 rfl
        rw [this] at hsame
        simp only [Instr.findNow,hsame,Nat.add_zero,h2]
      · unfold entR mput
        rw [if_pos hc,List.modify_zero_cons,List.map_cons,List.map_cons,h3]
        rfl
    · have hne:(b==b')=false:=by
        cases hq:(b==b') with
        |false=>rfl
        |true=>exact absurd (by rw [(MapKept.bytes_beq _ _).1 hq,hb']) hc
      rw [hne] at hsame
      rcases find_ent b v clock es l (i+1) h3 with ⟨g1,g2,g3⟩|⟨j,u,e',g1,g2,g3,g4,g5⟩
      · refine .inl ⟨?_,?_,?_⟩
        · simp only [mget,if_neg hc];exact g1
        · simp only [Instr.findNow,hsame];exact g2
        · simp only [entR,mput,if_neg hc,List.cons_append,List.map_cons,List.cons.injEq,Prod.mk.injEq]
          exact⟨⟨h1,h2⟩,g3⟩
      · refine .inr ⟨j+1,u,e',?_,?_,by simpa using g3,g4,?_⟩
        · simp only [mget,if_neg hc];exact g1
        · simp only [Instr.findNow,hsame]
          rw [g2,Nat.add_assoc,Nat.add_comm 1 j]
        · simp only [entR,mput,if_neg hc,List.modify_succ_cons,List.map_cons,List.cons.injEq,Prod.mk.injEq]
          exact⟨⟨h1,h2⟩,g5⟩
theorem ent_len{es:List MapEntry}{l:Mp}(h:entR es l):es.length=l.length:=by simpa [entR] using congrArg List.length h

section
variable {P:Program} {t:List (Nat×V)} {m:Mem} {K:V→Mem→Prop}
theorem map_get{w:World}{ρ:List Re}(hM:RelM w ρ m){b:Nat}{st:Sta}{l:Mp}(hb:m[b]?=some (.obj st [] (mapφ l))):∃ r es clock,ρ[b]?=some r∧w.heap[r.blk]?=some (.map es clock)∧entR es.toList l∧∀ p∈l,mvOk p.2=true:=by
  obtain⟨r,h1,o,xs,h2,_,⟨⟨es,clock,rfl,h4⟩,h5⟩,_⟩:=hM.objs b _ _ _ hb
  exact⟨r,es,clock,h1,h2,h4,h5⟩
theorem mp_eval{w:World}{ρ:List Re}{a:Act}(hM:RelM w ρ m)(hT:RelT w ρ m t a){x:Operand}{b:Nat}(hx:evO t x= .mp b){r:Re}(hr:ρ[b]?=some r):a.eval x= .map (some r.blk):=by
  have h:=evO_rel hT x
  rw [hx] at h
  generalize a.eval x=y at h
  cases h with|mp _ r' hr'=>rw [hr] at hr';cases hr';rfl
theorem str_eval{w:World}{ρ:List Re}{a:Act}(hM:RelM w ρ m)(hT:RelT w ρ m t a){x:Operand}{s:List UInt8}(hx:evO t x= .str s):∃ b:ByteArray,a.eval x= .string b∧b.data.toList=s:=by
  have h:=evO_rel hT x
  rw [hx] at h
  generalize a.eval x=y at h
  cases h with|str _ b hb=>exact⟨b,rfl,hb⟩
def lookV(ok:Bool)(o:Option V)(z:V):V:=if ok=true then .tup [o.getD z,.bool o.isSome] else o.getD z
def zeroOf(P:Program)(E:TypeId):Option Value:=(P.info? E).bind (·.zero)
theorem run_zero{E:TypeId}{z:Value}(h:zeroOf P E=some z)(w:World):(zeroValue E).run P w= .ok z w:=by
  unfold zeroOf at h
  obtain⟨i,h1,h2⟩:=Option.bind_eq_some_iff.1 h
  simp [zeroValue,typeInfo,h1,h2,go_sem]
/-- a look-up -/
theorem x_look {T KT E:TypeId} {x k:Operand} {ok:Bool} {b:Nat} {s:List UInt8} {st:Sta} {l:Mp} {z:V} (hx:evO t x= .mp b) (hk:evO t k= .str s) (hb:m[b]?=some (.obj st [] (mapφ l)))
    (hT:P.underlying T=some (.map KT E)) (hK:P.underlying KT=some .string) (hz:zeroOf P E=some (mvV z)) (hzo:mvOk z=true) (h:K (lookV ok (mget l s) z) m):XOp P t m (.lookup T x k ok) K:=by
  refine⟨fun c=>by simp,fun w ρ a o ho hM hTm=>?_⟩
  obtain⟨r,es,clock,hr,hh,he,hv⟩:=map_get hM hb
  have ex:=mp_eval hM hTm hx hr
  obtain⟨bs,ek,rfl⟩:=str_eval hM hTm hk
  have hget:∀ w,(Instr.checkKey es.isEmpty 10000 KT (.string bs)).run P w= .ok () w:=fun w=>MapKept.run_checkKey hK (d:= .string) (k:= .string bs) trivial _ 9999
  rcases find_ent bs (.bool true) 0 es.toList l 0 he with ⟨g1,g2,_⟩|⟨j,u,e,g1,g2,g3,g4,_⟩
  · rw [g1] at h
    refine⟨.value (if ok=true then .tuple #[mvV z,.bool false] else mvV z),w,_,m,ρ,?_,h,After.refl hM,.inl ⟨_,rfl,?_⟩⟩
    · have hfind:=MapKept.run_findKey (w:=w) hK g2
      simp only [execOp,ho,ex,ek]
      cases ok<;>simp [Instr.lookup,run_underlying hT,MapKept.run_getObj_map hh,hget,hfind,run_zero hz,Result.andThen]
    · unfold lookV
      cases ok with
      |false=>exact mv_rel hzo
      | true=>
        refine .tup _ _ rfl fun i c y q1 q2=>?_
        rcases i with _|_|i
        · simp at q1 q2;subst q1;subst q2;exact mv_rel hzo
        · simp at q1 q2;subst q1;subst q2;exact .bool _
        · simp at q1
  · rw [g1] at h
    have hu:=mget_ok hv g1
    refine⟨.value (if ok=true then .tuple #[mvV u,.bool true] else mvV u),w,_,m,ρ,?_,h,After.refl hM,.inl ⟨_,rfl,?_⟩⟩
    · have hfind:=MapKept.run_findKey (w:=w) hK g2
      simp only [execOp,ho,ex,ek]
      cases ok<;>simp [Instr.lookup,run_underlying hT,MapKept.run_getObj_map hh,hget,hfind,Result.andThen]
    · unfold lookV
      cases ok with
      |false=>exact mv_rel hu
      | true=>
        refine .tup _ _ rfl fun i c y q1 q2=>?_
        rcases i with _|_|i
        · simp at q1 q2;subst q1;subst q2;exact mv_rel hu
        · simp at q1 q2;subst q1;subst q2;exact .bool _
        · simp at q1
theorem upd_run{w:World}{ρ:List Re}{T KT E:TypeId}{b:Nat}{bs:ByteArray}{l:Mp}{v:V}{y:Value}(hM:RelM w ρ m)(hb:m[b]?=some (MapB l))(hT:P.underlying T=some (.map KT E))(hK:P.underlying KT=some .string)(hvo:mvOk v=true)(hy:y=mvV v):
    ∃ r w',ρ[b]?=some r∧(Instr.mapUpdate T (.map (some r.blk)) (.string bs) y).run P w= .ok () w'∧After w ρ m w' ρ (m.set b (MapB (mput l bs.data.toList v))):=by
  subst hy
  obtain⟨r,es,clock,hr,hh,he,hv⟩:=map_get hM hb
  have hget:∀ w,(Instr.checkKey false 10000 KT (.string bs)).run P w= .ok () w:=fun w=>MapKept.run_checkKey hK (d:= .string) (k:= .string bs) trivial _ 9999
  have fin:∀ o':Obj,(∃ es' clock',o'= .map es' clock'∧entR es'.toList (mput l bs.data.toList v))→After w ρ m { w with heap:=w.heap.setIfInBounds r.blk o' } ρ (m.set b (MapB (mput l bs.data.toList v))):=by
    rintro o' ⟨es',clock',rfl,h'⟩
    obtain⟨s1,s2⟩:=MapKept.heap_set (o':= .map es' clock') hh
    exact After.objTurn hM hb hr rfl rfl rfl (by simp) s2 s1 (by simp) fun _ _ _ _=>⟨⟨es',clock',rfl,h'⟩,mput_ok hv hvo⟩
  rcases find_ent bs v clock es.toList l 0 he with ⟨g1,g2,g3⟩|⟨j,u,e,g1,g2,g3,g4,g5⟩
  · have hfind:=MapKept.run_findKey (w:=w) hK g2
    refine⟨r,_,hr,?_,fin (.map (es.push ⟨.string bs,mvV v,clock⟩) (clock+1)) ⟨_,_,rfl,by simpa using g3⟩⟩
    simp [Instr.mapUpdate,run_underlying hT,MapKept.run_getObj_map hh,hget,hfind,MapKept.run_setObj_map _ hh,Result.andThen]
  · have hfind:=MapKept.run_findKey (w:=w) hK g2
    rw [Nat.zero_add] at hfind
    have hst:(Instr.keyThatStays (.string bs) (.string bs)).run P w= .ok (.string bs) w:=MapKept.run_keyThatStays (d:= .string) trivial
    have he0:es[j]?=some e:=by simpa using g3
    refine⟨r,_,hr,?_,fin (.map (es.modify j fun e=>{ e with key:= .string bs,val:=mvV v }) clock) ⟨_,_,rfl,?_⟩⟩
    · simp [Instr.mapUpdate,run_underlying hT,MapKept.run_getObj_map hh,hget,hfind,he0,g4,hst,MapKept.run_setObj_map _ hh,Result.andThen]
    · rw [Array.toList_modify];exact g5
/-- an entry is laid -/
theorem x_upd{T KT E:TypeId}{x k y:Operand}{b:Nat}{s:List UInt8}{l:Mp}{v:V}(hx:evO t x= .mp b)(hk:evO t k= .str s)(hy:evO t y=v)(hvo:mvOk v=true)(hb:m[b]?=some (MapB l))
    (hT:P.underlying T=some (.map KT E)) (hK:P.underlying KT=some .string) (h:K .any (m.set b (MapB (mput l s v)))) {op:Op} (hop:op= .mapUpdate T x k y∨op= .insert T x k y):XOp P t m op K:=by
  refine⟨fun c=>by rcases hop with rfl|rfl<;>simp,fun w ρ a o ho hM hTm=>?_⟩
  obtain⟨bs,ek,rfl⟩:=str_eval hM hTm hk
  have hyr:=evO_rel hTm y
  rw [hy] at hyr
  have ey:=mv_eq hvo hyr
  obtain⟨r,w',hr,hrun,af⟩:=upd_run (P:=P) (bs:=bs) hM hb hT hK hvo ey
  have ex:=mp_eval hM hTm hx hr
  refine⟨.skip,w',.any,_,ρ,?_,h,af,.inr ⟨rfl,rfl⟩⟩
  rcases hop with rfl|rfl
  · simp only [execOp,ho,ex,ek]
    simp [hrun,Result.andThen]
  · simp only [execOp,ho,ex,ek]
    simp [hrun,Result.andThen]
/-- a new map -/
theorem x_make{T:TypeId}(h:K (.mp m.length) (m++[MapB []])):XOp P t m (.makeMap T none) K:=by
  refine⟨fun c=>by simp,fun w ρ a o ho hM hTm=>?_⟩
  have hbl:Below w.heap.size w (w.alloc (.map #[] 0)):=(Below.refl _ w).alloc (Nat.le_refl _) _
  have af:After w ρ m (w.alloc (.map #[] 0)) (ρ++[⟨w.heap.size,0,0⟩]) (m++[MapB []]):=After.pushObj hM hbl w.heap.size (Nat.le_refl _) [] (World.alloc_heap_new w _) (by simp) ⟨⟨#[],0,rfl,rfl⟩,fun p hp=>by cases hp⟩ rfl fun i v x h=>by simp at h
  refine⟨.value (.map (some w.heap.size)),_,_,_,_,?_,h,af,.inl ⟨_,rfl,?_⟩⟩
  · simp only [execOp,ho]
    simp [Instr.makeMap,Result.andThen]
  · exact .mp _ ⟨w.heap.size,0,0⟩ (by rw [←hM.len];simp)
/-- how many entries -/
theorem x_mlen{T KT E:TypeId}{x:Operand}{b:Nat}{st:Sta}{l:Mp}(hx:evO t x= .mp b)(hb:m[b]?=some (.obj st [] (mapφ l)))(hT:P.underlying T=some (.map KT E))(h:K (.int .i64 l.length) m):XOp P t m (.call ⟨.builtin .len,#[x],#[T]⟩) K:=by
  refine⟨fun c=>by simp,fun w ρ a o ho hM hTm=>?_⟩
  obtain⟨r,es,clock,hr,hh,he,hv⟩:=map_get hM hb
  have ex:=mp_eval hM hTm hx hr
  refine⟨.value (.int .i64 es.size),w,_,m,ρ,?_,h,After.refl hM,.inl ⟨_,rfl,?_⟩⟩
  · have hlen:∀ ty,(Builtin.len_ #[T] ty #[.map (some r.blk)]).run P w= .ok (goInt es.size) w:=fun ty=>by simp [Builtin.len_,run_underlying hT,MapKept.run_getObj_map hh,Result.andThen]
    simp [execOp,ho,ex,resolve,Deferred.ofValue,invoke,builtin,hlen,Result.andThen,goInt]
  · have:es.size=l.length:=by rw [←ent_len he];simp
    rw [this];exact .int _ _
end
section
variable {P:Program} {N:Nat} {t:List (Nat×V)} {m m':Mem} {Q:List (Nat×V)→Mem→Prop} {ops:Array Oper} {rest:List Oper} {k:Option Nat} {ty:TypeId} {pos:String} {af:Array Edge}
theorem WOs_x{op:Op}(hd:dOk N k)(hc:(∀ f args ts,op≠ .call ⟨.value f,args,ts⟩))(he:evA P t m op=none)(hv:cvStr P t op=none)(h:XOp P t m op fun v m'=>WOs P N ops rest (tput t k v) m' Q):WOs P N ops (⟨k,op,ty,pos,af,none⟩::rest) t m Q:=by
  simp only [WOs,WOp]
  refine⟨hd,?_⟩
  split
  · rename_i heq;rw [he] at heq;cases heq
  · rw [hv];exact h
theorem s_look{T:TypeId}{x y:Operand}{ok:Bool}{b:Nat}{s:List UInt8}{st:Sta}{l:Mp}{KT E:TypeId}{z:V}(hb:m[b]?=some (.obj st [] (mapφ l)))(h:WOs P N ops rest (tput t k (lookV ok (mget l s) z)) m Q)
    (hd:dOkB N k=true) (hx:evO t x= .mp b) (hk:evO t y= .str s) (hT:P.underlying T=some (.map KT E)) (hK:P.underlying KT=some .string) (hz:zeroOf P E=some (mvV z)) (hzo:mvOk z=true):WOs P N ops (⟨k,.lookup T x y ok,ty,pos,af,none⟩::rest) t m Q:=
  WOs_x (dOk_b hd) (by simp) rfl rfl (x_look hx hk hb hT hK hz hzo h)
theorem s_upd{T:TypeId}{x y u:Operand}{b:Nat}{s:List UInt8}{l:Mp}{KT E:TypeId}{v:V}{op:Op}(hb:m[b]?=some (MapB l))(h:WOs P N ops rest (tput t k .any) (m.set b (MapB (mput l s v))) Q)
    (hop:op= .mapUpdate T x y u∨op= .insert T x y u) (hd:dOkB N k=true) (hx:evO t x= .mp b) (hk:evO t y= .str s) (hu:evO t u=v) (hvo:mvOk v=true) (hT:P.underlying T=some (.map KT E)) (hK:P.underlying KT=some .string):WOs P N ops (⟨k,op,ty,pos,af,none⟩::rest) t m Q:=by
  have hx2:=x_upd (K:=fun v m'=>WOs P N ops rest (tput t k v) m' Q) hx hk hu hvo hb hT hK h hop
  rcases hop with rfl|rfl
  · exact WOs_x (dOk_b hd) (by simp) rfl rfl hx2
  · exact WOs_x (dOk_b hd) (by simp) rfl rfl hx2
theorem s_mkmap{T:TypeId}(h:WOs P N ops rest (tput t k (.mp m.length)) (m++[MapB []]) Q)(hd:dOkB N k=true):WOs P N ops (⟨k,.makeMap T none,ty,pos,af,none⟩::rest) t m Q:=
  WOs_x (dOk_b hd) (by simp) rfl rfl (x_make h)
theorem s_mlen{T:TypeId}{x:Operand}{b:Nat}{st:Sta}{l:Mp}{KT E:TypeId}(hb:m[b]?=some (.obj st [] (mapφ l)))(h:WOs P N ops rest (tput t k (.int .i64 l.length)) m Q)(hd:dOkB N k=true)(hx:evO t x= .mp b)(hT:P.underlying T=some (.map KT E)):WOs P N ops (⟨k,.call ⟨.builtin .len,#[x],#[T]⟩,ty,pos,af,none⟩::rest) t m Q:=by
  refine WOs_x (dOk_b hd) (by simp) ?_ rfl (x_mlen hx hb hT h)
  rw [ev_len,hx]
  simp [evLen,hT,okO]
end
end Go.Proofs.YtookikhphobnlaaGreatDoor
