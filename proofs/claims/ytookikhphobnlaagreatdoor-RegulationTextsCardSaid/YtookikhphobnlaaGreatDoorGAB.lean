import Derived.Test.YtookikhphobnlaaGreatDoorGAA
import Derived.MapKept
import Derived.Test.YtookikhphobnlaaGreatDoorYC
set_option linter.unusedSimpArgs false
set_option linter.unusedVariables false
/- maps from texts to numbers or truth values, of the call's own -/
namespace Go.Proofs.YtookikhphobnlaaGreatDoor
open Go.RowKit

theorem After.objTurn{w w':World}{ρ:List Re}{m:Mem}(h:RelM w ρ m){b:Nat}{vs:List V}{φ φ':Nat→Obj→List Value→Prop}(hb:m[b]?=some (.obj .own vs φ)){r:Re}(hr:ρ[b]?=some r)
    (hos:w'.os=w.os) (htp:w'.tape=w.tape) (hou:w'.output=w.output) (hz:w'.heap.size=w.heap.size) (hk:∀ k,k≠r.blk→w'.heap[k]?=w.heap[k]?) {o':Obj} (ho':w'.heap[r.blk]?=some o') (hd:∀ d,o'≠ .deferred d) (hφ:∀ xs o,w.heap[r.blk]?=some o→φ r.blk o xs→φ' r.blk o' xs):
    After w ρ m w' ρ (m.set b (.obj .own vs φ')):=by
  have hown:owned m ρ r.blk:=⟨b,_,r,hb,rfl,hr,rfl⟩
  refine⟨⟨hos,htp,hou,Nat.le_of_eq hz.symm,fun k _ hn=>hk k fun e=>hn (e ▸ hown)⟩,fun _ _ h=>h,h.objTurn (by decide) (by decide) hb hr hz hk ho' hd hφ,fun k _ ho=>?_,fun k _ ho=>?_⟩
  · exact owned_set_obj (p:=Blk.own) (blk':= .obj .own vs φ') hb rfl ho
  · exact owned_set_obj (p:=Blk.bad) (blk':= .obj .own vs φ') hb rfl ho

abbrev Mp:=List (List UInt8×V)
/-- a value that lies in such a map -/
def mvOk:V→Bool
  | .int _ _=>true
  | .bool _=>true
  |_=>false
def mvV:V→Value
  | .int k n=> .int k n
  | .bool b=> .bool b
  |_=>undef
theorem mv_rel{w:World}{ρ:List Re}{B:Nat→Prop}{v:V}(h:mvOk v=true):RelV w ρ B v (mvV v):=by
  cases v<;>simp [mvOk] at h
  · exact .int _ _
  · exact .bool _
theorem mv_eq{w:World}{ρ:List Re}{B:Nat→Prop}{v:V}{x:Value}(h:mvOk v=true)(hr:RelV w ρ B v x):x=mvV v:=by
  cases hr<;>simp [mvOk] at h<;>rfl
def keyV:Value→Option (List UInt8)
  | .string b=>some b.data.toList
  |_=>none
def entR(es:List MapEntry)(l:Mp):Prop:=es.map (fun e=>(keyV e.key,e.val))=l.map fun p=>(some p.1,mvV p.2)
def mapφ(l:Mp):Nat→Obj→List Value→Prop:=fun _ o _=>(∃ es clock,o= .map es clock∧entR es.toList l)∧∀ p∈l,mvOk p.2=true
/-- a map with these entries -/
abbrev MapB(l:Mp):Blk:= .obj .own [] (mapφ l)
def mget:Mp→List UInt8→Option V
  |[],_=>none
  |p::r,s=>if p.1=s then some p.2 else mget r s
def mput:Mp→List UInt8→V→Mp
  |[],s,v=>[(s,v)]
  |p::r,s,v=>if p.1=s then (s,v)::r else p::mput r s v
theorem mget_ok:∀ {l:Mp} {s:List UInt8} {v:V},(∀ p∈l,mvOk p.2=true)→mget l s=some v→mvOk v=true
  | p::r,s,v,h,hg=>by
    unfold mget at hg
    split at hg
    · cases hg;exact h p List.mem_cons_self
    · exact mget_ok (fun q hq=>h q (List.mem_cons_of_mem _ hq)) hg
theorem mput_ok:∀ {l:Mp} {s:List UInt8} {v:V},(∀ p∈l,mvOk p.2=true)→mvOk v=true→∀ p∈mput l s v,mvOk p.2=true
  | [],s,v,_,hv,p,hp=>by
    rw [List.mem_singleton.1 hp];exact hv
  | q ::r,s,v,h,hv,p,hp=>by
    unfold mput at hp
    split at hp
    · rcases List.mem_cons.1 hp with rfl|hp
      · exact hv
      · exact h p (List.mem_cons_of_mem _ hp)
    · rcases List.mem_cons.1 hp with rfl|hp
      · exact h _ List.mem_cons_self
      · exact mput_ok (fun x hx=>h x (List.mem_cons_of_mem _ hx)) hv p hp
theorem keyV_some{x:Value}{s:List UInt8}(h:keyV x=some s):∃ b:ByteArray,x= .string b∧b.data.toList=s:=by
  unfold keyV at h
  split at h
  · cases h;exact⟨_,rfl,rfl⟩
  · cases h
theorem bytes_ext{a b:ByteArray}(h:a.data.toList=b.data.toList):a=b:=by
  cases a;cases b
  simp only at h
  congr
  exact Array.toList_inj.1 h
theorem find_ent (b:ByteArray) (v:V) (clock:Nat):∀ (es:List MapEntry) (l:Mp) (i:Nat),entR es l→
    (mget l b.data.toList=none∧Instr.findNow .string (.string b) es i=some none∧entR (es++[⟨.string b,mvV v,clock⟩]) (mput l b.data.toList v))∨
    ∃ j u e,mget l b.data.toList=some u∧Instr.findNow .string (.string b) es i=some (some (i+j,mvV u))∧es[j]?=some e∧e.key= .string b∧entR (es.modify j fun e=>{ e with key:= .string b,val:=mvV v }) (mput l b.data.toList v)
  |[],[],i,_=> .inl ⟨rfl,rfl,rfl⟩
  |[],_::_,i,h=>by simp [entR] at h
  |_::_,[],i,h=>by simp [entR] at h
  | e ::es,p::l,i,h=>by
    simp only [entR,List.map_cons,List.cons.injEq,Prod.mk.injEq] at h
    obtain⟨⟨h1,h2⟩,h3⟩:=h
    obtain⟨b',hk,hb'⟩:=keyV_some h1
    have hsame:Instr.sameNow .string (.string b) e.key=some (b==b'):=by rw [hk];rfl
    by_cases hc:p.1=b.data.toList
    · have hbb:b'=b:=bytes_ext (hb'.trans hc)
      subst hbb
      refine .inr ⟨0,p.2,e,?_,?_,rfl,hk,?_⟩
      · simp only [mget,if_pos hc]
      · have:(b'==b')=true:=(MapKept.bytes_beq _ _).2 rfl
        rw [this] at hsame
        simp only [Instr.findNow,hsame,Nat.add_zero,h2]
      · unfold entR mput
        rw [if_pos hc,List.modify_zero_cons,List.map_cons,List.map_cons,h3]
        rfl
    · have hne:(b==b')=false:=by
        cases hq:(b==b') with
        |false=>rfl
        |true=>exact absurd (by rw [(MapKept.bytes_beq _ _).1 hq,hb']) hc
      rw [hne] at hsame
      rcases find_ent b v clock es l (i+1) h3 with ⟨g1,g2,g3⟩|⟨j,u,e',g1,g2,g3,g4,g5⟩
      · refine .inl ⟨?_,?_,?_⟩
        · simp only [mget,if_neg hc];exact g1
        · simp only [Instr.findNow,hsame];exact g2
        · simp only [entR,mput,if_neg hc,List.cons_append,List.map_cons,List.cons.injEq,Prod.mk.injEq]
          exact⟨⟨h1,h2⟩,g3⟩
      · refine .inr ⟨j+1,u,e',?_,?_,by simpa using g3,g4,?_⟩
        · simp only [mget,if_neg hc];exact g1
        · simp only [Instr.findNow,hsame]
          rw [g2,Nat.add_assoc,Nat.add_comm 1 j]
        · simp only [entR,mput,if_neg hc,List.modify_succ_cons,List.map_cons,List.cons.injEq,Prod.mk.injEq]
          exact⟨⟨h1,h2⟩,g5⟩
theorem ent_len{es:List MapEntry}{l:Mp}(h:entR es l):es.length=l.length:=by simpa [entR] using congrArg List.length h

section
variable {P:Program} {t:List (Nat×V)} {m:Mem} {K:V→Mem→Prop}
theorem map_get{w:World}{ρ:List Re}(hM:RelM w ρ m){b:Nat}{st:Sta}{l:Mp}(hb:m[b]?=some (.obj st [] (mapφ l))):∃ r es clock,ρ[b]?=some r∧w.heap[r.blk]?=some (.map es clock)∧entR es.toList l∧∀ p∈l,mvOk p.2=true:=by
  obtain⟨r,h1,o,xs,h2,_,⟨⟨es,clock,rfl,h4⟩,h5⟩,_⟩:=hM.objs b _ _ _ hb
  exact⟨r,es,clock,h1,h2,h4,h5⟩
theorem mp_eval{w:World}{ρ:List Re}{a:Act}(hM:RelM w ρ m)(hT:RelT w ρ m t a){x:Operand}{b:Nat}(hx:evO t x= .mp b){r:Re}(hr:ρ[b]?=some r):a.eval x= .map (some r.blk):=by
  have h:=evO_rel hT x
  rw [hx] at h
  generalize a.eval x=y at h
  cases h with|mp _ r' hr'=>rw [hr] at hr';cases hr';rfl
theorem str_eval{w:World}{ρ:List Re}{a:Act}(hM:RelM w ρ m)(hT:RelT w ρ m t a){x:Operand}{s:List UInt8}(hx:evO t x= .str s):∃ b:ByteArray,a.eval x= .string b∧b.data.toList=s:=by
  have h:=evO_rel hT x
  rw [hx] at h
  generalize a.eval x=y at h
  cases h with|str _ b hb=>exact⟨b,rfl,hb⟩
def lookV(ok:Bool)(o:Option V)(z:V):V:=if ok=true then .tup [o.getD z,.bool o.isSome] else o.getD z
def zeroOf(P:Program)(E:TypeId):Option Value:=(P.info? E).bind (·.zero)
theorem run_zero{E:TypeId}{z:Value}(h:zeroOf P E=some z)(w:World):(zeroValue E).run P w= .ok z w:=by
  unfold zeroOf at h
  obtain⟨i,h1,h2⟩:=Option.bind_eq_some_iff.1 h
  simp [zeroValue,typeInfo,h1,h2,go_sem]
/-- a look-up -/
theorem x_look {T KT E:TypeId} {x k:Operand} {ok:Bool} {b:Nat} {s:List UInt8} {st:Sta} {l:Mp} {z:V} (hx:evO t x= .mp b) (hk:evO t k= .str s) (hb:m[b]?=some (.obj st [] (mapφ l)))
    (hT:P.underlying T=some (.map KT E)) (hK:P.underlying KT=some .string) (hz:zeroOf P E=some (mvV z)) (hzo:mvOk z=true) (h:K (lookV ok (mget l s) z) m):XOp P t m (.lookup T x k ok) K:=by
  refine⟨fun c=>by simp,fun w ρ a o ho hM hTm=>?_⟩
  obtain⟨r,es,clock,hr,hh,he,hv⟩:=map_get hM hb
  have ex:=mp_eval hM hTm hx hr
  obtain⟨bs,ek,rfl⟩:=str_eval hM hTm hk
  have hget:∀ w,(Instr.checkKey es.isEmpty 10000 KT (.string bs)).run P w= .ok () w:=fun w=>MapKept.run_checkKey hK (d:= .string) (k:= .string bs) trivial _ 9999
  rcases find_ent bs (.bool true) 0 es.toList l 0 he with ⟨g1,g2,_⟩|⟨j,u,e,g1,g2,g3,g4,_⟩
  · rw [g1] at h
    refine⟨.value (if ok=true then .tuple #[mvV z,.bool false] else mvV z),w,_,m,ρ,?_,h,After.refl hM,.inl ⟨_,rfl,?_⟩⟩
    · have hfind:=MapKept.run_findKey (w:=w) hK g2
      simp only [execOp,ho,ex,ek]
      cases ok<;>simp [Instr.lookup,run_underlying hT,MapKept.run_getObj_map hh,hget,hfind,run_zero hz,Result.andThen]
    · unfold lookV
      cases ok with
      |false=>exact mv_rel hzo
      | true=>
        refine .tup _ _ rfl fun i c y q1 q2=>?_
        rcases i with _|_|i
        · simp at q1 q2;subst q1;subst q2;exact mv_rel hzo
        · simp at q1 q2;subst q1;subst q2;exact .bool _
        · simp at q1
  · rw [g1] at h
    have hu:=mget_ok hv g1
    refine⟨.value (if ok=true then .tuple #[mvV u,.bool true] else mvV u),w,_,m,ρ,?_,h,After.refl hM,.inl ⟨_,rfl,?_⟩⟩
    · have hfind:=MapKept.run_findKey (w:=w) hK g2
      simp only [execOp,ho,ex,ek]
      cases ok<;>simp [Instr.lookup,run_underlying hT,MapKept.run_getObj_map hh,hget,hfind,Result.andThen]
    · unfold lookV
      cases ok with
      |false=>exact mv_rel hu
      | true=>
        refine .tup _ _ rfl fun i c y q1 q2=>?_
        rcases i with _|_|i
        · simp at q1 q2;subst q1;subst q2;exact mv_rel hu
        · simp at q1 q2;subst q1;subst q2;exact .bool _
        · simp at q1
theorem upd_run{w:World}{ρ:List Re}{T KT E:TypeId}{b:Nat}{bs:ByteArray}{l:Mp}{v:V}{y:Value}(hM:RelM w ρ m)(hb:m[b]?=some (MapB l))(hT:P.underlying T=some (.map KT E))(hK:P.underlying KT=some .string)(hvo:mvOk v=true)(hy:y=mvV v):
    ∃ r w',ρ[b]?=some r∧(Instr.mapUpdate T (.map (some r.blk)) (.string bs) y).run P w= .ok () w'∧After w ρ m w' ρ (m.set b (MapB (mput l bs.data.toList v))):=by
  subst hy
  obtain⟨r,es,clock,hr,hh,he,hv⟩:=map_get hM hb
  have hget:∀ w,(Instr.checkKey false 10000 KT (.string bs)).run P w= .ok () w:=fun w=>MapKept.run_checkKey hK (d:= .string) (k:= .string bs) trivial _ 9999
  have fin:∀ o':Obj,(∃ es' clock',o'= .map es' clock'∧entR es'.toList (mput l bs.data.toList v))→After w ρ m { w with heap:=w.heap.setIfInBounds r.blk o' } ρ (m.set b (MapB (mput l bs.data.toList v))):=by
    rintro o' ⟨es',clock',rfl,h'⟩
    obtain⟨s1,s2⟩:=MapKept.heap_set (o':= .map es' clock') hh
    exact After.objTurn hM hb hr rfl rfl rfl (by simp) s2 s1 (by simp) fun _ _ _ _=>⟨⟨es',clock',rfl,h'⟩,mput_ok hv hvo⟩
  rcases find_ent bs v clock es.toList l 0 he with ⟨g1,g2,g3⟩|⟨j,u,e,g1,g2,g3,g4,g5⟩
  · have hfind:=MapKept.run_findKey (w:=w) hK g2
    refine⟨r,_,hr,?_,fin (.map (es.push ⟨.string bs,mvV v,clock⟩) (clock+1)) ⟨_,_,rfl,by simpa using g3⟩⟩
    simp [Instr.mapUpdate,run_underlying hT,MapKept.run_getObj_map hh,hget,hfind,MapKept.run_setObj_map _ hh,Result.andThen]
  · have hfind:=MapKept.run_findKey (w:=w) hK g2
    rw [Nat.zero_add] at hfind
    have hst:(Instr.keyThatStays (.string bs) (.string bs)).run P w= .ok (.string bs) w:=MapKept.run_keyThatStays (d:= .string) trivial
    have he0:es[j]?=some e:=by simpa using g3
    refine⟨r,_,hr,?_,fin (.map (es.modify j fun e=>{ e with key:= .string bs,val:=mvV v }) clock) ⟨_,_,rfl,?_⟩⟩
    · simp [Instr.mapUpdate,run_underlying hT,MapKept.run_getObj_map hh,hget,hfind,he0,g4,hst,MapKept.run_setObj_map _ hh,Result.andThen]
    · rw [Array.toList_modify];exact g5
/-- an entry is laid -/
theorem x_upd{T KT E:TypeId}{x k y:Operand}{b:Nat}{s:List UInt8}{l:Mp}{v:V}(hx:evO t x= .mp b)(hk:evO t k= .str s)(hy:evO t y=v)(hvo:mvOk v=true)(hb:m[b]?=some (MapB l))
    (hT:P.underlying T=some (.map KT E)) (hK:P.underlying KT=some .string) (h:K .any (m.set b (MapB (mput l s v)))) {op:Op} (hop:op= .mapUpdate T x k y∨op= .insert T x k y):XOp P t m op K:=by
  refine⟨fun c=>by rcases hop with rfl|rfl<;>simp,fun w ρ a o ho hM hTm=>?_⟩
  obtain⟨bs,ek,rfl⟩:=str_eval hM hTm hk
  have hyr:=evO_rel hTm y
  rw [hy] at hyr
  have ey:=mv_eq hvo hyr
  obtain⟨r,w',hr,hrun,af⟩:=upd_run (P:=P) (bs:=bs) hM hb hT hK hvo ey
  have ex:=mp_eval hM hTm hx hr
  refine⟨.skip,w',.any,_,ρ,?_,h,af,.inr ⟨rfl,rfl⟩⟩
  rcases hop with rfl|rfl
  · simp only [execOp,ho,ex,ek]
    simp [hrun,Result.andThen]
  · simp only [execOp,ho,ex,ek]
    simp [hrun,Result.andThen]
/-- a new map -/
theorem x_make{T:TypeId}(h:K (.mp m.length) (m++[MapB []])):XOp P t m (.makeMap T none) K:=by
  refine⟨fun c=>by simp,fun w ρ a o ho hM hTm=>?_⟩
  have hbl:Below w.heap.size w (w.alloc (.map #[] 0)):=(Below.refl _ w).alloc (Nat.le_refl _) _
  have af:After w ρ m (w.alloc (.map #[] 0)) (ρ++[⟨w.heap.size,0,0⟩]) (m++[MapB []]):=After.pushObj hM hbl w.heap.size (Nat.le_refl _) [] (World.alloc_heap_new w _) (by simp) ⟨⟨#[],0,rfl,rfl⟩,fun p hp=>by cases hp⟩ rfl fun i v x h=>by simp at h
  refine⟨.value (.map (some w.heap.size)),_,_,_,_,?_,h,af,.inl ⟨_,rfl,?_⟩⟩
  · simp only [execOp,ho]
    simp [Instr.makeMap,Result.andThen]
  · exact .mp _ ⟨w.heap.size,0,0⟩ (by rw [←hM.len];simp)
/-- how many entries -/
theorem x_mlen{T KT E:TypeId}{x:Operand}{b:Nat}{st:Sta}{l:Mp}(hx:evO t x= .mp b)(hb:m[b]?=some (.obj st [] (mapφ l)))(hT:P.underlying T=some (.map KT E))(h:K (.int .i64 l.length) m):XOp P t m (.call ⟨.builtin .len,#[x],#[T]⟩) K:=by
  refine⟨fun c=>by simp,fun w ρ a o ho hM hTm=>?_⟩
  obtain⟨r,es,clock,hr,hh,he,hv⟩:=map_get hM hb
  have ex:=mp_eval hM hTm hx hr
  refine⟨.value (.int .i64 es.size),w,_,m,ρ,?_,h,After.refl hM,.inl ⟨_,rfl,?_⟩⟩
  · have hlen:∀ ty,(Builtin.len_ #[T] ty #[.map (some r.blk)]).run P w= .ok (goInt es.size) w:=fun ty=>by simp [Builtin.len_,run_underlying hT,MapKept.run_getObj_map hh,Result.andThen]
    simp [execOp,ho,ex,resolve,Deferred.ofValue,invoke,builtin,hlen,Result.andThen,goInt]
  · have:es.size=l.length:=by rw [←ent_len he];simp
    rw [this];exact .int _ _
end
section
variable {P:Program} {N:Nat} {t:List (Nat×V)} {m m':Mem} {Q:List (Nat×V)→Mem→Prop} {ops:Array Oper} {rest:List Oper} {k:Option Nat} {ty:TypeId} {pos:String} {af:Array Edge}
theorem WOs_x{op:Op}(hd:dOk N k)(hc:(∀ f args ts,op≠ .call ⟨.value f,args,ts⟩))(he:evA P t m op=none)(hv:cvStr P t op=none)(h:XOp P t m op fun v m'=>WOs P N ops rest (tput t k v) m' Q):WOs P N ops (⟨k,op,ty,pos,af,none⟩::rest) t m Q:=by
  simp only [WOs,WOp]
  refine⟨hd,?_⟩
  split
  · rename_i heq;rw [he] at heq;cases heq
  · rw [hv];exact h
theorem s_look{T:TypeId}{x y:Operand}{ok:Bool}{b:Nat}{s:List UInt8}{st:Sta}{l:Mp}{KT E:TypeId}{z:V}(hb:m[b]?=some (.obj st [] (mapφ l)))(h:WOs P N ops rest (tput t k (lookV ok (mget l s) z)) m Q)
    (hd:dOkB N k=true) (hx:evO t x= .mp b) (hk:evO t y= .str s) (hT:P.underlying T=some (.map KT E)) (hK:P.underlying KT=some .string) (hz:zeroOf P E=some (mvV z)) (hzo:mvOk z=true):WOs P N ops (⟨k,.lookup T x y ok,ty,pos,af,none⟩::rest) t m Q:=
  WOs_x (dOk_b hd) (by simp) rfl rfl (x_look hx hk hb hT hK hz hzo h)
theorem s_upd{T:TypeId}{x y u:Operand}{b:Nat}{s:List UInt8}{l:Mp}{KT E:TypeId}{v:V}{op:Op}(hb:m[b]?=some (MapB l))(h:WOs P N ops rest (tput t k .any) (m.set b (MapB (mput l s v))) Q)
    (hop:op= .mapUpdate T x y u∨op= .insert T x y u) (hd:dOkB N k=true) (hx:evO t x= .mp b) (hk:evO t y= .str s) (hu:evO t u=v) (hvo:mvOk v=true) (hT:P.underlying T=some (.map KT E)) (hK:P.underlying KT=some .string):WOs P N ops (⟨k,op,ty,pos,af,none⟩::rest) t m Q:=by
  have hx2:=x_upd (K:=fun v m'=>WOs P N ops rest (tput t k v) m' Q) hx hk hu hvo hb hT hK h hop
  rcases hop with rfl|rfl
  · exact WOs_x (dOk_b hd) (by simp) rfl rfl hx2
  · exact WOs_x (dOk_b hd) (by simp) rfl rfl hx2
theorem s_mkmap{T:TypeId}(h:WOs P N ops rest (tput t k (.mp m.length)) (m++[MapB []]) Q)(hd:dOkB N k=true):WOs P N ops (⟨k,.makeMap T none,ty,pos,af,none⟩::rest) t m Q:=
  WOs_x (dOk_b hd) (by simp) rfl rfl (x_make h)
theorem s_mlen{T:TypeId}{x:Operand}{b:Nat}{st:Sta}{l:Mp}{KT E:TypeId}(hb:m[b]?=some (.obj st [] (mapφ l)))(h:WOs P N ops rest (tput t k (.int .i64 l.length)) m Q)(hd:dOkB N k=true)(hx:evO t x= .mp b)(hT:P.underlying T=some (.map KT E)):WOs P N ops (⟨k,.call ⟨.builtin .len,#[x],#[T]⟩,ty,pos,af,none⟩::rest) t m Q:=by
  refine WOs_x (dOk_b hd) (by simp) ?_ rfl (x_mlen hx hb hT h)
  rw [ev_len,hx]
  simp [evLen,hT,okO]
end
end Go.Proofs.YtookikhphobnlaaGreatDoor
namespace Go.Proofs.YtookikhphobnlaaGreatDoor
open Go.RowKit
section
variable {P:Program} {N:Nat} {ops:Array Oper} {rest:List Oper} {kd:Nat→Kd} {LL:Lim} {is:List El} {t:List (Nat×V)} {m:Mem} {Q:List (Nat×V)→Mem→Prop} {f:Operand} {l:List Operand} {ts:Array TypeId} {ty:TypeId} {pos:String} {af:Array Edge} {vs:List V} {d lp:Nat}
theorem s_yld(hy:YieldA P lp vs m (fun v mo=>WOs P N ops rest ((d,v)::t) (mo.getD m) Q))(hd:dOkB N (some d)=true:=by first|exact rfl|fail)(hf:evO t f= .clo (.yield lp) [] []:=by first|exact lk_|fail)(ha:l.map (evO t)=vs:=by first|exact lk_|fail):WOs P N ops (⟨some d,.call ⟨.value f,l.toArray,ts⟩,ty,pos,af,none⟩::rest) t m Q:=by
  subst ha
  refine⟨dOk_b hd,?_⟩
  simp only [hf]
  show YieldA P lp (l.toArray.toList.map (evO t)) m (fun v mo=>WOs P N ops rest ((d,v)::t) (mo.getD m) Q)
  simpa using hy
theorem d_yldY{i j e:Nat}{want:Bool}(hy:YieldA P lp vs m (fun v mo=>WDs P N ops kd LL is ((d,v)::t) (mo.getD m) Q))(hi:ops[i]?=some ⟨some d,.call ⟨.value f,l.toArray,ts⟩,ty,pos,af,some (j,want)⟩:=by first|exact rfl|fail)(hj:(ops[j]?).bind (·.dst)=some e:=by first|exact rfl|fail)(ht:tget t e= .bool want:=by first|exact lk_|fail)
    (hd:dOkB N (some d)=true:=by first|exact rfl|fail) (hf:evO t f= .clo (.yield lp) [] []:=by first|exact lk_|fail) (ha:l.map (evO t)=vs:=by first|exact lk_|fail) (hk:kd i= .w:=by first|exact rfl|fail):DG P N ops kd LL i is t m Q:=by
  subst ha
  unfold DG WDs
  simp only [hi,hj,ht]
  refine⟨fun _=>⟨dOk_b hd,?_⟩,fun hn=>(hn trivial).elim⟩
  simp only [hf]
  refine⟨hk,?_⟩
  show YieldA P lp (l.toArray.toList.map (evO t)) m (fun v mo=>WDs P N ops kd LL is ((d,v)::t) (mo.getD m) Q)
  simpa using hy
theorem YieldA.mono{m:Mem}{R R':V→Option Mem→Prop}(h:YieldA P lp vs m R)(hR:∀ v mo,R v mo→R' v mo):YieldA P lp vs m R':=by
  intro F hF w ρ xs h1 h2
  obtain⟨fn,tmps,asg,bd,g1,g2⟩:=h F hF w ρ xs h1 h2
  refine⟨fn,tmps,asg,bd,g1,g2.mono ?_⟩
  rintro e w' ⟨v,mo,x,k1,k2,k3⟩
  exact⟨v,mo,x,k1,hR v mo k2,k3⟩
theorem CallA_inD{fi:FuncId}{fn:Func}{c:Code}{n:Nat}{rs:Array ResultVar}{M:Mem}{R:V→Option Mem→Prop}(hf:P.funcs[fi]?=some fn)(hb:fn.body=some c)(hN:fn.ntmps=n)(hr:fn.results=rs)(hg:isGo P fi=true)(hn:vs.length≤n)
    (h:∀ (Q:Exit→List (Nat×V)→Mem→Prop),(∀ e t m',(e= .normal∨e= .ret)→∀ v,resV P t m' rs.toList=some v→R v (some m')→Q e t m')→WA P n c (argT 0 vs) M Q):CallA P fi vs M R:=by
  subst hN;subst hr
  refine CallA_introD hf hb hg hn (h _ ?_)
  intro e t m' he v hres hR
  refine⟨he,?_⟩
  rw [hres]
  exact hR
/-- a range over a function, by what holds behind it -/
theorem WA_rf{N:Nat}{g:Operand}{ps:Array Tmp}{assign body:Code}{t:List (Nat×V)}{m:Mem}{Q:Exit→List (Nat×V)→Mem→Prop}{f:FuncId}{fs cs:List V}(Rn:Mem→Prop)(Rp:Code→Mem→Prop)
    (h:∀ l,CallA P f (fs++ .clo (.yield l) [] []::cs) (m++[LoopB l N t ps assign body .ready none]) (fun _ mo=>∃ st pend m',mo=some m'∧m'[m.length]?=some (LoopB l N t ps assign body st pend)∧st≠ .busy∧(pend=none→Rn (m'.set m.length .dead))∧∀ c,pend=some c→Rp c (m'.set m.length .dead)))
    (hn:∀ m',Rn m'→Q .normal t m') (hp:∀ c m',Rp c m'→WA P N c t m' Q) (hg:evO t g= .clo (.func f) fs cs:=by first|exact lk_|fail):WA P N (.rangeFunc g ps assign body) t m Q:=by
  refine WA_rangeFunc h ?_ hg
  rintro l v mo ⟨st,pend,m',rfl,h1,h2,h3,h4⟩
  exact⟨st,pend,h1,h2,fun e=>hn _ (h3 e),fun c e=>hp c _ (h4 c e)⟩
theorem YieldA_in{l N:Nat}{t:List (Nat×V)}{ps:Array Tmp}{assign body:Code}{M1 X:Mem}{vs:List V}{R:V→Option Mem→Prop}(hv:vs.length=ps.size)(hp:∀ p∈ps.toList,p<N)(ht:t.all (fun p=>decide (p.1<N))=true)
    (h:WA P N assign (setPs t ps.toList vs) (M1++LoopL l N t ps assign body::X) (fun e t1 m1=>e= .normal∧m1[M1.length]?=some (LoopL l N t ps assign body)∧WA P N body t1 m1 (roundQ l N t ps assign body M1.length R))):YieldA P l vs (M1++LoopB l N t ps assign body .ready none::X) R:=by
  refine YieldA_intro (b:=M1.length) (assign:=assign) (body:=body) (t:=t) (by simp) hv hp ht ?_
  have e:(M1++LoopB l N t ps assign body .ready none::X).set M1.length (LoopL l N t ps assign body)=M1++LoopL l N t ps assign body::X:=by
    rw [List.set_append_right _ _ (Nat.le_refl _),Nat.sub_self];rfl
  rw [e]
  exact h
/-- a loop whose rounds leave the memory's beginning as it is -/
theorem WA_whileP{N:Nat}{t:List (Nat×V)}{m:Mem}{c:Code}{Q:Exit→List (Nat×V)→Mem→Prop}{σ:Type}{M:Mem}(ks:List Nat)(st:σ→List V)(E:σ→Mem)(k:Nat)(inv:σ→Prop)(μ:σ→Nat)(s0:σ)(h0:inv s0)(ht:ks.map (tget t)=st s0)(hm:m=M++E s0)
    (hlen:∀ s,(E s).length=k) (hst:∀ s s',inv s→inv s'→conS (M.length+k) (st s) (st s')) (hb:∀ s s',inv s→inv s'→conB (E s) (E s'))
    (hr:∀ s,inv s→∀ K:List (Nat×V)→Mem→Prop,(∀ s' t' m' ext,ks.map (tget t')=st s'→m'=M++(E s'++ext)→inv s'→μ s'<μ s→K t' m')→WA P N c (zipT ks (st s)) (M++E s) (qThen K Q)):WA P N (.loop c) t m Q:=by
  have hml:m.length=M.length+k:=by rw [hm,List.length_append,hlen]
  refine WA_whileD2 ks st (fun s=>M++E s) inv μ s0 h0 ht hm (fun s=>by rw [List.length_append,hlen,hml]) (fun s s' h1 h2=>by rw [hml];exact hst s s' h1 h2) ?_ (fun s hs K hK=>hr s hs K fun s' t' m' ext e1 e2 e3 e4=>hK s' t' m' ext e1 (by rw [e2,List.append_assoc]) e3 e4)
  intro s s' b blk h1 h2 h
  rcases Nat.lt_or_ge b M.length with hl|hl
  · rw [List.getElem?_append_left hl] at h
    exact .inr (by rw [List.getElem?_append_left hl];exact h)
  · rw [List.getElem?_append_right hl] at h
    rcases conB_get (hb s s' h1 h2) _ _ h with q|q
    · exact .inl q
    · exact .inr (by rw [List.getElem?_append_right hl];exact q)
theorem nextP_{σ:Type}{ks:List Nat}{st:σ→List V}{M:Mem}{E:σ→Mem}{inv:σ→Prop}{lt:σ→Prop}{K:List (Nat×V)→Mem→Prop}{t:List (Nat×V)}{m:Mem}(hL:∀ s' t' m' ext,ks.map (tget t')=st s'→m'=M++(E s'++ext)→inv s'→lt s'→K t' m')(s':σ)(hi:inv s')(hl:lt s'){ext:Mem}(ht:ks.map (tget t)=st s':=by first|exact tv_|fail)(hm:m=M++(E s'++ext):=by first|exact rfl|fail):K t m:=hL s' t m ext ht hm hi hl
theorem roundQ_ret{l N b:Nat}{t t':List (Nat×V)}{ps:Array Tmp}{assign body:Code}{A X M:Mem}{R:V→Option Mem→Prop}(hM:M=A++LoopL l N t ps assign body::X)(hb:A.length=b)(h:R (.bool false) (some (A++LoopB l N t ps assign body .done (some .ret)::X))):roundQ l N t ps assign body b R .ret t' M:=by
  subst hb;subst hM
  refine⟨by simp,?_⟩
  rw [List.set_append_right _ _ (Nat.le_refl _),Nat.sub_self]
  exact h
end
/-- how a round ends: the record (ready, within a round, done) told by names -/
def rndQ(LB LL:Blk)(LD:Code→Blk)(b:Nat)(R:V→Option Mem→Prop):Exit→List (Nat×V)→Mem→Prop
  | .normal,_,m=>m[b]?=some LL∧R (.bool true) (some (m.set b LB))
  | .ret,_,m=>m[b]?=some LL∧R (.bool false) (some (m.set b (LD .ret)))
  | .exit id,_,m=>m[b]?=some LL∧R (.bool false) (some (m.set b (LD (.exit id))))
  |_,_,_=>False
/-- what a yield does, the loop's record told by names -/
def YldS(P:Program)(l N:Nat)(t:List (Nat×V))(ps:Array Tmp)(assign body:Code)(LB LL:Blk)(LD:Code→Blk):Prop:=
  ∀ (M1 X:Mem) (vs:List V) (R:V→Option Mem→Prop),vs.length=ps.size→WA P N assign (setPs t ps.toList vs) (M1++LL::X) (fun e t1 m1=>e= .normal∧m1[M1.length]?=some LL∧WA P N body t1 m1 (rndQ LB LL LD M1.length R))→YieldA P l vs (M1++LB::X) R
theorem WA_rfA{P:Program}{N:Nat}{g:Operand}{ps:Array Tmp}{assign body:Code}{t:List (Nat×V)}{m:Mem}{Q:Exit→List (Nat×V)→Mem→Prop}{f:FuncId}{fs cs:List V}(Rn:Mem→Prop)(Rp:Code→Mem→Prop)
    (h:∀ (l:Nat) (LB LL:Blk) (LD:Code→Blk),YldS P l N t ps assign body LB LL LD→CallA P f (fs++ .clo (.yield l) [] []::cs) (m++[LB]) (fun _ mo=>∃ m',mo=some m'∧((m'[m.length]?=some LB∧Rn (m'.set m.length .dead))∨∃ c,m'[m.length]?=some (LD c)∧Rp c (m'.set m.length .dead))))
    (hn:∀ m',Rn m'→Q .normal t m') (hp:∀ c m',Rp c m'→WA P N c t m' Q) (hg:evO t g= .clo (.func f) fs cs:=by first|exact lk_|fail) (hps:∀ p∈ps.toList,p<N:=by simp) (ht:t.all (fun p=>decide (p.1<N))=true:=by rfl):WA P N (.rangeFunc g ps assign body) t m Q:=by
  refine WA_rf Rn Rp (fun l=>(h l (LoopB l N t ps assign body .ready none) (LoopL l N t ps assign body) (fun c=>LoopB l N t ps assign body .done (some c)) ?_).mono ?_) hn hp hg
  · intro M1 X vs R hv hw
    refine YieldA_in hv hps ht (WA_mono hw ?_)
    rintro e t1 m1 ⟨h1,h2,h3⟩
    refine⟨h1,h2,WA_mono h3 ?_⟩
    intro e t2 m2 h4
    cases e<;>exact h4
  · rintro v mo ⟨m',rfl,h1⟩
    rcases h1 with ⟨h2,h3⟩|⟨c,h2,h3⟩
    · exact⟨_,_,m',rfl,h2,by decide,fun _=>h3,fun c hc=>by cases hc⟩
    · exact⟨_,_,m',rfl,h2,by decide,(fun hc=>by cases hc),fun c' hc=>by cases hc;exact h3⟩
theorem rndQ_nrm{LB LL:Blk}{LD:Code→Blk}{b:Nat}{t':List (Nat×V)}{A X M:Mem}{R:V→Option Mem→Prop}(hM:M=A++LL::X)(hb:A.length=b)(h:R (.bool true) (some (A++LB::X))):rndQ LB LL LD b R .normal t' M:=by
  subst hb;subst hM
  refine⟨by simp,?_⟩
  rw [List.set_append_right _ _ (Nat.le_refl _),Nat.sub_self]
  exact h
theorem rndQ_ret{LB LL:Blk}{LD:Code→Blk}{b:Nat}{t':List (Nat×V)}{A X M:Mem}{R:V→Option Mem→Prop}(hM:M=A++LL::X)(hb:A.length=b)(h:R (.bool false) (some (A++LD .ret::X))):rndQ LB LL LD b R .ret t' M:=by
  subst hb;subst hM
  refine⟨by simp,?_⟩
  rw [List.set_append_right _ _ (Nat.le_refl _),Nat.sub_self]
  exact h
theorem conB_refl:∀ (m:Mem),conB m m
  |[]=>trivial
  |_::r=>⟨.inr rfl,conB_refl r⟩
section
variable {P:Program} {N:Nat} {t:List (Nat×V)} {m:Mem} {Q:List (Nat×V)→Mem→Prop} {ops:Array Oper} {rest:List Oper} {k:Option Nat} {ty:TypeId} {pos:String} {af:Array Edge}
/-- is an empty list nil: either -/
theorem x_nl0 {T T':TypeId} {x y:Operand} {K:V→Mem→Prop} (hx:evO t x= .lst []) (hy:evO t y= .nilsl) (hT:∃ e,P.underlying T=some (.slice e)) (h1:K (.bool true) m) (h2:K (.bool false) m):XOp P t m (.binOp .eql T x y T') K:=by
  refine⟨fun c=>by simp,fun w ρ a o ho hM hTm=>?_⟩
  obtain⟨e,hu⟩:=hT
  have hrx:=evO_rel hTm x;rw [hx] at hrx
  have hry:=evO_rel hTm y;rw [hy] at hry
  have key:∃ (r:Bool) (z:Value),(do eqGuard .eql T x y (a.eval x) (a.eval y);binOp .eql T (a.eval x) (a.eval y):Sem Value).run P w= .ok z w∧RelV w ρ (bad m ρ) (.bool r) z:=by
    generalize a.eval x=ex at hrx
    generalize a.eval y=ey at hry
    cases hry
    cases hrx with
    | lnil ad c hc ha=>
      cases ad with
      | none=>
        refine⟨true,eq_fin (op:= .eql) rfl ?_ ?_ ?_⟩
        · exact run_equal_of fun d=>by simp only [Op.equalIn,Sem.run_bind,run_underlying hu,Result.andThen_ok,Sem.run_pure]<;>rfl
        · simp [eqGuard,go_sem]
        · rintro op (rfl|rfl)<;>simp [binOp]
      | some ad=>
        refine⟨false,eq_fin (op:= .eql) rfl ?_ ?_ ?_⟩
        · exact run_equal_of fun d=>by simp only [Op.equalIn,Sem.run_bind,run_underlying hu,Result.andThen_ok,Sem.run_pure]<;>rfl
        · simp [eqGuard,go_sem]
        · rintro op (rfl|rfl)<;>simp [binOp]
    | lst _ b off c s Y=>
      refine⟨false,eq_fin (op:= .eql) rfl ?_ ?_ ?_⟩
      · exact run_equal_of fun d=>by simp only [Op.equalIn,Sem.run_bind,run_underlying hu,Result.andThen_ok,Sem.run_pure]<;>rfl
      · simp [eqGuard,go_sem]
      · rintro op (rfl|rfl)<;>simp [binOp]
  obtain⟨r,z,hr,hv⟩:=key
  refine⟨.value z,w,.bool r,m,ρ,?_,by cases r<;>assumption,After.refl hM,.inl ⟨_,rfl,hv⟩⟩
  simp only [execOp,ho]
  exact run_v hr
theorem s_nl0{T T':TypeId}{x y:Operand}(h1:WOs P N ops rest (tput t k (.bool true)) m Q)(h2:WOs P N ops rest (tput t k (.bool false)) m Q)(hd:dOkB N k=true)(hx:evO t x= .lst [])(hy:evO t y= .nilsl)(hT:∃ e,P.underlying T=some (.slice e)):WOs P N ops (⟨k,.binOp .eql T x y T',ty,pos,af,none⟩::rest) t m Q:=by
  refine WOs_x (dOk_b hd) (by simp) ?_ rfl (x_nl0 hx hy hT h1 h2)
  rw [ev_binOp,hx,hy]
  rfl
theorem s_nl1{T T':TypeId}{x y:Operand}{e:List V}{es:List (List V)}(h:WOs P N ops rest (tput t k (.bool false)) m Q)(hd:dOkB N k=true)(hx:evO t x= .lst (e::es))(hy:evO t y= .nilsl)(hT:kdT P T=2):WOs P N ops (⟨k,.binOp .eql T x y T',ty,pos,af,none⟩::rest) t m Q:=
  op_of (dOk_b hd) (p:=True) (m':=m) (by rw [ev_binOp,hx,hy];simp [evB,evEq,eqV,hT]) trivial h
theorem s_nl2{T T':TypeId}{x y:Operand}{b n:Nat}(h:WOs P N ops rest (tput t k (.bool false)) m Q)(hd:dOkB N k=true)(hx:evO t x= .sl b n)(hy:evO t y= .nilsl)(hT:kdT P T=2):WOs P N ops (⟨k,.binOp .eql T x y T',ty,pos,af,none⟩::rest) t m Q:=
  op_of (dOk_b hd) (p:=True) (m':=m) (by rw [ev_binOp,hx,hy];simp [evB,evEq,eqV,hT]) trivial h
end
end Go.Proofs.YtookikhphobnlaaGreatDoor
namespace Go.Proofs.YtookikhphobnlaaGreatDoor
open Go.RowKit
section
variable {P:Program} {N:Nat} {t:List (Nat×V)} {m:Mem} {Q:List (Nat×V)→Mem→Prop} {ops:Array Oper} {rest:List Oper} {k:Option Nat} {ty:TypeId} {pos:String} {af:Array Edge}
theorem x_ni{op:BinOp}{T T':TypeId}{x:Operand}{c:Value}{r:Bool}{K:V→Mem→Prop}(ho:resEq op true=some (.bool r))(hx:evO t x= .nilif)(hc:c= .nilIface)(hT:kdT P T=6)(h:K (.bool r) m):XOp P t m (.binOp op T x (.const c) T') K:=by
  refine⟨fun c=>by simp,fun w ρ a o ho' hM hTm=>?_⟩
  obtain⟨e,hu⟩:=kdT_6 hT
  have hrx:=evO_rel hTm x;rw [hx] at hrx
  subst hc
  have key:∃ z:Value,(do eqGuard op T x (.const .nilIface) (a.eval x) (a.eval (.const .nilIface));binOp op T (a.eval x) (a.eval (.const .nilIface)):Sem Value).run P w= .ok z w∧RelV w ρ (bad m ρ) (.bool r) z:=by
    generalize a.eval x=ex at hrx
    cases hrx
    refine eq_fin (op:=op) ho ?_ ?_ ?_
    · exact run_equal_of fun d=>by simp only [Act.eval,Op.equalIn,Sem.run_bind,run_underlying hu,Result.andThen_ok,Sem.run_pure]<;>rfl
    · cases op<;>simp [resEq] at ho<;>simp [eqGuard,go_sem]
    · rintro op (rfl|rfl)<;>simp [binOp]
  obtain⟨z,hr,hv⟩:=key
  refine⟨.value z,w,.bool r,m,ρ,?_,h,After.refl hM,.inl ⟨_,rfl,hv⟩⟩
  simp only [execOp,ho']
  exact run_v hr
theorem s_niN{T T':TypeId}{x:Operand}{c:Value}(h:WOs P N ops rest (tput t k (.bool false)) m Q)(hd:dOkB N k=true:=by first|exact rfl|fail)(hx:evO t x= .nilif:=by first|exact lk_|fail)(hc:c= .nilIface:=by first|exact rfl|fail)(hT:kdT P T=6:=by first|kernel_rfl|fail):WOs P N ops (⟨k,.binOp .neq T x (.const c) T',ty,pos,af,none⟩::rest) t m Q:=by
  refine WOs_x (dOk_b hd) (by simp) ?_ rfl (x_ni (r:=false) rfl hx hc hT h)
  subst hc
  rw [ev_binOp,hx]
  rfl
theorem s_ifN{T T':TypeId}{x y:Operand}(h:WOs P N ops rest (tput t k (.bool true)) m Q)(hd:dOkB N k=true:=by first|exact rfl|fail)(hx:evO t x= .ifv:=by first|exact lk_|fail)(hy:evO t y= .nilif:=by first|exact lk_|fail)(hT:kdT P T=6:=by first|kernel_rfl|fail):WOs P N ops (⟨k,.binOp .neq T x y T',ty,pos,af,none⟩::rest) t m Q:=
  op_of (dOk_b hd) (p:=True) (m':=m) (by rw [ev_binOp,hx,hy];simp [evB,evEq,eqV,hT]) trivial h
/-- 'string([]byte{c})' -/
theorem x_bk{S D e:TypeId}{x:Operand}{b:Nat}{c:UInt8}{z:Int}{st:Sta}{T:TypeId}{K:V→Mem→Prop}(hx:evO t x= .sl b 1)(hb:m[b]?=some (.cells st T 1 [[V.int .u8 z]]))(hz:z=(c.toNat:Int))(hS:P.underlying S=some (.slice e))(hE:P.underlying e=some (.int .u8))(hD:P.underlying D=some .string)(h:K (.str [c]) m):
    XOp P t m (.convert S D x) K:=by
  refine⟨fun c=>by simp,fun w ρ a o ho' hM hTm=>?_⟩
  have hrx:=evO_rel hTm x;rw [hx] at hrx
  subst hz
  obtain⟨r,cur,hr,hs, -,hh, -, -, -, -,hv⟩:=hM.cells b _ _ _ _ hb
  obtain⟨-,y,hy,hry⟩:=hv 0 0 _ _ rfl rfl
  refine⟨.value (.string ⟨#[c]⟩),w,.str [c],m,ρ,?_,h,After.refl hM,.inl ⟨_,rfl,.str _ _ rfl⟩⟩
  simp only [execOp,ho']
  generalize a.eval x=ex at hrx
  cases hrx with
  | sl _ _ r' hr' hn hm=>
    obtain rfl:r=r':=by rw [hr] at hr';injection hr'
    cases hry
    refine run_v (run_convert_bytes_back w S D e ⟨r.blk,0,none⟩ r.cap [c] hS hE hD fun j hj=>?_)
    have hj0:j=0:=by simpa using hj
    subst hj0
    simp only [Nat.zero_mul,Nat.zero_add] at hy
    simp [World.cell?,Addr.add,hh,hy]
theorem s_bk {S D:TypeId} {x:Operand} {b:Nat} {c:UInt8} {z:Int} {st:Sta} {T:TypeId} (h:WOs P N ops rest (tput t k (.str [c])) m Q) (hz:z=(c.toNat:Int)) (hx:evO t x= .sl b 1) (hb:m[b]?=some (.cells st T 1 [[V.int .u8 z]])) (hd:dOkB N k=true) (hT:bytesT P D S=true):WOs P N ops (⟨k,.convert S D x,ty,pos,af,none⟩::rest) t m Q:=by
  have hh:∃ e,P.underlying S=some (.slice e)∧P.underlying e=some (.int .u8)∧P.underlying D=some .string:=by
    unfold bytesT at hT
    split at hT
    · rename_i e h1 h2
      split at hT
      · rename_i h3
        exact⟨e,h2,h3,h1⟩
      · cases hT
    · cases hT
  obtain⟨e,hS,hE,hD⟩:=hh
  refine WOs_x (dOk_b hd) (by simp) ?_ ?_ (x_bk hx hb hz hS hE hD h)
  · simp only [evA,hx]
    split<;>first|rfl|(rename_i q;cases q)
  · simp only [cvStr,hx]
end
end Go.Proofs.YtookikhphobnlaaGreatDoor
