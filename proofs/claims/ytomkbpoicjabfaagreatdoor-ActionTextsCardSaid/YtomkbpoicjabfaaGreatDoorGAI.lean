import Derived.Test.YtomkbpoicjabfaaGreatDoorGAE
import Derived.Test.YtomkbpoicjabfaaGreatDoorX3
import Derived.Test.YtomkbpoicjabfaaGreatDoorC19
import Derived.Test.YtomkbpoicjabfaaGreatDoorGAD
import Derived.Test.YtomkbpoicjabfaaGreatDoorGAA
import Derived.Test.YtomkbpoicjabfaaGreatDoorGAC
import Derived.Test.YtomkbpoicjabfaaGreatDoorGAB
set_option linter.unusedSimpArgs false
set_option linter.unusedVariables false
/- what a text tells of an action: the plain reading of both sides -/
namespace Go.Proofs.YtomkbpoicjabfaaGreatDoor
open Go.RowKit
attribute [local irreducible] WA WOs WDs WAn qThen qBlock tput
set_option maxHeartbeats 1000000
set_option maxRecDepth 20000
set_option linter.unusedSimpArgs false
set_option linter.unusedVariables false
theorem cutP_sub {c:UInt8}:∀ {s p:Txt},p∈cutP c s→p.length≤s.length
  | [],p,h=>by
    obtain rfl:=List.mem_singleton.1 h
    exact Nat.le_refl _
  | b ::l,p,h=>by
    have ih:=fun p=>cutP_sub (c:=c) (s:=l) (p:=p)
    unfold cutP at h
    rw [List.length_cons]
    split at h
    · rcases List.mem_cons.1 h with rfl|h
      · exact Nat.zero_le _
      · have:=ih p h;omega
    · split at h
      · rename_i q r hq
        rw [hq] at ih
        rcases List.mem_cons.1 h with rfl|h
        · have:=ih q List.mem_cons_self
          rw [List.length_cons];omega
        · have:=ih p (List.mem_cons_of_mem _ h);omega
      · obtain rfl:=List.mem_singleton.1 h
        show 1≤_;omega
def actionT:Txt:=[97,99,116,105,111,110]
def partT:Txt:=[112,97,114,116]
def eventT:Txt:=[101,118,101,110,116]
def leadT:Txt:=[108,101,97,100]
def riseT:Txt:=[114,105,115,101]
def fallT:Txt:=[102,97,108,108]
def knP:List Int→List Rk
  |x::y::r=>((x,1),(y,1))::knP r
  |_=>[]
/-- a part's words, behind the first -/
def partP:List Txt→Option PartR
  |nm::dr::r=>if 2≤r.length∧r.length % 2=0∧dr≠[] then (numsP 7 r).map fun n=>⟨nm,if dr=[45] then [] else dr,knP (n.drop 2),n.getD 0 0,n.getD 1 0⟩ else none
  |_=>none
def evP:List Txt→Option EvR
  |[nm,pt,dr,lv]=>if dr=riseT∨dr=fallT then (numP 7 lv).map fun n=>⟨nm,pt,n,decide (dr=fallT)⟩ else none
  |_=>none
/-- an action and a line more -/
def lineA (first:Bool) (a:ActR) (s:Txt):Option ActR:=match cutP 32 s with
  | o::w=>if decide (o=actionT)≠first then none
    else if o=partT∧a.evs=[]∧a.leads=[] then (partP w).map fun p=>⟨a.dip,a.parts++[p],a.evs,a.leads⟩
    else if o=eventT∧a.leads=[] then (evP w).map fun e=>⟨a.dip,a.parts,a.evs++[e],a.leads⟩
    else if o=actionT∧w.length=1 then (numsP 7 w).map fun n=>⟨n.getD 0 0,a.parts,a.evs,a.leads⟩
    else if o=leadT∧w.length=2 then (numsP 7 w).map fun n=>⟨a.dip,a.parts,a.evs,a.leads++[(n.getD 0 0,n.getD 1 0)]⟩
    else none
  |[]=>none
/-- an action and rows more, the last of them empty; or the number of the row that is wrong -/
def rowsA:Nat→ActR→List Txt→Except Nat ActR
  |_,a,[]=> .ok a
  |k,a,[r]=>if r=[] then .ok a else .error (k+1)
  | k,a,r::q::rs=>match lineA (decide (k=0)) a r with
    |some b=>rowsA (k+1) b (q::rs)
    |none=> .error (k+1)
def az:ActR:=⟨0,[],[],[]⟩
/-- what Parse tells of a text -/
def prsA(s:Txt):ActR×Int×Int:=if 60000<s.length then (az,0,8) else match rowsA 0 az (cutP 10 s) with
  | .error k=>(az,k,7)
  | .ok a=>if (cutP 10 s).length=1 then (az,1,7) else if acErr a=0 then (a,0,0) else (az,0,acErr a)
def paV(p:ActR×Int×Int):V:= .tup [.agg (actV p.1),.int .i64 p.2.1,.int .i64 p.2.2]
theorem ln_cut:∀ {s:Txt},s≠[]→(∃ p,ln1 s=p++[10]∧(∀ c∈p,c≠10)∧cutP 10 s=p::cutP 10 (lnR s))∨(ln1 s=s∧lnR s=[]∧(∀ c∈s,c≠10)∧cutP 10 s=[s])
  |[],h=>absurd rfl h
  | b ::l,_=>by
    by_cases hb:b=10
    · subst hb
      exact .inl ⟨[],by simp [ln1],(fun c hc=>by cases hc),by simp [cutP,lnR]⟩
    · by_cases hl:l=[]
      · subst hl
        exact .inr ⟨by simp [ln1,hb],by simp [lnR,hb],by simpa using hb,by simp [cutP,hb]⟩
      · rcases ln_cut hl with ⟨p,h1,h2,h3⟩|⟨h1,h2,h3,h4⟩
        · refine .inl ⟨b::p,by simp [ln1,hb,h1],?_,by simp [cutP,lnR,hb,h3]⟩
          intro c hc
          rcases List.mem_cons.1 hc with rfl|hc
          · exact hb
          · exact h2 c hc
        · refine .inr ⟨by simp [ln1,hb,h1],by simp [lnR,hb,h2],?_,by simp [cutP,hb,h4]⟩
          intro c hc
          rcases List.mem_cons.1 hc with rfl|hc
          · exact hb
          · exact h3 c hc
theorem rowsA_cut{k:Nat}{a:ActR}{p s:Txt}:rowsA k a (p::cutP 10 s)=match lineA (decide (k=0)) a p with
    |some b=>rowsA (k+1) b (cutP 10 s)
    |none=> .error (k+1):=by
  rcases h:cutP 10 s with _|⟨q,rs⟩
  · exact absurd h (cutP_ne 10 s)
  · rfl
theorem rowsA_one{k:Nat}{a:ActR}{s:Txt}(h:s≠[]):rowsA k a [s]= .error (k+1):=by
  unfold rowsA
  rw [if_neg h]
theorem suf_yes(p:Txt):Lib.hasSuffix (p++[10]) [10]=true∧Lib.trimSuffix (p++[10]) [10]=p:=by
  have h:Lib.hasSuffix (p++[10]) [10]=true:=by
    unfold Lib.hasSuffix
    rw [List.isSuffixOf_iff_suffix]
    exact List.suffix_append _ _
  refine⟨h,?_⟩
  unfold Lib.trimSuffix
  rw [if_pos h]
  simp
theorem suf_no{s:Txt}(h:∀ c∈s,c≠10):Lib.hasSuffix s [10]=false:=by
  cases hh:Lib.hasSuffix s [10] with
  |false=>rfl
  | true=>
    unfold Lib.hasSuffix at hh
    rw [List.isSuffixOf_iff_suffix] at hh
    obtain⟨t,rfl⟩:=hh
    exact absurd rfl (h 10 (by simp))
/-- sizes of an action that a text tells -/
structure AcN(k:Nat)(a:ActR):Prop where
  n:a.parts.length+a.evs.length+a.leads.length≤k
  p:∀ x∈a.parts,x.name.length≤1000∧x.cor.length≤1000
  e:∀ x∈a.evs,x.name.length≤1000
theorem gdm{α:Type}{l:List α}{d:α}{i:Nat}(hi:i<l.length):l.getD i d∈l:=by
  rw [List.getD_eq_getElem?_getD,List.getElem?_eq_getElem hi];exact List.getElem_mem _
theorem AcN.lt{k:Nat}{a:ActR}(h:AcN k a)(hk:k≤1000):Lt a:=by
  have h0:=h.n
  exact⟨by omega,by omega,by omega,fun i hi=>(h.p _ (gdm hi)).1,fun i hi=>h.e _ (gdm hi)⟩
theorem knP_len:∀ (n:Nat) (l:List Int),l.length≤n→(knP l).length≤l.length
  | 0,l,h=>by
    obtain rfl:l=[]:=List.length_eq_zero_iff.1 (by omega)
    exact Nat.le_refl _
  | n +1,l,h=>by
    rcases l with _|⟨x,_|⟨y,r⟩⟩
    · exact Nat.le_refl _
    · simp [knP]
    · simp only [List.length_cons] at h
      have:=knP_len n r (by omega)
      simp only [knP,List.length_cons]
      omega
theorem lineA_n {k:Nat} {f:Bool} {a b:ActR} {s:Txt} (h:AcN k a) (hs:s.length≤999) (hl:lineA f a s=some b):AcN (k+1) b:=by
  have h0:=h.n
  have hcm:=fun p=>cutP_sub (c:=32) (s:=s) (p:=p)
  have hcl:=cutP_len 32 s
  unfold lineA at hl
  rcases hc:cutP 32 s with _|⟨o,w⟩
  · exact absurd hc (cutP_ne 32 s)
  · rw [hc] at hl hcm hcl
    simp only [List.length_cons] at hcl
    dsimp only at hl
    split at hl
    · cases hl
    split at hl
    · rcases w with _|⟨nm,_|⟨dr,r⟩⟩
      · cases hl
      · cases hl
      · simp only [partP] at hl
        split at hl
        · cases hn:numsP 7 r with
          |none=>rw [hn] at hl;cases hl
          | some l=>
            rw [hn] at hl
            cases hl
            refine⟨by simp;omega,fun x hx=>?_,h.e⟩
            rcases List.mem_append.1 hx with hx|hx
            · exact h.p x hx
            · obtain rfl:=List.mem_singleton.1 hx
              have h1:=hcm nm (by simp)
              have h2:=knP_len _ (l.drop 2) (Nat.le_refl _)
              have h3:=numsP_len hn
              rw [List.length_drop] at h2
              simp only [List.length_cons] at hcl
              exact⟨by dsimp only;omega,by dsimp only;omega⟩
        · cases hl
    split at hl
    · rcases hv:evP w with _|e
      · rw [hv] at hl;cases hl
      · rw [hv] at hl
        cases hl
        refine⟨by simp;omega,h.p,fun x hx=>?_⟩
        rcases List.mem_append.1 hx with hx|hx
        · exact h.e x hx
        · obtain rfl:=List.mem_singleton.1 hx
          rcases w with _|⟨nm,_|⟨pt,_|⟨dr,_|⟨lv,_|⟨z,r⟩⟩⟩⟩⟩<;>simp only [evP] at hv<;>try(cases hv;done)
          split at hv
          · rcases hn:numP 7 lv with _|n
            · rw [hn] at hv;cases hv
            · rw [hn] at hv
              cases hv
              have h1:=hcm nm (by simp)
              dsimp only
              omega
          · cases hv
    split at hl
    · rcases hn:numsP 7 w with _|n
      · rw [hn] at hl;cases hl
      · rw [hn] at hl
        cases hl
        exact⟨by dsimp only;omega,h.p,h.e⟩
    split at hl
    · rcases hn:numsP 7 w with _|n
      · rw [hn] at hl;cases hl
      · rw [hn] at hl
        cases hl
        exact⟨by simp;omega,h.p,h.e⟩
    · cases hl
theorem rowsA_n:∀ {rows:List Txt} {k:Nat} {b b':ActR},AcN k b→(∀ r∈rows,r.length≤999)→rowsA k b rows= .ok b'→AcN (k+rows.length) b'
  |[],k,b,b',h,_,e=>by cases e;exact h
  | [r],k,b,b',h,_,e=>by
    unfold rowsA at e
    split at e
    · cases e
      exact⟨by have:=h.n;simp;omega,h.p,h.e⟩
    · cases e
  | r ::q::rs,k,b,b',h,hr,e=>by
    unfold rowsA at e
    cases hl:lineA (decide (k=0)) b r with
    |none=>rw [hl] at e;cases e
    | some c=>
      rw [hl] at e
      have:=rowsA_n (lineA_n h (hr r List.mem_cons_self) hl) (fun x hx=>hr x (List.mem_cons_of_mem _ hx)) e
      rw [show k+1+(q::rs).length=k+(r::q::rs).length by simp;omega] at this
      exact this
theorem az_n:AcN 0 az:=⟨Nat.le_refl _,fun x hx=>by simp [az] at hx,fun x hx=>by simp [az] at hx⟩
theorem prsA_n {s:Txt} (h:¬ (600<s.length∧s.length≤60000)):AcN 1000 (prsA s).1:=by
  have hz:AcN 1000 az:=⟨Nat.zero_le _,az_n.p,az_n.e⟩
  unfold prsA
  split
  · exact hz
  · have hs:s.length≤600:=by omega
    have hrl:=cutP_len 10 s
    have hrm:=fun p=>cutP_sub (c:=10) (s:=s) (p:=p)
    split
    · exact hz
    · rename_i b hb
      split
      · exact hz
      · split
        · have h1:=rowsA_n az_n (fun r hr=>Nat.le_trans (hrm r hr) (by omega)) hb
          exact⟨by have:=h1.n;show b.parts.length+b.evs.length+b.leads.length≤1000;omega,h1.p,h1.e⟩
        · exact hz
end Go.Proofs.YtomkbpoicjabfaaGreatDoor
namespace Go.Proofs.YtomkbpoicjabfaaGreatDoor
open Go.RowKit
section
variable {P:Program} {N:Nat} {t:List (Nat×V)} {m:Mem} {c:Code} {Q:Exit→List (Nat×V)→Mem→Prop}
/-- the one element of a block is told more weakly -/
theorem WA_wkC {b ty sz:Nat} {e e':List V} (hb:m[b]?=some (.cells .own ty sz [e])) (hl:e'.length=e.length) (hw:∀ (j:Nat) v',e'[j]?=some v'→∃ v,e[j]?=some v∧WkV v v'∧(v.one=true→v'.one=true)) (h:WA P N c t (m.set b (.cells .own ty sz [e'])) Q):WA P N c t m Q:=by
  intro F hF z w ρ a hR
  obtain⟨r,cur,k1,k2,k3,k4,k5,k6,k7,k8,k9⟩:=hR.mem.cells b .own ty sz [e] hb
  have hM:RelM w ρ (m.set b (.cells .own ty sz [e'])):=hR.mem.turn hb k1 cur (Nat.le_refl _) (fun _ _ _=>rfl) k4 k5 k6 (fun x hx=>by obtain rfl:=List.mem_singleton.1 hx;rw [hl];exact k8 e (List.mem_singleton.2 rfl)) fun i j x v a1 a2=>by
    rcases i with _|i
    · cases a1
      obtain⟨v0,g1,g2,g3⟩:=hw j v a2
      obtain⟨b1,y,b2,b3⟩:=k9 0 j e v0 rfl g1
      exact⟨g3 b1,y,b2,g2 _ _ _ _ b3⟩
    · simp at a1
  have hbd:∀ (p:Blk→Bool),p (.cells .own ty sz [e'])=p (.cells .own ty sz [e])→∀ k,has p (m.set b (.cells .own ty sz [e'])) ρ k→has p m ρ k:=by
    rintro p hp k ⟨c,blk,r,h1,h2,h3,h4⟩
    rw [List.getElem?_set] at h1
    split at h1
    · rename_i e1
      subst e1
      split at h1
      · cases h1
        exact⟨b,_,r,hb,hp ▸ h2,h3,h4⟩
      · cases h1
    · exact⟨c,blk,r,h1,h2,h3,h4⟩
  have af:After w ρ m w ρ (m.set b (.cells .own ty sz [e'])):=⟨Keep.refl _ _,fun _ _ h=>h,hM,fun k _ ho=>hbd Blk.own rfl k ho,fun k _ ho=>hbd Blk.bad rfl k ho⟩
  refine wpIn_mono (h F hF z w ρ a ⟨hM,fun i=>af.rel (hR.tm i),hR.size,hR.defers.after af⟩) ?_
  rintro e a1 w1 ⟨t',m',ρ',hq,hR',af'⟩
  exact⟨t',m',ρ',hq,hR',af.trans af'⟩
/-- a slice of one's own, or nil, among the blocks X, that stand from o on -/
def slAt(o:Nat)(X:Mem)(T sz:Nat)(es:List (List V))(v:V):Prop:=(v= .nilsl∧es=[])∨∃ j,v= .sl (o+j) es.length∧es≠[]∧X[j]?=some (.cells .own T sz es)
theorem slAt_ext{o:Nat}{X Y:Mem}{T sz:Nat}{es:List (List V)}{v:V}(h:slAt o X T sz es v):slAt o (X++Y) T sz es v:=by
  rcases h with h|⟨j,h1,h2,h3⟩
  · exact .inl h
  · exact .inr ⟨j,h1,h2,by rw [List.getElem?_append_left (List.getElem?_eq_some_iff.1 h3).1];exact h3⟩
theorem slAt_set{o k:Nat}{X:Mem}{T sz T' sz':Nat}{es es':List (List V)}{v:V}(h:slAt o X T sz es v)(hk:X[k]?=some (.cells .own T' sz' es'))(hT:T≠T')(x:Blk):slAt o (X.set k x) T sz es v:=by
  rcases h with h|⟨j,h1,h2,h3⟩
  · exact .inl h
  · refine .inr ⟨j,h1,h2,?_⟩
    rw [List.getElem?_set_ne]
    · exact h3
    · rintro rfl
      rw [h3] at hk
      cases hk
      exact hT rfl
/-- lists that no freezing changes -/
def fzL(es:List (List V)):Prop:=∀ b xs,es.map (List.map (frzV b xs))=es
def fzM(Y:Mem):Prop:=∀ b xs,Y.map (frzC b xs)=Y
def fzT(t:List (Nat×V)):Prop:=∀ b xs,(t.map fun p=>(p.1,frzV b xs p.2))=t
theorem fz_step {L Y1 Y2 X:Mem} {p q:List V} {TT n T sz o:Nat} {es:List (List V)} {v:V} (ho:o=L.length+(Y1.length+(Y2.length+1))) (hv:slAt o X T sz es v) (hes:fzL es) (hY1:fzM Y1) (hY2:fzM Y2) (ht:fzT t)
    (hk:∀ (f:V→V) X',(∀ T' sz' es' u,T'≠T→fzL es'→slAt o X T' sz' es' u→slAt o X' T' sz' es' (f u))→(∀ u,(∀ b xs,frzV b xs u=u)→f u=u)→WA P N c t (L++(Y1++ .cells .own TT n [p.map f++ .lst es::q.map f]::(Y2++X'))) Q):WA P N c t (L++(Y1++ .cells .own TT n [p++v::q]::(Y2++X))) Q:=by
  rcases hv with ⟨rfl,rfl⟩|⟨j,rfl,h2,h3⟩
  · refine WA_wkC (b:=L.length+Y1.length) (e:=p++ .nilsl::q) (e':=p++ .lst []::q) (ty:=TT) (sz:=n) (by simp) (by simp) (fun j v' hj=>?_) ?_
    · rcases Nat.lt_or_ge j p.length with hl|hl
      · rw [List.getElem?_append_left hl] at hj ⊢
        exact⟨v',hj,WkV.refl _,fun h=>h⟩
      · rw [List.getElem?_append_right hl] at hj ⊢
        rcases hz:j - p.length with _|z
        · rw [hz] at hj
          cases hj
          exact⟨_,rfl,wk_nil,fun _=>rfl⟩
        · rw [hz] at hj
          exact⟨v',hj,WkV.refl _,fun h=>h⟩
    · have:=hk id X (fun _ _ _ _ _ _ h=>h) (fun _ _=>rfl)
      rw [List.map_id,List.map_id] at this
      rw [List.set_append_right _ _ (Nat.le_add_right _ _),Nat.add_sub_cancel_left,List.set_append_right _ _ (Nat.le_refl _),Nat.sub_self]
      exact this
  · have hx:(Y1++Blk.cells .own TT n [p++ .sl (o+j) es.length::q]::(Y2++X))[Y1.length+(Y2.length+1)+j]?=some (.cells .own T sz es):=by
      rw [List.getElem?_append_right (by omega),show Y1.length+(Y2.length+1)+j - Y1.length=(Y2.length+j)+1 by omega,List.getElem?_cons_succ,List.getElem?_append_right (by omega),Nat.add_sub_cancel_left]
      exact h3
    refine WA_fzM hx ?_
    have e1:L.length+(Y1.length+(Y2.length+1)+j)=o+j:=by omega
    rw [e1]
    have hs:(Y1++Blk.cells .own TT n [p++ .sl (o+j) es.length::q]::(Y2++X)).set (Y1.length+(Y2.length+1)+j) (.cells .ro T sz es)=Y1++Blk.cells .own TT n [p++ .sl (o+j) es.length::q]::(Y2++X.set j (.cells .ro T sz es)):=by
      rw [List.set_append_right _ _ (by omega),show Y1.length+(Y2.length+1)+j - Y1.length=(Y2.length+j)+1 by omega,List.set_cons_succ,List.set_append_right _ _ (by omega),Nat.add_sub_cancel_left]
    rw [hs,ht,List.map_append,List.map_cons,List.map_append,hY1,hY2]
    have hf:frzV (o+j) es (.sl (o+j) es.length)= .lst es:=by simp [frzV]
    have hc:frzC (o+j) es (.cells .own TT n [p++ .sl (o+j) es.length::q])= .cells .own TT n [p.map (frzV (o+j) es)++ .lst es::q.map (frzV (o+j) es)]:=by
      simp only [frzC,List.map_cons,List.map_nil,List.map_append,hf]
    rw [hc]
    refine hk (frzV (o+j) es) _ ?_ (fun u hu=>hu _ _)
    intro T' sz' es' u hT he hu
    rcases hu with ⟨rfl,rfl⟩|⟨j',rfl,g2,g3⟩
    · exact .inl ⟨rfl,rfl⟩
    · have hj:j'≠j:=by
        rintro rfl
        rw [h3] at g3
        cases g3
        exact hT rfl
      refine .inr ⟨j',if_neg (fun h=>absurd h.1 (by omega)),g2,?_⟩
      rw [List.getElem?_map,List.getElem?_set_ne (Ne.symm hj),g3]
      simp only [Option.map_some,frzC]
      rw [he]
end
theorem prtsV_fzL(l:List PartR):fzL (prtsV l):=fun b xs=>by simp [prtsV,prtV,frzV]
theorem evsV_fzL(l:List EvR):fzL (evsV l):=fun b xs=>by simp [evsV,evV,frzV]
theorem ldsV_fzL(l:List (Int×Int)):fzL (ldsV l):=fun b xs=>by simp [ldsV,ldV,frzV]
/-- where an action's three lists lie -/
structure acAt(o:Nat)(X:Mem)(a:ActR)(v1 v2 v3:V):Prop where
  p:slAt o X 71 5 (prtsV a.parts) v1
  e:slAt o X 74 4 (evsV a.evs) v2
  l:slAt o X 76 2 (ldsV a.leads) v3
/-- the three lists of an action of one's own become plain lists -/
theorem WA_fzAct{P:Program}{N:Nat}{t:List (Nat×V)}{c:Code}{Q:Exit→List (Nat×V)→Mem→Prop}{L Y1 Y2 X:Mem}{d:V}{tl:List V}{TT n o:Nat}{a:ActR}{v1 v2 v3:V}(h:acAt o X a v1 v2 v3)(ho:o=L.length+(Y1.length+(Y2.length+1)))(hY1:fzM Y1)(hY2:fzM Y2)(ht:fzT t)(hd:∀ b xs,frzV b xs d=d)(htl:∀ b xs,tl.map (frzV b xs)=tl)
    (hk:∀ X',WA P N c t (L++(Y1++ .cells .own TT n [d:: .lst (prtsV a.parts):: .lst (evsV a.evs):: .lst (ldsV a.leads)::tl]::(Y2++X'))) Q):WA P N c t (L++(Y1++ .cells .own TT n [d::v1::v2::v3::tl]::(Y2++X))) Q:=by
  have htm:∀ (f:V→V),(∀ u,(∀ b xs,frzV b xs u=u)→f u=u)→tl.map f=tl:=fun f hf=>by
    refine(List.map_congr_left fun u hu=>hf u fun b xs=>?_).trans (List.map_id _)
    obtain⟨i,hi,rfl⟩:=List.getElem_of_mem hu
    have e:=congrArg (fun z=>z[i]?) (htl b xs)
    simp only [List.getElem?_map,List.getElem?_eq_getElem hi,Option.map_some,Option.some.injEq] at e
    exact e
  have hls:∀ es,fzL es→∀ b xs,frzV b xs (.lst es)= .lst es:=fun es _ b xs=>rfl
  refine fz_step (p:=[d]) (q:=v2::v3::tl) ho h.p (prtsV_fzL _) hY1 hY2 ht fun f X' hf hg=>?_
  simp only [List.map_cons,List.map_nil,List.cons_append,List.nil_append,hg d hd,htm f hg]
  refine fz_step (p:=[d,.lst (prtsV a.parts)]) (q:=f v3::tl) ho (hf _ _ _ _ (by decide) (evsV_fzL _) h.e) (evsV_fzL _) hY1 hY2 ht fun f2 X2 hf2 hg2=>?_
  simp only [List.map_cons,List.map_nil,List.cons_append,List.nil_append,hg2 d hd,htm f2 hg2,hg2 _ (hls _ (prtsV_fzL _))]
  refine fz_step (p:=[d,.lst (prtsV a.parts),.lst (evsV a.evs)]) (q:=tl) ho (hf2 _ _ _ _ (by decide) (ldsV_fzL _) (hf _ _ _ _ (by decide) (ldsV_fzL _) h.l)) (ldsV_fzL _) hY1 hY2 ht fun f3 X3 hf3 hg3=>?_
  simp only [List.map_cons,List.map_nil,List.cons_append,List.nil_append,hg3 d hd,htm f3 hg3,hg3 _ (hls _ (prtsV_fzL _)),hg3 _ (hls _ (evsV_fzL _))]
  exact hk X3
end Go.Proofs.YtomkbpoicjabfaaGreatDoor
namespace Go.Proofs.YtomkbpoicjabfaaGreatDoor
end Go.Proofs.YtomkbpoicjabfaaGreatDoor
