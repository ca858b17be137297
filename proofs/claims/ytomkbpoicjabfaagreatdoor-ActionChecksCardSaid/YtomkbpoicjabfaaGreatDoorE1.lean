/- what comes in, read as trees; a law's statement out of its contract -/
import Derived.Test.YtomkbpoicjabfaaGreatDoorYD
import Derived.ProofKit
import Derived.OpenShut
import Derived.ChangeOld
import Derived.Below
set_option linter.unusedSimpArgs false
set_option linter.unusedVariables false
namespace Go.Proofs.YtomkbpoicjabfaaGreatDoor
open Go.RowKit Go.ChangeShapes Go.WideShapes Go.ChangeAt

inductive Ty where
  |bool
  |int (k:IntKind)
  |str
  |sl (e:Ty)
  |agg (fs:List Ty)
mutual
def Ty.size:Ty→Nat
  | .agg fs=>sizeL fs
  |_=>1
def sizeL:List Ty→Nat
  |[]=>0
  |t::r=>t.size+sizeL r
end
mutual
/-- cells that a type allows -/
def Okc:Ty→List V→Prop
  | .bool,vs=>∃ b,vs=[.bool b]
  | .int k,vs=>∃ n,vs=[.int k n]∧k.min≤n∧n≤k.max
  | .str,vs=>∃ s,vs=[.str s]∧s.length≤maxLen
  | .sl e,vs=>∃ es,vs=[.lst es]∧es.length≤maxLen∧∀ x∈es,Okc e x
  | .agg fs,vs=>OkcL fs vs
def OkcL:List Ty→List V→Prop
  |[],vs=>vs=[]
  |T::r,vs=>∃ a b,vs=a++b∧Okc T a∧OkcL r b
end
def OkV:Ty→V→Prop
  | .agg fs,v=>∃ cs,v= .agg cs∧OkcL fs cs
  |T,v=>Okc T [v]
def OkVs:List Ty→List V→Prop
  |[],us=>us=[]
  |T::r,us=>∃ u us',us=u::us'∧OkV T u∧OkVs r us'
def fieldsTy (P:Program) (g:TypeId→Option Ty):Nat→List Field→Option (List Ty)
  |_,[]=>some []
  | off,f::r=>match g f.type with
    |some T=>if f.offset=off∧T.size=P.cellsOf f.type then (fieldsTy P g (off+T.size) r).map (T:: ·) else none
    |none=>none
def tyOf (P:Program):Nat→TypeId→Option Ty
  |0,_=>none
  | n +1,t=>match P.underlying t with
    |some .bool=>some .bool
    |some (.int k)=>some (.int k)
    |some .string=>some .str
    | some (.slice e)=>match tyOf P n e with
      |some T=>if T.size=P.cellsOf e∧0<T.size then some (.sl T) else none
      |none=>none
    | some (.struct fs)=>match fieldsTy P (tyOf P n) 0 fs.toList with
      |some Ts=>if sizeL Ts=P.cellsOf t then some (.agg Ts) else none
      |none=>none
    | some (.array k e)=>match tyOf P n e with
      |some T=>if T.size=P.cellsOf e∧k * T.size=P.cellsOf t then some (.agg (List.replicate k T)) else none
      |none=>none
    |_=>none
def tysOf (P:Program):List TypeId→Option (List Ty)
  |[]=>some []
  | t::r=>match tyOf P 12 t,tysOf P r with
    |some T,some Ts=>some (T::Ts)
    |_,_=>none

theorem mapM_get{α β:Type}{f:α→Option β}:∀ {l:List α} {ys:List β},l.mapM f=some ys→ys.length=l.length∧∀ (i:Nat) x,l[i]?=some x→∃ y,ys[i]?=some y∧f x=some y
  | [],ys,h=>by
    simp at h;subst h;exact⟨rfl,fun i x h=>by simp at h⟩
  | a ::l,ys,h=>by
    rw [List.mapM_cons] at h
    cases hf:f a with
    |none=>rw [hf] at h;simp at h
    | some y=>
      rw [hf] at h
      simp only [Option.bind_eq_bind,Option.bind_some,Option.bind_eq_some_iff,Option.pure_def,Option.some.injEq] at h
      obtain⟨zs,h1,rfl⟩:=h
      obtain⟨g1,g2⟩:=mapM_get h1
      refine⟨by simp [g1],fun i x hi=>?_⟩
      rcases i with _|i
      · simp at hi;subst hi;exact⟨y,rfl,hf⟩
      · simp at hi;obtain⟨z,q1,q2⟩:=g2 i x hi;exact⟨z,by simpa using q1,q2⟩

/-- cells, as they are read -/
def RdC(w:World)(vs:List V)(cs:List Value):Prop:=vs.length=cs.length∧∀ (j:Nat) v x,vs[j]?=some v→cs[j]?=some x→v.one=true∧RelV w [] (bad [] []) v x
theorem RdC.one{w:World}{v:V}{x:Value}(hv:v.one=true)(h:RelV w [] (bad [] []) v x):RdC w [v] [x]:=by
  refine⟨rfl,fun j u y h1 h2=>?_⟩
  rcases j with _|j
  · simp at h1 h2;subst h1;subst h2;exact⟨hv,h⟩
  · simp at h1
theorem RdC.nil{w:World}:RdC w [] []:=⟨rfl,fun j v x h=>by simp at h⟩
theorem RdC.append{w:World}{a b:List V}{x y:List Value}(h:RdC w a x)(k:RdC w b y):RdC w (a++b) (x++y):=by
  refine⟨by simp [h.1,k.1],fun j v z h1 h2=>?_⟩
  rcases Nat.lt_or_ge j a.length with q|q
  · rw [List.getElem?_append_left q] at h1
    rw [List.getElem?_append_left (by rw [←h.1];exact q)] at h2
    exact h.2 j v z h1 h2
  · rw [List.getElem?_append_right q] at h1
    rw [List.getElem?_append_right (by rw [←h.1];exact q),←h.1] at h2
    exact k.2 _ v z h1 h2

section
variable {H:Type} {enc:TypeId×Value→H} {P:Program} {W:World} {sp:Nat→Bool} {held:Bool}

theorem read_fields {fuel:Nat} {g:TypeId→Option Ty} (hg:∀ t T,g t=some T→∀ cs d,DataW.trod enc P W 0 sp held fuel t cs=some d→∃ vs,RdC W vs cs∧cs.length=T.size∧Okc T vs) {cs:List Value}:
    ∀ (fs:List Field) (off:Nat) (Ts:List Ty),fieldsTy P g off fs=some Ts→off+sizeL Ts=cs.length→(∀ f∈fs,∃ d,DataW.trod enc P W 0 sp held fuel f.type ((cs.drop f.offset).take (P.cellsOf f.type))=some d)→
      ∃ vs,RdC W vs (cs.drop off)∧OkcL Ts vs
  | [],off,Ts,h1,h2,h3=>by
    cases h1
    simp only [sizeL,Nat.add_zero] at h2
    refine⟨[],?_,rfl⟩
    rw [List.drop_of_length_le (by omega)]
    exact RdC.nil
  | f ::fs,off,Ts,h1,h2,h3=>by
    simp only [fieldsTy] at h1
    split at h1
    · rename_i T hT
      split at h1
      · rename_i hc
        obtain⟨rfl,hsz⟩:=hc
        simp only [Option.map_eq_some_iff] at h1
        obtain⟨Ts',h1,rfl⟩:=h1
        simp only [sizeL] at h2
        obtain⟨d,hf⟩:=h3 f List.mem_cons_self
        obtain⟨va,a1,a2,a3⟩:=hg _ _ hT _ _ hf
        obtain⟨vb,b1,b2⟩:=read_fields hg fs (f.offset+T.size) Ts' h1 (by omega) (fun f hf=>h3 f (List.mem_cons_of_mem _ hf))
        refine⟨va++vb,?_,va,vb,rfl,a3,b2⟩
        have:=a1.append b1
        rw [←hsz,←List.drop_drop,List.take_append_drop] at this
        exact this
      · cases h1
    · cases h1

theorem read_rows{fuel:Nat}{e:TypeId}{T:Ty}(hg:∀ cs d,DataW.trod enc P W 0 sp held fuel e cs=some d→∃ vs,RdC W vs cs∧cs.length=T.size∧Okc T vs){cs:List Value}(hsz:T.size=P.cellsOf e):
    ∀ (k i0:Nat),(∀ i,i<k→∃ d,DataW.trod enc P W 0 sp held fuel e ((cs.drop ((i0+i) * P.cellsOf e)).take (P.cellsOf e))=some d)→(i0+k) * T.size=cs.length→
      ∃ vs,RdC W vs (cs.drop (i0 * T.size))∧OkcL (List.replicate k T) vs
  | 0,i0,_,h2=>by
    refine⟨[],?_,rfl⟩
    rw [List.drop_of_length_le (by simp at h2;omega)]
    exact RdC.nil
  | k +1,i0,h1,h2=>by
    obtain⟨d,hd⟩:=h1 0 (by omega)
    obtain⟨va,a1,a2,a3⟩:=hg _ _ hd
    obtain⟨vb,b1,b2⟩:=read_rows hg hsz k (i0+1) (fun i hi=>by
      obtain⟨d,hd⟩:=h1 (i+1) (by omega)
      refine⟨d,?_⟩
      rw [←hd,show i0+1+i=i0+(i+1) by omega]) (by rw [←h2];congr 1;omega)
    refine⟨va++vb,?_,va,vb,rfl,a3,b2⟩
    have:=a1.append b1
    rw [Nat.add_zero,←hsz,Nat.add_mul,Nat.one_mul,←List.drop_drop,List.take_append_drop] at this
    exact this

theorem cell_lt{w:World}{a:Addr}{v:Value}(h:w.cell? a=some v):a.block<w.heap.size:=by
  rcases Nat.lt_or_ge a.block w.heap.size with q|q
  · exact q
  · have:w.heap[a.block]?=none:=Array.getElem?_eq_none q
    simp [World.cell?,this] at h
theorem list_of {α:Type} {p:Nat→α→Prop}:∀ (n:Nat),(∀ i,i<n→∃ v,p i v)→∃ l:List α,l.length=n∧∀ (i:Nat) v,l[i]?=some v→p i v
  |0,_=>⟨[],rfl,fun i v h=>by simp at h⟩
  | n + 1,h=>by
    obtain⟨l,h1,h2⟩:=list_of n (fun i hi=>h i (by omega))
    obtain⟨v,hv⟩:=h n (by omega)
    refine⟨l++[v],by simp [h1],fun i u hu=>?_⟩
    rcases Nat.lt_or_ge i l.length with q|q
    · rw [List.getElem?_append_left q] at hu;exact h2 i u hu
    · rw [List.getElem?_append_right q] at hu
      rcases hi:i - l.length with _|j
      · rw [hi] at hu;simp at hu;subst hu
        have:i=n:=by omega
        subst this;exact hv
      · rw [hi] at hu;simp at hu

theorem cells_get{a:Addr}{n:Nat}{cs:List Value}(h:W.cells? 0 a n=some cs):cs.length=n∧∀ (j:Nat) x,cs[j]?=some x→W.cell? (a.add j)=some x:=by
  unfold World.cells? at h
  rw [if_pos (Nat.zero_le _)] at h
  obtain⟨h1,h2⟩:=mapM_get h
  have h1':cs.length=n:=by simpa using h1
  refine⟨h1',fun j x hj=>?_⟩
  have hj':j<n:=by rw [←h1'];exact(List.getElem?_eq_some_iff.1 hj).1
  obtain⟨y,q1,q2⟩:=h2 j j (by simp [hj'])
  rw [hj] at q1
  cases q1
  exact q2

theorem trod_read :∀ (f:Nat) (t:TypeId) (T:Ty),tyOf P f t=some T→∀ (fuel:Nat) (cs:List Value) (d:DataW H×List MemPlace),DataW.trod enc P W 0 sp held fuel t cs=some d→
    ∃ vs,RdC W vs cs∧cs.length=T.size∧Okc T vs
  |0,t,T,h,_,_,_,_=>by cases h
  | f + 1, t, T,h,fuel,cs,d,hd=>by
    simp only [tyOf] at h
    split at h
    · rename_i hu
      cases h
      obtain⟨b,rfl,_⟩:=DataW.trod_bool hu hd
      exact⟨[.bool b],RdC.one rfl (.bool b),rfl,b,rfl⟩
    · rename_i k hu
      cases h
      obtain⟨n,rfl,_,hw⟩:=DataW.trod_int hu hd
      simp only [Lit.wf,Bool.and_eq_true,decide_eq_true_eq] at hw
      exact⟨[.int k n],RdC.one rfl (.int k n),rfl,n,rfl,hw.1,hw.2⟩
    · rename_i hu
      cases h
      obtain⟨s,rfl,_,hw⟩:=DataW.trod_string hu hd
      exact⟨[.str s.data.toList],RdC.one rfl (.str _ s rfl),rfl,_,rfl,hw⟩
    · rename_i e hu
      split at h
      · rename_i T' hT'
        split at h
        · rename_i hsz
          obtain⟨hsz,hpos⟩:=hsz
          cases h
          rcases DataW.trod_slice hu hd with ⟨rfl,_⟩|⟨a,len,cap,elems,rest,n,rfl,rfl,_,_,hlc,hcm,hel,hE,_,_⟩
          · exact⟨[.lst []],RdC.one rfl (.lnil none 0 (Nat.zero_le _) (fun _=>rfl)),rfl,[],rfl,Nat.zero_le _,fun x hx=>by cases hx⟩
          · rcases Nat.eq_zero_or_pos len with h0|h0
            · subst h0
              exact⟨[.lst []],RdC.one rfl (.lnil (some a) cap hcm (fun h=>by cases h)),rfl,[],rfl,Nat.zero_le _,fun x hx=>by cases hx⟩
            · have key:∀ i,i<len→∃ vs:List V,(∃ cs,W.cells? 0 (a.add (i * P.cellsOf e)) (P.cellsOf e)=some cs∧RdC W vs cs)∧vs.length=T'.size∧Okc T' vs:=by
                intro i hi
                have h1:=hE i hi
                have h2:elems[i]?=some elems[i]:=List.getElem?_eq_getElem (by omega)
                rw [h2,Option.bind_eq_some_iff] at h1
                obtain⟨cs,c1,c2⟩:=h1
                obtain⟨vs,r1,r2,r3⟩:=trod_read f e T' hT' n cs _ c2
                exact⟨vs,⟨cs,c1,r1⟩,r1.1.trans r2,r3⟩
              obtain⟨es,l1,l2⟩:=list_of len key
              have spot:a.spot=none∧a.block<W.heap.size:=by
                obtain⟨vs,⟨cs,c1,r1⟩,r2,_⟩:=key 0 h0
                obtain⟨q1,q2⟩:=cells_get c1
                have hc0:cs[0]?=some (cs[0]'(by omega)):=List.getElem?_eq_getElem (by omega)
                have:=q2 0 _ hc0
                rw [Nat.zero_mul] at this
                have hz:(a.add 0).add 0=a:=by simp [Addr.add]
                rw [hz] at this
                exact⟨World.cell?_spot this,cell_lt this⟩
              obtain⟨b,off,sp'⟩:=a
              obtain⟨rfl,hb⟩:=spot
              have hcell:∀ (i j:Nat) e' v,es[i]?=some e'→e'[j]?=some v→∃ x,W.cell? ⟨b,off+i * T'.size+j,none⟩=some x∧v.one=true∧RelV W [] (bad [] []) v x:=by
                intro i j e' v a1 a2
                obtain⟨⟨cs,c1,r1⟩,r2,_⟩:=l2 i e' a1
                have hj:j<cs.length:=by rw [←r1.1];exact(List.getElem?_eq_some_iff.1 a2).1
                have hx:cs[j]?=some cs[j]:=List.getElem?_eq_getElem hj
                obtain⟨q1,q2⟩:=cells_get c1
                have:=q2 j _ hx
                rw [addr_add,addr_add,←hsz] at this
                exact⟨_,this,r1.2 j v _ a2 hx⟩
              have rv:=RelV.lst (w:=W) (ρ:=[]) (B:=bad [] []) es b off cap T'.size (fun i j=>(W.cell? ⟨b,off+i * T'.size+j,none⟩).getD undef) hb (owned_nil _) (by omega) hcm
                (fun e' he=>by
                  obtain⟨i,hi⟩:=List.getElem?_of_mem he
                  exact(l2 i e' hi).2.1)
                (fun i j e' v a1 a2=>by
                  obtain⟨x,q1,_⟩:=hcell i j e' v a1 a2
                  rw [q1];rfl)
                (fun i j e' v a1 a2=>by
                  obtain⟨x,q1,_,q3⟩:=hcell i j e' v a1 a2
                  rw [q1];exact q3)
                (fun i j e' v a1 a2=>by
                  obtain⟨x,_,q2,_⟩:=hcell i j e' v a1 a2
                  exact q2)
              rw [l1] at rv
              refine⟨[.lst es],RdC.one rfl rv,rfl,es,rfl,by omega,fun x hx=>?_⟩
              obtain⟨i,hi⟩:=List.getElem?_of_mem hx
              exact(l2 i x hi).2.2
        · cases h
      · cases h
    · rename_i fs hu
      split at h
      · rename_i Ts hTs
        split at h
        · rename_i hsz
          cases h
          obtain⟨xs,n,_,rfl,hl,hlen,hf⟩:=DataW.trod_struct hu hd
          obtain⟨vs,r1,r2⟩:=read_fields (fuel:=n) (g:=tyOf P f) (fun t T hT cs d hd=>trod_read f t T hT n cs d hd) (cs:=cs) fs.toList 0 Ts hTs (by omega) (fun g hg=>by
            obtain⟨i,hi⟩:=List.getElem?_of_mem hg
            have hi':fs[i]?=some g:=by simpa using hi
            have hx:i<xs.length:=by
              have:=(List.getElem?_eq_some_iff.1 hi).1
              simp at this;omega
            exact⟨_,(hf i g hi').trans (List.getElem?_eq_getElem hx)⟩)
          exact⟨vs,by simpa using r1,by simp only [Ty.size];omega,r2⟩
        · cases h
      · cases h
    · rename_i k e hu
      split at h
      · rename_i T' hT'
        split at h
        · rename_i hsz
          cases h
          obtain⟨xs,n,_,rfl,hl,hlen,hf⟩:=DataW.trod_array hu hd
          obtain⟨vs,r1,r2⟩:=read_rows (fuel:=n) (e:=e) (T:=T') (fun cs d hd=>trod_read f e T' hT' n cs d hd) (cs:=cs) hsz.1 k 0 (fun i hi=>by
            have hx:i<xs.length:=by omega
            exact⟨_,(by rw [Nat.zero_add];exact(hf i hi).trans (List.getElem?_eq_getElem hx))⟩) (by rw [Nat.zero_add,hl];exact hsz.2)
          refine⟨vs,by simpa using r1,?_,r2⟩
          have:∀ k,sizeL (List.replicate k T')=k * T'.size:=by
            intro k
            induction k with
            |zero=>simp [sizeL]
            |succ k ih=>simp only [List.replicate_succ,sizeL,ih];rw [Nat.succ_mul];omega
          simp only [Ty.size,this,hl,hsz.2]
        · cases h
      · cases h
    · cases h

theorem read_arg {f:Nat} {t:TypeId} {T:Ty} {r:Reach} {b:Nat} {v:Value} {d:DataW H} {p:List MemPlace} (hT:tyOf P f t=some T) (hw:Value.okWide P W r b t v) (hd:DataW.Trod enc P W 0 sp held t v d p):
    ∃ u:V,RelV W [] (bad [] []) u v∧OkV T u:=by
  obtain⟨fuel,hd⟩:=hd
  obtain⟨vs,r1,r2,r3⟩:=trod_read f t T hT fuel _ _ hd
  have one:v.cells= #[v]→T.size=1→(∀ u,Okc T [u]→OkV T u)→∃ u:V,RelV W [] (bad [] []) u v∧OkV T u:=by
    intro h1 h2 h3
    rw [h1] at r1
    match vs,r1 with
    |[u],r1=>exact⟨u,(r1.2 0 u v rfl rfl).2,h3 u r3⟩
    |[],r1=>have:=r1.1;simp at this
    |_::_::_,r1=>have:=r1.1;simp at this
  cases f with
  |zero=>cases hT
  | succ f=>
    simp only [tyOf] at hT
    split at hT
    · rename_i hu
      cases hT
      obtain⟨b,rfl⟩:=okWide_bool hu hw
      exact one rfl rfl fun u h=>h
    · rename_i k hu
      cases hT
      obtain⟨n,rfl⟩:=okWide_int hu hw
      exact one rfl rfl fun u h=>h
    · rename_i hu
      cases hT
      obtain⟨s,rfl⟩:=okWide_string hu hw
      exact one rfl rfl fun u h=>h
    · rename_i e hu
      obtain⟨a,len,cap,rfl⟩:=okWide_slice hu hw
      split at hT
      · split at hT
        · cases hT;exact one rfl rfl fun u h=>h
        · cases hT
      · cases hT
    · rename_i fs hu
      split at hT
      · split at hT
        · cases hT
          simp only [Value.okWide,hu] at hw
          obtain⟨cs,rfl,hsz,_⟩:=hw
          refine⟨.agg vs,.agg vs cs (by have:=r1.1;simpa [Value.cells] using this) (fun i c x h1 h2=>(r1.2 i c x h1 (by simpa [Value.cells] using h2)).2),vs,rfl,r3⟩
        · cases hT
      · cases hT
    · rename_i k e hu
      split at hT
      · split at hT
        · cases hT
          simp only [Value.okWide,hu] at hw
          obtain⟨cs,rfl,hsz,_⟩:=hw
          refine⟨.agg vs,.agg vs cs (by have:=r1.1;simpa [Value.cells] using this) (fun i c x h1 h2=>(r1.2 i c x h1 (by simpa [Value.cells] using h2)).2),vs,rfl,r3⟩
        · cases hT
      · cases hT
    · cases hT

theorem read_args{r:Reach}{b:Nat}:∀ (ts:List TypeId) (Ts:List Ty) (vs:List Value) (ds:List (DataW H)) (ps:List MemPlace),tysOf P ts=some Ts→DataW.TrodAll enc P W 0 sp held ts vs ds ps→
    (∀ (j:Nat) t v,ts[j]?=some t→vs[j]?=some v→Value.okWide P W r b t v)→∃ us:List V,us.length=vs.length∧(∀ (i:Nat) u x,us[i]?=some u→vs[i]?=some x→RelV W [] (bad [] []) u x)∧OkVs Ts us
  | [],Ts,vs,ds,ps,h1,h2,_=>by
    cases h1
    obtain⟨rfl,_,_⟩:=trodAll_nil h2
    exact⟨[],rfl,fun i u x h=>by simp at h,rfl⟩
  | t ::ts,Ts,vs,ds,ps,h1,h2,h3=>by
    simp only [tysOf] at h1
    split at h1
    · rename_i T Ts' hT hTs
      cases h1
      obtain⟨v,vs',d,ds',p,q,rfl,rfl,rfl,hd,hrest⟩:=trodAll_cons h2
      obtain⟨u,u1,u2⟩:=read_arg hT (h3 0 t v rfl rfl) hd
      obtain⟨us,k1,k2,k3⟩:=read_args ts Ts' vs' ds' q hTs hrest (fun j t v a1 a2=>h3 (j+1) t v (by simpa using a1) (by simpa using a2))
      refine⟨u::us,by simp [k1],fun i w x a1 a2=>?_,u,us,rfl,u2,k3⟩
      rcases i with _|i
      · simp at a1 a2;subst a1;subst a2;exact u1
      · simp at a1 a2;exact k2 i w x a1 a2
    · cases h1

theorem trodAll_below(hl:laidOutB P=true){W':World}(hb:Below W.heap.size W W'):∀ (ts:List TypeId) (vs:List Value) (ds:List (DataW H)) (ps:List MemPlace),(ts.all fun t=>P.readableRec t && decide (t<P.types.size))=true→DataW.TrodAll enc P W 0 (fun _=>true) true ts vs ds ps→
    DataW.TrodAll enc P W' 0 (fun b=>decide (b<W.heap.size)) true ts vs ds ps
  | [],vs,ds,ps,_,h=>by
    obtain⟨rfl,rfl,rfl⟩:=trodAll_nil h
    exact rfl
  | t::ts,vs,ds,ps,h0,h=>by
    simp only [List.all_cons,Bool.and_eq_true,decide_eq_true_eq] at h0
    obtain⟨v,vs',d,ds',p,q,rfl,rfl,rfl,hd,hrest⟩:=trodAll_cons h
    have hlt:∀ x∈p,x.block<W.heap.size:=by obtain⟨m,hm⟩:=hd;exact DataW.trod_lt m _ _ _ hm
    exact⟨p,q,Below.trod hl h0.1.1 h0.1.2 hd hb hlt,trodAll_below hl hb ts vs' ds' q h0.2 hrest,rfl⟩

/-- a law's contract, as the row wants it -/
theorem law_calls{s:ChangeSpec}{fn:Func}{f:FuncId}{apart:Bool}{Ts:List Ty}(hl:laidOutB P=true)(hvars:s.vars=[])(hap:apart=false)
    (hfn:∀ (ds:List (DataW H)),ds.length=fn.params.size→s.fn H ds={ results:=[.lit (.bool true)],args:=ds })
    (hrow:(fn.params.toList.all fun t=>P.readableRec t && decide (t<P.types.size))=true) (hts:tysOf P fn.params.toList=some Ts) {tb:TypeId} (hres:fn.resultTypes= #[tb]) (hb:P.underlying tb=some .bool)
    (hlaw:∀ us,OkVs Ts us→Gives P f us [] (.bool true))
    (hgl:GlobOk W [] (bad [] []))
    {base:Nat} {args:Array Value} {ds gs:List (DataW H)} {before:List MemPlace} (hval:∀ (j:Nat) t v,fn.params[j]?=some t→args[j]?=some v→Value.okWide P W .any base t v)
    (hW:DataW.Whole enc P fn.params.toList s.vars apart W args.toList ds gs before):
    Calls P f args W fun e W'=>∃ v,e= .returned v∧s.post enc P fn apart true false false W args v W':=by
  have hW':=hW
  subst hap
  rw [hvars] at hW
  obtain⟨p,q,hA,hV,rfl,hfz,hnd⟩:=hW
  obtain⟨rfl,rfl⟩:=trodVars_none hV
  obtain⟨us,k1,k2,k3⟩:=read_args (r:= .any) (b:=base) fn.params.toList Ts args.toList ds p hts hA (fun j t v a1 a2=>hval j t v (by simpa using a1) (by simpa using a2))
  have hds:∀ (ts:List TypeId) (vs:List Value) (ds:List (DataW H)) (p:List MemPlace),DataW.TrodAll enc P W 0 (fun _=>true) true ts vs ds p→ds.length=ts.length:=by
    intro ts
    induction ts with
    |nil=>intro vs ds p h;obtain⟨_,rfl,_⟩:=trodAll_nil h;rfl
    | cons t ts ih=>
      intro vs ds p h
      obtain⟨v,vs',d,ds',p',q',rfl,rfl,rfl,_,h'⟩:=trodAll_cons h
      simp [ih _ _ _ h']
  have hlen:(ds++[]).length=fn.params.size:=by simpa using hds _ _ _ _ hA
  refine((hlaw us k3).2 W [] args (RelM.nil W hgl) ⟨by simpa using k1,fun i v x a1 a2=>k2 i v x a1 (by simpa using a2)⟩).mono ?_
  rintro e W' ⟨v,mo,x,rfl,⟨rfl,rfl⟩,hh⟩
  have hbel:Below W.heap.size W W'∧x= .bool true:=by
    rcases hh with ⟨_,h1,h2⟩|⟨m',ρ',h1,_⟩
    · cases h2;exact⟨h1,rfl⟩
    · cases h1
  obtain⟨bel,rfl⟩:=hbel
  have hres':fn.resultTypes.toList=[tb]:=by rw [hres]
  refine⟨_,rfl,ds,[],_,[],p,[],hW',?_,?_,?_,bel.frame _,fun h=>by cases h⟩
  · rw [hfn _ hlen,hres']
    have:(Value.bool true).resultList fn.resultTypes.size=[.bool true]:=by rw [hres];rfl
    rw [this]
    exact trodAll_mk1 (shut_bool hb _)
  · rw [hfn _ hlen,List.append_nil]
    exact trodAll_below hl bel _ _ _ _ hrow hA
  · rw [hfn _ hlen,hvars]
    exact rfl
end
theorem okcL_nil{vs:List V}(h:OkcL [] vs):vs=[]:=h
theorem okcL_int{k:IntKind}{r:List Ty}{vs:List V}(h:OkcL (.int k::r) vs):∃ n vs',vs= .int k n::vs'∧(k.min≤n∧n≤k.max)∧OkcL r vs':=by
  obtain⟨a,b,rfl,⟨n,rfl,h1,h2⟩,h3⟩:=h
  exact⟨n,b,rfl,⟨h1,h2⟩,h3⟩
theorem okcL_agg{fs r:List Ty}{vs:List V}(h:OkcL (.agg fs::r) vs):∃ a b,vs=a++b∧OkcL fs a∧OkcL r b:=by
  obtain⟨a,b,rfl,h1,h2⟩:=h
  exact⟨a,b,rfl,h1,h2⟩
theorem okVs_nil{us:List V}(h:OkVs [] us):us=[]:=h
theorem okVs_agg{fs r:List Ty}{us:List V}(h:OkVs (.agg fs::r) us):∃ cs us',us= .agg cs::us'∧OkcL fs cs∧OkVs r us':=by
  obtain⟨u,us',rfl,⟨cs,rfl,h1⟩,h4⟩:=h
  exact⟨cs,us',rfl,h1,h4⟩
theorem i64min:IntKind.min .i64= -9223372036854775808:=by decide
theorem i64max':IntKind.max .i64=9223372036854775807:=by decide
/-- elements that a type allows, as a list of what they stand for -/
theorem oks_map{α:Type}{T:Ty}{enc:α→List V}{ok:α→Prop}(h:∀ x,Okc T x→∃ a,x=enc a∧ok a):∀ {es:List (List V)},(∀ x∈es,Okc T x)→∃ l:List α,es=l.map enc∧∀ a∈l,ok a
  |[],_=>⟨[],rfl,fun _ h=>nomatch h⟩
  | x::es,hx=>by
    obtain⟨a,rfl,ha⟩:=h x (hx x List.mem_cons_self)
    obtain⟨l,rfl,hl⟩:=oks_map h (fun y hy=>hx y (List.mem_cons_of_mem _ hy))
    refine⟨a::l,rfl,fun b hb=>?_⟩
    rcases List.mem_cons.1 hb with rfl|hb
    · exact ha
    · exact hl b hb
end Go.Proofs.YtomkbpoicjabfaaGreatDoor
