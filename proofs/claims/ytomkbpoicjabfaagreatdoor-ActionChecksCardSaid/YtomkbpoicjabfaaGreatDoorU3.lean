/- what an action is written as, and that it is read back -/
import Derived.Test.YtomkbpoicjabfaaGreatDoorGAI
import Derived.Test.YtomkbpoicjabfaaGreatDoorD4
set_option linter.unusedSimpArgs false
set_option linter.unusedVariables false
namespace Go.Proofs.YtomkbpoicjabfaaGreatDoor
open Go.RowKit
attribute [local irreducible] WA WOs WDs WAn qThen qBlock tput
set_option maxHeartbeats 1000000
set_option maxRecDepth 20000
set_option linter.unusedSimpArgs false
set_option linter.unusedVariables false
set_option maxHeartbeats 4000000
theorem valD_dec(u:Nat):valD 0 (Lib.decDigits u)=u:=by
  induction u using Nat.strongRecOn with
  | _ u ih=>
    rw [Lib.decDigits]
    split
    · show 10 * 0+((UInt8.ofNat (48+u)).toNat - 48)=u
      have:=u8_of (d:=48+u) (by omega)
      omega
    · rw [valD_snoc,ih (u / 10) (by omega)]
      have:=u8_of (d:=48+u % 10) (by omega)
      omega
theorem dec_len:∀ (k u:Nat),u<10 ^ (k+1)→(Lib.decDigits u).length≤k+1
  | 0,u,h=>by
    rw [Lib.decDigits,dif_pos (by simpa using h)]
    exact Nat.le_refl _
  | k +1,u,h=>by
    by_cases h9:u<10
    · rw [Lib.decDigits,dif_pos h9];simp
    · rw [Lib.decDigits,dif_neg h9,List.length_append]
      have:=dec_len k (u / 10) (by rw [Nat.pow_succ] at h;omega)
      simp only [List.length_cons,List.length_nil]
      omega
theorem dec_ne(u:Nat):Lib.decDigits u≠[]:=by
  rw [Lib.decDigits]
  split
  · simp
  · simp
theorem dec_fr(u:Nat):frP (Lib.decDigits u)=0:=by
  unfold frP
  rw [if_neg]
  intro h
  rcases hd:Lib.decDigits u with _|⟨c,r⟩
  · exact dec_ne u hd
  · rw [hd] at h
    simp at h
    have:=dec_dig u c (by rw [hd];exact List.mem_cons_self)
    subst h
    exact absurd this.1 (by decide)
theorem numP_itoa {d:Nat} (hd:d≤17) {n:Int} (h:n.natAbs<10 ^ (d+1)):numP (d+1) (Lib.itoa n)=some n:=by
  have key:nGood (d+1) (Lib.itoa n)∧nV (Lib.itoa n)=n:=by
    unfold Lib.itoa nGood nV
    split
    · have hf:frP (45::Lib.decDigits n.natAbs)=1:=rfl
      rw [hf]
      refine⟨⟨?_,?_,?_⟩,?_⟩
      · have:=dec_ne n.natAbs
        intro q
        simp at q
        exact this q
      · have:=dec_len d n.natAbs h
        simp only [List.length_cons]
        omega
      · exact dec_dig _
      · rw [if_pos rfl]
        show -((valD 0 (Lib.decDigits n.natAbs):Nat):Int)=n
        rw [valD_dec]
        omega
    · rename_i hn
      have hf:frP (Lib.decDigits n.toNat)=0:=dec_fr _
      rw [hf]
      refine⟨⟨?_,?_,?_⟩,?_⟩
      · have:=dec_ne n.toNat
        intro q
        exact this (List.length_eq_zero_iff.1 q)
      · have:=dec_len d n.toNat (by rw [show n.toNat=n.natAbs by omega];exact h)
        omega
      · exact dec_dig _
      · rw [if_neg (by decide)]
        show((valD 0 (Lib.decDigits n.toNat):Nat):Int)=n
        rw [valD_dec]
        omega
  rw [numP_good (by omega) key.1,key.2,if_pos rfl]
theorem itoa_ne{n:Int}{c:UInt8}(hc:c∈Lib.itoa n):c≠32∧c≠10:=by
  unfold Lib.itoa at hc
  have key:∀ u,c∈Lib.decDigits u→c≠32∧c≠10:=fun u h=>by
    have:=dec_dig u c h
    constructor
    · rintro rfl;exact absurd this.1 (by decide)
    · rintro rfl;exact absurd this.1 (by decide)
  split at hc
  · rcases List.mem_cons.1 hc with rfl|hc
    · decide
    · exact key _ hc
  · exact key _ hc
theorem cutP_no{c:UInt8}:∀ {s:Txt},(∀ x∈s,x≠c)→cutP c s=[s]
  |[],_=>rfl
  | b::l,h=>by
    have ih:=cutP_no (c:=c) (s:=l) fun x hx=>h x (List.mem_cons_of_mem _ hx)
    unfold cutP
    rw [if_neg (h b List.mem_cons_self),ih]
theorem cutP_app{c:UInt8}{s:Txt}:∀ {p:Txt},(∀ x∈p,x≠c)→cutP c (p++c::s)=p::cutP c s
  | [],_=>by
    rw [List.nil_append]
    conv=>lhs;unfold cutP
    rw [if_pos rfl]
  | b::l,h=>by
    have ih:=cutP_app (c:=c) (s:=s) (p:=l) fun x hx=>h x (List.mem_cons_of_mem _ hx)
    rw [List.cons_append]
    conv=>lhs;unfold cutP
    rw [if_neg (h b List.mem_cons_self),ih]
def txP(s:Txt):Prop:=∀ c∈s,c≠32∧c≠10
theorem nameP_tx{s:Txt}(h:nameP s):txP s:=by
  intro c hc
  obtain⟨i,hi,rfl⟩:=List.getElem_of_mem hc
  have h2:=h.2.2 i hi
  have e:byt s i=(s[i].toNat:Int):=by unfold byt;rw [List.getD_eq_getElem?_getD,List.getElem?_eq_getElem hi];rfl
  unfold okC letP digP at h2
  rw [e] at h2
  constructor
  · intro q
    have:s[i].toNat=32:=by rw [q];rfl
    omega
  · intro q
    have:s[i].toNat=10:=by rw [q];rfl
    omega
def joinS:List Txt→Txt
  |[]=>[]
  |[w]=>w
  |w::x::r=>w++32::joinS (x::r)
theorem cut_join:∀ {ws:List Txt},ws≠[]→(∀ w∈ws,txP w)→cutP 32 (joinS ws)=ws
  |[],h,_=>absurd rfl h
  |[w],_,h=>cutP_no fun c hc=>(h w List.mem_cons_self c hc).1
  | w::x::r,_,h=>by
    unfold joinS
    rw [cutP_app fun c hc=>(h w List.mem_cons_self c hc).1,cut_join (by simp) fun y hy=>h y (List.mem_cons_of_mem _ hy)]
theorem join_tx:∀ {ws:List Txt},(∀ w∈ws,txP w)→∀ c∈joinS ws,c≠10
  |[],_,c,hc=>by cases hc
  |[w],h,c,hc=>(h w List.mem_cons_self c hc).2
  | w ::x::r,h,c,hc=>by
    unfold joinS at hc
    rcases List.mem_append.1 hc with hc|hc
    · exact(h w List.mem_cons_self c hc).2
    · rcases List.mem_cons.1 hc with rfl|hc
      · decide
      · exact join_tx (fun y hy=>h y (List.mem_cons_of_mem _ hy)) c hc
theorem join_len{L:Nat}:∀ {ws:List Txt},(∀ w∈ws,w.length≤L)→(joinS ws).length≤ws.length * (L+1)
  |[],_=>Nat.zero_le _
  | [w],h=>by
    have:=h w List.mem_cons_self
    show w.length≤1 * (L+1)
    omega
  | w::x::r,h=>by
    have h1:=h w List.mem_cons_self
    have h2:=join_len (ws:=x::r) fun y hy=>h y (List.mem_cons_of_mem _ hy)
    have e:(w::x::r).length * (L+1)=(x::r).length * (L+1)+(L+1):=Nat.succ_mul _ _
    unfold joinS
    rw [List.length_append,List.length_cons,e]
    omega
theorem itoa_tx(n:Int):txP (Lib.itoa n):=fun _ hc=>itoa_ne hc
theorem itoa_len{n:Int}(h:n.natAbs≤100000):(Lib.itoa n).length≤12:=by
  have:=dec_len 5 n.natAbs (by omega)
  unfold Lib.itoa
  split
  · simp only [List.length_cons];omega
  · rw [show n.toNat=n.natAbs by omega];omega
theorem cut_lines:∀ {ls:List Txt},(∀ l∈ls,∀ c∈l,c≠10)→cutP 10 (ls.flatMap fun l=>l++[10])=ls++[[]]
  |[],_=>rfl
  | l::r,h=>by
    rw [List.flatMap_cons,List.append_assoc,List.singleton_append,cutP_app (h l List.mem_cons_self),cut_lines fun x hx=>h x (List.mem_cons_of_mem _ hx)]
    rfl
theorem gd_mem{α:Type}{l:List α}{d x:α}(h:x∈l):∃ i,i<l.length∧l.getD i d=x:=by
  obtain⟨i,hi,rfl⟩:=List.getElem_of_mem h
  exact⟨i,hi,by rw [List.getD_eq_getElem?_getD,List.getElem?_eq_getElem hi];rfl⟩
def corW:List Rk→List Txt
  |[]=>[]
  |c::r=>Lib.itoa c.1.1::Lib.itoa c.2.1::corW r
def drW(s:Txt):Txt:=if s=[] then [45] else s
def dirW(b:Bool):Txt:=if b=true then fallT else riseT
def ptW(p:PartR):List Txt:=partT::p.name::drW p.driver::Lib.itoa p.wt::Lib.itoa p.fr::corW p.cor
def evW(e:EvR):List Txt:=[eventT,e.name,e.part,dirW e.fall,Lib.itoa e.lev]
def ldW(l:Int×Int):List Txt:=[leadT,Lib.itoa l.1,Lib.itoa l.2]
def dpW(d:Int):List Txt:=[actionT,Lib.itoa d]
def linesA(a:ActR):List Txt:=joinS (dpW a.dip)::(a.parts.map (fun x=>joinS (ptW x))++(a.evs.map (fun x=>joinS (evW x))++a.leads.map fun x=>joinS (ldW x)))
/-- the text of an action -/
def printA(a:ActR):Txt:=(linesA a).flatMap fun l=>l++[10]
structure PWr(x:PartR):Prop where
  n:nameP x.name
  d:x.driver=[]∨nameP x.driver
  w:x.wt.natAbs≤100000
  f:x.fr.natAbs≤100000
  k:x.cor.length≤12
  c:∀ c∈x.cor,(c.1.2=1∧c.2.2=1)∧c.1.1.natAbs≤100000∧c.2.1.natAbs≤100000
structure EWr(x:EvR):Prop where
  n:nameP x.name
  p:nameP x.part
  l:x.lev.natAbs≤100000
structure AcWr(a:ActR):Prop where
  d:a.dip.natAbs≤100000
  fp:a.parts.length≤12
  fe:a.evs.length≤20
  fl:a.leads.length≤8
  p:∀ x∈a.parts,PWr x
  e:∀ x∈a.evs,EWr x
  l:∀ x∈a.leads,x.1.natAbs≤100000∧x.2.natAbs≤100000
theorem corW_len:∀ (l:List Rk),(corW l).length=2 * l.length
  |[]=>rfl
  |c::r=>by simp only [corW,List.length_cons,corW_len r];omega
theorem cor_nums:∀ {l:List Rk},(∀ c∈l,(c.1.2=1∧c.2.2=1)∧c.1.1.natAbs≤100000∧c.2.1.natAbs≤100000)→∃ n,numsP 7 (corW l)=some n∧knP n=l
  |[],_=>⟨[],rfl,rfl⟩
  | ((a,b),(c,d))::r,h=>by
    obtain⟨n,h1,h2⟩:=cor_nums (l:=r) fun x hx=>h x (List.mem_cons_of_mem _ hx)
    obtain⟨⟨e1,e2⟩,e3,e4⟩:=h _ List.mem_cons_self
    dsimp only at e1 e2 e3 e4
    subst e1 e2
    refine⟨a::c::n,?_,by simp only [knP,h2]⟩
    simp only [corW,numsP]
    rw [numP_itoa (d:=6) (by decide) (by omega),numP_itoa (d:=6) (by decide) (by omega),h1]
    rfl
theorem dr_ne{s:Txt}(h:s=[]∨nameP s):drW s≠[]∧(if drW s=[45] then [] else drW s)=s:=by
  rcases h with rfl|h
  · exact⟨by decide,by decide⟩
  · have hn:s≠[]:=by rintro rfl;exact absurd h.1 (by decide)
    have h45:s≠[45]:=by rintro rfl;revert h;decide
    unfold drW
    rw [if_neg hn]
    exact⟨hn,if_neg h45⟩
theorem partP_back{x:PartR}(h:PWr x):partP (x.name::drW x.driver::Lib.itoa x.wt::Lib.itoa x.fr::corW x.cor)=some x:=by
  obtain⟨n,h1,h2⟩:=cor_nums h.c
  obtain⟨h3,h4⟩:=dr_ne h.d
  have hn:numsP 7 (Lib.itoa x.wt::Lib.itoa x.fr::corW x.cor)=some (x.wt::x.fr::n):=by
    simp only [numsP]
    rw [numP_itoa (d:=6) (by decide) (by have:=h.w;omega),numP_itoa (d:=6) (by decide) (by have:=h.f;omega),h1]
    rfl
  unfold partP
  dsimp only
  rw [if_pos ⟨by simp,by simp only [List.length_cons,corW_len];omega,h3⟩,hn,h4]
  show some _=_
  obtain⟨nm,dr,cor,wt,fr⟩:=x
  exact congrArg some (by show PartR.mk _ _ (knP n) _ _=_;rw [h2];rfl)
theorem evP_back{x:EvR}(h:EWr x):evP [x.name,x.part,dirW x.fall,Lib.itoa x.lev]=some x:=by
  obtain⟨nm,pt,lv,fl⟩:=x
  have hl:=numP_itoa (d:=6) (n:=lv) (by decide) (by have:=h.l;dsimp only at this;omega)
  unfold evP
  dsimp only at hl ⊢
  rw [hl]
  cases fl<;>rfl
theorem const_tx{s:Txt}(h:s.all (fun c=>decide (c≠32∧c≠10))=true):txP s:=fun c hc=>by simpa using List.all_eq_true.1 h c hc
theorem corW_tx:∀ {l:List Rk},∀ w∈corW l,txP w
  |[],w,hw=>by cases hw
  | c::r,w,hw=>by
    simp only [corW,List.mem_cons] at hw
    rcases hw with rfl|rfl|hw
    · exact itoa_tx _
    · exact itoa_tx _
    · exact corW_tx w hw
theorem drW_tx{s:Txt}(h:s=[]∨nameP s):txP (drW s):=by
  rcases h with rfl|h
  · exact const_tx rfl
  · have hn:s≠[]:=by rintro rfl;exact absurd h.1 (by decide)
    unfold drW
    rw [if_neg hn]
    exact nameP_tx h
theorem dirW_tx(b:Bool):txP (dirW b):=by cases b<;>exact const_tx rfl
theorem ptW_tx{x:PartR}(h:PWr x):∀ w∈ptW x,txP w:=by
  intro w hw
  simp only [ptW,List.mem_cons] at hw
  rcases hw with rfl|rfl|rfl|rfl|rfl|hw
  · exact const_tx rfl
  · exact nameP_tx h.n
  · exact drW_tx h.d
  · exact itoa_tx _
  · exact itoa_tx _
  · exact corW_tx w hw
theorem evW_tx{x:EvR}(h:EWr x):∀ w∈evW x,txP w:=by
  intro w hw
  simp only [evW,List.mem_cons,List.not_mem_nil,or_false] at hw
  rcases hw with rfl|rfl|rfl|rfl|rfl
  · exact const_tx rfl
  · exact nameP_tx h.n
  · exact nameP_tx h.p
  · exact dirW_tx _
  · exact itoa_tx _
theorem ldW_tx(x:Int×Int):∀ w∈ldW x,txP w:=by
  intro w hw
  simp only [ldW,List.mem_cons,List.not_mem_nil,or_false] at hw
  rcases hw with rfl|rfl|rfl
  · exact const_tx rfl
  · exact itoa_tx _
  · exact itoa_tx _
theorem dpW_tx(d:Int):∀ w∈dpW d,txP w:=by
  intro w hw
  simp only [dpW,List.mem_cons,List.not_mem_nil,or_false] at hw
  rcases hw with rfl|rfl
  · exact const_tx rfl
  · exact itoa_tx _
theorem corW_w:∀ {l:List Rk},(∀ c∈l,(c.1.2=1∧c.2.2=1)∧c.1.1.natAbs≤100000∧c.2.1.natAbs≤100000)→∀ w∈corW l,w.length≤12
  |[],_,w,hw=>by cases hw
  | c::r,h,w,hw=>by
    simp only [corW,List.mem_cons] at hw
    rcases hw with rfl|rfl|hw
    · exact itoa_len (h c List.mem_cons_self).2.1
    · exact itoa_len (h c List.mem_cons_self).2.2
    · exact corW_w (fun x hx=>h x (List.mem_cons_of_mem _ hx)) w hw
theorem drW_w{s:Txt}(h:s=[]∨nameP s):(drW s).length≤12:=by
  rcases h with rfl|h
  · decide
  · have hn:s≠[]:=by rintro rfl;exact absurd h.1 (by decide)
    unfold drW
    rw [if_neg hn]
    exact h.2.1
theorem ptW_len{x:PartR}(h:PWr x):(joinS (ptW x)).length≤999:=by
  have:=join_len (L:=12) (ws:=ptW x) fun w hw=>by
    simp only [ptW,List.mem_cons] at hw
    rcases hw with rfl|rfl|rfl|rfl|rfl|hw
    · decide
    · exact h.n.2.1
    · exact drW_w h.d
    · exact itoa_len h.w
    · exact itoa_len h.f
    · exact corW_w h.c w hw
  have e:(ptW x).length=5+2 * x.cor.length:=by simp only [ptW,List.length_cons,corW_len];omega
  have h1:=h.k
  rw [e] at this
  have:(5+2 * x.cor.length) * (12+1)≤29 * 13:=Nat.mul_le_mul_right _ (by omega)
  omega
theorem evW_len{x:EvR}(h:EWr x):(joinS (evW x)).length≤999:=by
  have:=join_len (L:=12) (ws:=evW x) fun w hw=>by
    simp only [evW,List.mem_cons,List.not_mem_nil,or_false] at hw
    rcases hw with rfl|rfl|rfl|rfl|rfl
    · decide
    · exact h.n.2.1
    · exact h.p.2.1
    · cases x.fall<;>decide
    · exact itoa_len h.l
  have e:(evW x).length=5:=rfl
  rw [e] at this
  omega
theorem ldW_len{x:Int×Int}(h:x.1.natAbs≤100000∧x.2.natAbs≤100000):(joinS (ldW x)).length≤999:=by
  have:=join_len (L:=12) (ws:=ldW x) fun w hw=>by
    simp only [ldW,List.mem_cons,List.not_mem_nil,or_false] at hw
    rcases hw with rfl|rfl|rfl
    · decide
    · exact itoa_len h.1
    · exact itoa_len h.2
  have e:(ldW x).length=3:=rfl
  rw [e] at this
  omega
theorem dpW_len{d:Int}(h:d.natAbs≤100000):(joinS (dpW d)).length≤999:=by
  have:=join_len (L:=12) (ws:=dpW d) fun w hw=>by
    simp only [dpW,List.mem_cons,List.not_mem_nil,or_false] at hw
    rcases hw with rfl|rfl
    · decide
    · exact itoa_len h
  have e:(dpW d).length=2:=rfl
  rw [e] at this
  omega
theorem linesA_all{q:Txt→Prop}{a:ActR}(h0:q (joinS (dpW a.dip)))(h1:∀ x∈a.parts,q (joinS (ptW x)))(h2:∀ x∈a.evs,q (joinS (evW x)))(h3:∀ x∈a.leads,q (joinS (ldW x))):∀ l∈linesA a,q l:=by
  intro l hl
  rcases List.mem_cons.1 hl with rfl|hl
  · exact h0
  rcases List.mem_append.1 hl with hl|hl
  · obtain⟨x,hx,rfl⟩:=List.mem_map.1 hl
    exact h1 x hx
  rcases List.mem_append.1 hl with hl|hl
  · obtain⟨x,hx,rfl⟩:=List.mem_map.1 hl
    exact h2 x hx
  · obtain⟨x,hx,rfl⟩:=List.mem_map.1 hl
    exact h3 x hx
theorem linesA_len{a:ActR}(h:AcWr a):∀ l∈linesA a,l.length≤999:=linesA_all (q:=fun l=>l.length≤999) (dpW_len h.d) (fun x hx=>ptW_len (h.p x hx)) (fun x hx=>evW_len (h.e x hx)) fun x hx=>ldW_len (h.l x hx)
theorem linesA_no{a:ActR}(h:AcWr a):∀ l∈linesA a,∀ c∈l,c≠10:=linesA_all (q:=fun l=>∀ c∈l,c≠10) (join_tx (dpW_tx _)) (fun x hx=>join_tx (ptW_tx (h.p x hx))) (fun x hx=>join_tx (evW_tx (h.e x hx))) fun x _=>join_tx (ldW_tx x)
theorem line_dp{d:Int}(h:d.natAbs≤100000):lineA true az (joinS (dpW d))=some ⟨d,[],[],[]⟩:=by
  have hn:=numP_itoa (d:=6) (n:=d) (by decide) (by omega)
  unfold lineA
  rw [cut_join (by simp [dpW]) (dpW_tx d)]
  simp only [dpW]
  rw [if_neg (by decide),if_neg (fun q=>absurd q.1 (by decide)),if_neg (fun q=>absurd q.1 (by decide)),if_pos ⟨trivial,rfl⟩]
  simp only [numsP]
  rw [hn]
  rfl
theorem line_pt{x:PartR}(h:PWr x)(d:Int)(l:List PartR):lineA false ⟨d,l,[],[]⟩ (joinS (ptW x))=some ⟨d,l++[x],[],[]⟩:=by
  unfold lineA
  rw [cut_join (by simp [ptW]) (ptW_tx h)]
  simp only [ptW]
  rw [if_neg (by decide),if_pos ⟨trivial,trivial,trivial⟩,partP_back h]
  rfl
theorem line_ev{x:EvR}(h:EWr x)(d:Int)(p:List PartR)(l:List EvR):lineA false ⟨d,p,l,[]⟩ (joinS (evW x))=some ⟨d,p,l++[x],[]⟩:=by
  unfold lineA
  rw [cut_join (by simp [evW]) (evW_tx h)]
  simp only [evW]
  rw [if_neg (by decide),if_neg (fun q=>absurd q.1 (by decide)),if_pos ⟨trivial,trivial⟩,evP_back h]
  rfl
theorem line_ld{x:Int×Int}(h:x.1.natAbs≤100000∧x.2.natAbs≤100000)(a:ActR):lineA false a (joinS (ldW x))=some ⟨a.dip,a.parts,a.evs,a.leads++[x]⟩:=by
  have h1:=numP_itoa (d:=6) (n:=x.1) (by decide) (by omega)
  have h2:=numP_itoa (d:=6) (n:=x.2) (by decide) (by omega)
  unfold lineA
  rw [cut_join (by simp [ldW]) (ldW_tx x)]
  simp only [ldW]
  rw [if_neg (by decide),if_neg (fun q=>absurd q.1 (by decide)),if_neg (fun q=>absurd q.1 (by decide)),if_neg (fun q=>absurd q.1 (by decide)),if_pos ⟨trivial,rfl⟩]
  simp only [numsP]
  rw [h1,h2]
  rfl
theorem rows_more{k:Nat}{a b:ActR}{r:Txt}{t:List Txt}(ht:t≠[])(h:lineA (decide (k=0)) a r=some b):rowsA k a (r::t)=rowsA (k+1) b t:=by
  rcases t with _|⟨q,rs⟩
  · exact absurd rfl ht
  · simp only [rowsA,h]
theorem dec_succ(k:Nat):decide (k+1=0)=false:=decide_eq_false (by omega)
theorem rows_lds:∀ {l:List (Int×Int)} (k:Nat) (a:ActR),(∀ x∈l,x.1.natAbs≤100000∧x.2.natAbs≤100000)→rowsA (k+1) a (l.map (fun x=>joinS (ldW x))++[[]])= .ok ⟨a.dip,a.parts,a.evs,a.leads++l⟩
  | [],k,a,_=>by
    rw [List.append_nil]
    rfl
  | x::r,k,a,h=>by
    rw [List.map_cons,List.cons_append,rows_more (by simp) (by rw [dec_succ];exact line_ld (h x List.mem_cons_self) a),rows_lds (k+1) _ fun y hy=>h y (List.mem_cons_of_mem _ hy)]
    simp
theorem rows_evs:∀ {l:List EvR} (k:Nat) (d:Int) (p:List PartR) (e:List EvR) (ls:List (Int×Int)),(∀ x∈l,EWr x)→(∀ x∈ls,x.1.natAbs≤100000∧x.2.natAbs≤100000)→rowsA (k+1) ⟨d,p,e,[]⟩ (l.map (fun x=>joinS (evW x))++(ls.map (fun x=>joinS (ldW x))++[[]]))= .ok ⟨d,p,e++l,ls⟩
  | [],k,d,p,e,ls,_,h=>by
    rw [List.map_nil,List.nil_append,rows_lds k _ h]
    simp
  | x::r,k,d,p,e,ls,h,h2=>by
    rw [List.map_cons,List.cons_append,rows_more (by simp) (by rw [dec_succ];exact line_ev (h x List.mem_cons_self) d p e),rows_evs (k+1) d p (e++[x]) ls (fun y hy=>h y (List.mem_cons_of_mem _ hy)) h2]
    simp
theorem rows_pts:∀ {l:List PartR} (k:Nat) (d:Int) (p:List PartR) (es:List EvR) (ls:List (Int×Int)),(∀ x∈l,PWr x)→(∀ x∈es,EWr x)→(∀ x∈ls,x.1.natAbs≤100000∧x.2.natAbs≤100000)→rowsA (k+1) ⟨d,p,[],[]⟩ (l.map (fun x=>joinS (ptW x))++(es.map (fun x=>joinS (evW x))++(ls.map (fun x=>joinS (ldW x))++[[]])))= .ok ⟨d,p++l,es,ls⟩
  | [],k,d,p,es,ls,_,h1,h2=>by
    rw [List.map_nil,List.nil_append,rows_evs k d p [] ls h1 h2]
    simp
  | x::r,k,d,p,es,ls,h,h1,h2=>by
    rw [List.map_cons,List.cons_append,rows_more (by simp) (by rw [dec_succ];exact line_pt (h x List.mem_cons_self) d p),rows_pts (k+1) d (p++[x]) es ls (fun y hy=>h y (List.mem_cons_of_mem _ hy)) h1 h2]
    simp
theorem cut_printA{a:ActR}(h:AcWr a):cutP 10 (printA a)=linesA a++[[]]:=cut_lines (linesA_no h)
theorem rowsA_back{a:ActR}(h:AcWr a):rowsA 0 az (cutP 10 (printA a))= .ok a:=by
  rw [cut_printA h]
  show rowsA 0 az (joinS (dpW a.dip)::(_++[[]]))=_
  rw [rows_more (k:=0) (by simp) (show lineA (decide (0=0)) az _=_ from line_dp h.d),List.append_assoc,List.append_assoc,rows_pts 0 a.dip [] a.evs a.leads h.p h.e h.l]
  rfl
theorem linesA_n(a:ActR):(linesA a).length=1+(a.parts.length+(a.evs.length+a.leads.length)):=by
  simp only [linesA,List.length_cons,List.length_append,List.length_map];omega
theorem flat_len:∀ {ls:List Txt},(∀ l∈ls,l.length≤999)→(ls.flatMap fun l=>l++[10]).length≤ls.length * 1000
  |[],_=>Nat.le_refl _
  | l::r,h=>by
    have h1:=h l List.mem_cons_self
    have h2:=flat_len (ls:=r) fun x hx=>h x (List.mem_cons_of_mem _ hx)
    have e:(l::r).length * 1000=r.length * 1000+1000:=Nat.succ_mul _ _
    rw [List.flatMap_cons,List.length_append,List.length_append,e]
    simp only [List.length_cons,List.length_nil]
    omega
theorem printA_len{a:ActR}(h:AcWr a):(printA a).length≤41000:=by
  have h1:=flat_len (linesA_len h)
  have h2:=linesA_n a
  have:=h.fp;have:=h.fe;have:=h.fl
  have:(linesA a).length * 1000≤41 * 1000:=Nat.mul_le_mul_right _ (by omega)
  exact Nat.le_trans h1 this
theorem printA_back{a:ActR}(h:AcWr a)(h0:acErr a=0):prsA (printA a)=(a,0,0):=by
  have hl:=printA_len h
  have hn:=linesA_n a
  unfold prsA
  rw [if_neg (by omega),rowsA_back h]
  dsimp only
  rw [if_neg (by rw [cut_printA h,List.length_append,hn];simp only [List.length_cons,List.length_nil];omega),if_pos h0]
theorem fidx_has{α:Type}{f:α→Bool}{l:List α}(d:α)(h:0≤fidx f l):∃ x∈l,f x=true:=by
  rcases fidx_cases f l d with ⟨h1,_⟩|⟨i,hi,_,h1,_⟩
  · omega
  · exact⟨_,gdm hi,h1⟩
theorem wr_act {a:ActR} (h0:acErr a=0):AcWr a:=by
  have hp:=acErr_pts h0
  obtain⟨he1,he2,he3⟩:=acErr_evs h0
  have hnm:∀ x∈a.parts,nameP x.name:=fun x hx=>by
    obtain⟨i,hi,rfl⟩:=gd_mem (d:=p0) hx
    exact(ptErr_zero (hp.pt i hi)).1
  have hl8:a.leads.length≤8∧∀ i,i<a.leads.length→ldErrAt a.leads i=0:=by
    unfold ldsErr at he3
    split at he3
    · simp at he3
    · exact⟨by omega,firstE_zero.1 he3⟩
  refine⟨by have:=hp.dip;omega,hp.few,he1,hl8.1,fun x hx=>?_,fun x hx=>?_,fun x hx=>?_⟩
  · obtain⟨i,hi,rfl⟩:=gd_mem (d:=p0) hx
    obtain⟨h1,_,h3,h4,h5,h6⟩:=ptErr_zero (hp.pt i hi)
    unfold knErr at h4
    split at h4
    · simp at h4
    rename_i h12
    have hz:=firstE_zero.1 h4
    refine⟨h1,?_,by omega,by omega,by omega,fun c hc=>?_⟩
    · by_cases hd:(a.parts.getD i p0).driver=[]
      · exact .inl hd
      · obtain⟨y,hy,e⟩:=fidx_has p0 (h3 hd)
        have e:y.name=(a.parts.getD i p0).driver:=by simpa [isP] using e
        exact .inr (e ▸ hnm y (List.mem_of_mem_take hy))
    · obtain⟨j,hj,rfl⟩:=gd_mem (d:=rk0) hc
      obtain⟨⟨g1,g2⟩,⟨g3,g4⟩,_⟩:=knErrAt_zero (hz j hj)
      exact⟨⟨g1,g2⟩,by omega,by omega⟩
  · obtain⟨i,hi,rfl⟩:=gd_mem (d:=e0) hx
    obtain⟨h1,_,h3,h4⟩:=evErrAt_zero (he2 i hi)
    obtain⟨y,hy,e⟩:=fidx_has p0 h3
    have e:y.name=(a.evs.getD i e0).part:=by simpa [isP] using e
    exact⟨h1,e ▸ hnm y hy,by omega⟩
  · obtain⟨i,hi,rfl⟩:=gd_mem (d:=l0) hx
    have:=hl8.2 i hi
    unfold ldErrAt ldErr at this
    split at this
    · simp at this
    · omega
end Go.Proofs.YtomkbpoicjabfaaGreatDoor
