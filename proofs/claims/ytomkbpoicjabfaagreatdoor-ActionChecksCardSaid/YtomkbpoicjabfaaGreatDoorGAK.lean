import Derived.Test.YtomkbpoicjabfaaGreatDoorC12
import Derived.Test.YtomkbpoicjabfaaGreatDoorGAG
set_option linter.unusedSimpArgs false
set_option linter.unusedVariables false
/- a curve of a curve, as the program makes it -/
namespace Go.Proofs.YtomkbpoicjabfaaGreatDoor
open Go.RowKit
def xP(a:Pt)(s x:Rat):Rat:=cut (quoQ (cut (x - a.2)) s+a.1)
def xG(g:Bool)(a:Pt)(s x:Rat):Bool:=((g || !smB (x - a.2)) || quoB (cut (x - a.2)) s) || !smB (quoQ (cut (x - a.2)) s+a.1)
/-- the corners of a stretch behind its first one -/
def midK(o c:List Pt)(i:Nat):List Pt:=betwP o (at' c i).2 (at' c (i+1)).2
def midL(o c:List Pt)(i:Nat)(l:List Pt):List Pt:=l.map fun k=>(xP (at' c i) (slP (at' c i) (at' c (i+1))) k.1,k.2)
def midG(c:List Pt)(i:Nat)(l:List Pt)(g:Bool):Bool:=l.foldl (fun g k=>xG g (at' c i) (slP (at' c i) (at' c (i+1))) k.1) g
def valK(o c:List Pt)(i:Nat):Pt:=((at' c i).1,vP o (at' c i).2)
def valG(o c:List Pt)(i:Nat)(g:Bool):Bool:=vG g o (at' c i).2
/-- all corners before the one with number i of the inner curve -/
def cmpL(o c:List Pt):Nat→List Pt
  |0=>[]
  |i+1=>cmpL o c i++valK o c i::(if i+1<c.length then midL o c i (midK o c i) else [])
def cmpG(o c:List Pt):Nat→Bool
  |0=>false
  |i+1=>if i+1<c.length then midG c i (midK o c i) (slG (valG o c i (cmpG o c i)) (at' c i) (at' c (i+1))) else valG o c i (cmpG o c i)
def slsG(l:List Pt):Nat→Bool→Bool
  |0,g=>g
  |i+1,g=>slG (slsG l i g) (at' l i) (at' l (i+1))
def compP(o c:List Pt):Option (List Pt):=
  if cmpG o c c.length=true∨60<(cmpL o c c.length).length∨slsG (cmpL o c c.length) ((cmpL o c c.length).length - 1) false=true then none else some (cmpL o c c.length)
theorem midL_len(o c:List Pt)(i:Nat)(l:List Pt):(midL o c i l).length=l.length:=by simp [midL]
theorem midK_len(o c:List Pt)(i:Nat):(midK o c i).length≤o.length:=by
  unfold midK betwP
  split
  · rw [List.length_reverse];exact betw_len _ _ _
  · exact betw_len _ _ _
theorem midK_mem{o c:List Pt}{i:Nat}{k:Pt}(h:k∈midK o c i):k∈o:=by
  unfold midK betwP at h
  split at h
  · exact(betw_mem (List.mem_reverse.1 h)).1
  · exact(betw_mem h).1
theorem at_mem{c:List Pt}{k:Pt}(h:k∈c):∃ i,i<c.length∧at' c i=k:=by
  obtain⟨i,hi,rfl⟩:=List.getElem_of_mem h
  refine⟨i,hi,?_⟩
  have:=at_get hi
  rw [List.getElem?_eq_getElem hi] at this
  exact(Option.some.inj this).symm
theorem mem_at{c:List Pt}{i:Nat}(h:i<c.length):at' c i∈c:=List.mem_of_getElem? (at_get h)
theorem valid_mem{c:List Pt}(h:Valid c){k:Pt}(hk:k∈c):sm k.1∧sm k.2:=by
  obtain⟨i,hi,rfl⟩:=at_mem hk
  exact h.sm i hi
theorem cmpL_mono(o c:List Pt){i:Nat}:∀ {j:Nat},i≤j→(cmpL o c i).length≤(cmpL o c j).length
  | 0, h => by have:i=0:=by omega
               subst this;exact Nat.le_refl _
  | j +1,h=>by
    rcases Nat.lt_or_ge i (j+1) with h1|h1
    · have:=cmpL_mono o c (i:=i) (j:=j) (by omega)
      simp only [cmpL,List.length_append];omega
    · have:i=j+1:=by omega
      subst this;exact Nat.le_refl _
theorem midG_snoc(c:List Pt)(i:Nat)(l:List Pt)(k:Pt)(g:Bool):midG c i (l++[k]) g=xG (midG c i l g) (at' c i) (slP (at' c i) (at' c (i+1))) k.1:=by
  unfold midG;rw [List.foldl_append];rfl
theorem midL_snoc(o c:List Pt)(i:Nat)(l:List Pt)(k:Pt):midL o c i (l++[k])=midL o c i l++[(xP (at' c i) (slP (at' c i) (at' c (i+1))) k.1,k.2)]:=by
  unfold midL;rw [List.map_append];rfl
theorem take_at{l:List Pt}{k:Nat}(h:k<l.length):l.take (k+1)=l.take k++[at' l k]:=by
  rw [List.take_succ_eq_append_getElem h]
  congr 1
  have:=at_get h
  rw [List.getElem?_eq_getElem h] at this
  rw [Option.some.inj this]
theorem sm_cmpL {o c:List Pt} (ho:Valid o) (hc:Valid c):∀ {i:Nat},i≤c.length→∀ p∈cmpL o c i,sm p.1∧sm p.2
  |0,_,p,hp=>by simp [cmpL] at hp
  | i + 1,h,p,hp=>by
    simp only [cmpL,List.mem_append,List.mem_cons] at hp
    rcases hp with hp|rfl|hp
    · exact sm_cmpL ho hc (by omega) p hp
    · exact⟨(hc.sm i (by omega)).1,sm_vP ho _⟩
    · split at hp
      · unfold midL at hp
        rw [List.mem_map] at hp
        obtain⟨k,hk,rfl⟩:=hp
        exact⟨sm_cut _,(valid_mem ho (midK_mem hk)).2⟩
      · simp at hp
end Go.Proofs.YtomkbpoicjabfaaGreatDoor
namespace Go.Proofs.YtomkbpoicjabfaaGreatDoor
theorem at_getE{c:List Pt}{i:Nat}(h:i<c.length):c[i]=at' c i:=by
  have:=at_get h
  rw [List.getElem?_eq_getElem h] at this
  exact Option.some.inj this
abbrev AscL(l:List Pt):Prop:=l.Pairwise fun p q=>p.1<q.1
theorem asc_pair{c:List Pt}(h:Valid c):AscL c:=by
  rw [AscL,List.pairwise_iff_getElem]
  intro i j hi hj hij
  rw [at_getE hi,at_getE hj]
  exact h.asc.lt hij hj
theorem betw_asc{o:List Pt}(h:Valid o)(lo hi:Rat):AscL (betw o lo hi):=(asc_pair h).filter _
theorem xG_or(g:Bool)(a:Pt)(s x:Rat):xG g a s x=(g || xG false a s x):=by
  unfold xG;cases g<;>simp
theorem xG_ok{a:Pt}{s x:Rat}(h:xG false a s x=false):s≠0∧xP a s x=(x - a.2) / s+a.1:=by
  unfold xG quoB at h
  simp only [Bool.or_eq_false_iff,Bool.not_eq_false',Bool.false_or] at h
  obtain⟨⟨h1,h2⟩,h3⟩:=h
  have s1:=smB_iff.1 h1
  rw [cut_sm s1] at h2 h3
  have hs:s≠0:=by
    intro e
    rw [if_pos e] at h2
    cases h2
  rw [if_neg hs] at h2
  have s2:sm ((x - a.2) / s):=smB_iff.1 (by simpa using h2)
  have e2:quoQ (x - a.2) s=(x - a.2) / s:=by unfold quoQ;rw [if_neg hs,cut_sm s2]
  rw [e2] at h3
  have s3:=smB_iff.1 h3
  refine⟨hs,?_⟩
  unfold xP
  rw [cut_sm s1,e2,cut_sm s3]
theorem midG_ok{c:List Pt}{i:Nat}:∀ {l:List Pt} {g:Bool},midG c i l g=false→g=false∧∀ k∈l,xG false (at' c i) (slP (at' c i) (at' c (i+1))) k.1=false
  |[],g,h=>⟨h,fun k hk=>by cases hk⟩
  | k::l,g,h=>by
    obtain⟨h1,h2⟩:=midG_ok (l:=l) (g:=xG g (at' c i) (slP (at' c i) (at' c (i+1))) k.1) h
    rw [xG_or,Bool.or_eq_false_iff] at h1
    refine⟨h1.1,fun k' hk=>?_⟩
    rcases List.mem_cons.1 hk with rfl|hk
    · exact h1.2
    · exact h2 k' hk
theorem slG_or{g:Bool}{a b:Pt}(h:slG g a b=false):g=false∧slG false a b=false:=by
  cases g with
  |false=>exact⟨rfl,h⟩
  |true=>rw [slG_true] at h;cases h
theorem vG_true(c:List Pt)(x:Rat):vG true c x=true:=by
  unfold vG
  simp only
  split
  · rfl
  · split
    · rfl
    · rw [Bool.true_or,slG_true];simp
theorem vG_or{g:Bool}{c:List Pt}{x:Rat}(h:vG g c x=false):g=false:=by
  cases g with
  |false=>rfl
  |true=>rw [vG_true] at h;cases h
theorem sub_pos{a b:Rat}(h:a<b):0<b - a:=by grind
/-- the stretch of a curve between two corners, its slope -/
theorem slP_mul{c:List Pt}(h:Valid c){i:Nat}(hi:i+1<c.length):slP (at' c i) (at' c (i+1)) * ((at' c (i+1)).1 - (at' c i).1)=(at' c (i+1)).2 - (at' c i).2:=by
  rw [(slP_ok (h.sl i hi) (h.up i hi) false).1]
  unfold sl
  exact Rat.div_mul_cancel (sub_ne (h.up i hi))
theorem pos_of_mul{s d:Rat}(hd:0<d)(h:0<s * d):0<s:=by
  have:=Rat.mul_lt_mul_right (a:=0) (b:=s) hd
  rw [Rat.zero_mul] at this
  exact this.1 h
/-- where a number between two corners' Y lies: between their X, and in its order -/
theorem stretch_in{a b:Pt}{s k x:Rat}(hab:a.1<b.1)(hs:s * (b.1 - a.1)=b.2 - a.2)(hx:x=(k - a.2) / s+a.1)(hs0:s≠0)(hk:a.2<k∧k<b.2∨b.2<k∧k<a.2):a.1<x∧x<b.1:=by
  have hd:=sub_pos hab
  have ht:(x - a.1) * s=k - a.2:=by rw [hx];have:=Rat.div_mul_cancel (a:=k - a.2) hs0;grind
  rcases hk with hk|hk
  · have h1:0<s:=pos_of_mul hd (by rw [hs];grind)
    have e1:=Rat.mul_lt_mul_right (a:=0) (b:=x - a.1) h1
    have e2:=Rat.mul_lt_mul_right (a:=x - a.1) (b:=b.1 - a.1) h1
    grind
  · have h1:0< -s:=pos_of_mul hd (by grind)
    have e1:=Rat.mul_lt_mul_right (a:=0) (b:=x - a.1) h1
    have e2:=Rat.mul_lt_mul_right (a:=x - a.1) (b:=b.1 - a.1) h1
    grind
theorem stretch_lt{a b:Pt}{s k l x y:Rat}(hab:a.1<b.1)(hs:s * (b.1 - a.1)=b.2 - a.2)(hx:x=(k - a.2) / s+a.1)(hy:y=(l - a.2) / s+a.1)(hs0:s≠0)(hk:a.2<b.2∧k<l∨b.2<a.2∧l<k):x<y:=by
  have hd:=sub_pos hab
  have ht:(x - a.1) * s=k - a.2:=by rw [hx];have:=Rat.div_mul_cancel (a:=k - a.2) hs0;grind
  have hu:(y - a.1) * s=l - a.2:=by rw [hy];have:=Rat.div_mul_cancel (a:=l - a.2) hs0;grind
  rcases hk with hk|hk
  · have h1:0<s:=pos_of_mul hd (by rw [hs];grind)
    have e2:=Rat.mul_lt_mul_right (a:=x - a.1) (b:=y - a.1) h1
    grind
  · have h1:0< -s:=pos_of_mul hd (by grind)
    have e2:=Rat.mul_lt_mul_right (a:=x - a.1) (b:=y - a.1) h1
    grind
theorem mid_asc {o c:List Pt} (ho:Valid o) (hc:Valid c) {i:Nat} (hi:i+1<c.length) {g:Bool} (hg:midG c i (midK o c i) g=false):
    AscL (midL o c i (midK o c i))∧∀ p∈midL o c i (midK o c i),(at' c i).1<p.1∧p.1<(at' c (i+1)).1:=by
  obtain⟨_,hk⟩:=midG_ok hg
  have hx:=fun k h=>xG_ok (hk k h)
  have hm:=slP_mul hc hi
  have hu:=hc.up i hi
  have hbt:∀ k∈midK o c i,(at' c i).2<k.1∧k.1<(at' c (i+1)).2∨(at' c (i+1)).2<k.1∧k.1<(at' c i).2:=by
    intro k h
    unfold midK betwP at h
    split at h
    · exact .inr (betw_mem (List.mem_reverse.1 h)).2
    · exact .inl (betw_mem h).2
  refine⟨?_,fun p hp=>?_⟩
  · unfold midL
    rw [AscL,List.pairwise_map]
    have hpw:(midK o c i).Pairwise fun k l=>(at' c i).2<(at' c (i+1)).2∧k.1<l.1∨(at' c (i+1)).2<(at' c i).2∧l.1<k.1:=by
      unfold midK betwP
      split
      · rename_i h
        rw [List.pairwise_reverse]
        exact(betw_asc ho _ _).imp fun h2=> .inr ⟨h,h2⟩
      · rename_i h
        refine(betw_asc ho (at' c i).2 (at' c (i+1)).2).imp_of_mem fun {k l} hk hl h2=> .inl ⟨?_,h2⟩
        have:=(betw_mem hk).2
        grind
    refine hpw.imp_of_mem fun {k l} h1 h2 h3=>?_
    exact stretch_lt hu hm (hx k h1).2 (hx l h2).2 (hx k h1).1 h3
  · unfold midL at hp
    obtain⟨k,h1,rfl⟩:=List.mem_map.1 hp
    exact stretch_in hu hm (hx k h1).2 (hx k h1).1 (hbt k h1)
theorem cmpG_step{o c:List Pt}{i:Nat}(h:cmpG o c (i+1)=false):cmpG o c i=false∧valG o c i (cmpG o c i)=false∧(i+1<c.length→midG c i (midK o c i) (slG (valG o c i (cmpG o c i)) (at' c i) (at' c (i+1)))=false):=by
  simp only [cmpG] at h
  by_cases hi:i+1<c.length
  · rw [if_pos hi] at h
    have h1:=(midG_ok h).1
    have h2:=(slG_or h1).1
    exact⟨vG_or h2,h2,fun _=>h⟩
  · rw [if_neg hi] at h
    exact⟨vG_or h,h,fun h=>(hi h).elim⟩
theorem cmpL_asc {o c:List Pt} (ho:Valid o) (hc:Valid c):∀ {i:Nat},i≤c.length→cmpG o c i=false→AscL (cmpL o c i)∧∀ p∈cmpL o c i,i<c.length→p.1<(at' c i).1
  |0,_,_=>⟨by simp [cmpL,AscL],fun p hp=>by simp [cmpL] at hp⟩
  | i + 1,hi,hg=>by
    obtain⟨g1,g2,g3⟩:=cmpG_step hg
    obtain⟨a1,a2⟩:=cmpL_asc ho hc (i:=i) (by omega) g1
    simp only [cmpL]
    by_cases h1:i+1<c.length
    · rw [if_pos h1]
      obtain⟨m1,m2⟩:=mid_asc ho hc h1 (g3 h1)
      have hu:=hc.up i h1
      refine⟨?_,fun p hp _=>?_⟩
      · rw [AscL,List.pairwise_append,List.pairwise_cons]
        refine⟨a1,⟨fun p hp=>(m2 p hp).1,m1⟩,fun p hp q hq=>?_⟩
        have h2:=a2 p hp (by omega)
        rcases List.mem_cons.1 hq with rfl|hq
        · exact h2
        · have:=(m2 q hq).1
          grind
      · rcases List.mem_append.1 hp with hp|hp
        · have h2:=a2 p hp (by omega)
          grind
        · rcases List.mem_cons.1 hp with rfl|hp
          · exact hu
          · exact(m2 p hp).2
    · rw [if_neg h1]
      refine⟨?_,fun p hp h=>(h1 h).elim⟩
      rw [AscL,List.pairwise_append,List.pairwise_cons]
      refine⟨a1,⟨fun p hp=>(by cases hp),.nil⟩,fun p hp q hq=>?_⟩
      have h2:=a2 p hp (by omega)
      rcases List.mem_cons.1 hq with rfl|hq
      · exact h2
      · cases hq
theorem slsG_ok{l:List Pt}:∀ {n:Nat} {g:Bool},slsG l n g=false→∀ i,i<n→slG false (at' l i) (at' l (i+1))=false
  |0,g,_,i,hi=>by omega
  | n +1,g,h,i,hi=>by
    obtain⟨h1,h2⟩:=slG_or h
    rcases Nat.lt_or_ge i n with q|q
    · exact slsG_ok h1 i q
    · have:i=n:=by omega
      subst this;exact h2
theorem compP_some{o c l:List Pt}(h:compP o c=some l):cmpG o c c.length=false∧l=cmpL o c c.length∧l.length≤60∧slsG l (l.length - 1) false=false:=by
  unfold compP at h
  split at h
  · cases h
  · rename_i hn
    cases h
    rw [not_or,not_or] at hn
    refine⟨by simpa using hn.1,rfl,by omega,by simpa using hn.2.2⟩
theorem compP_valid{o c l:List Pt}(ho:Valid o)(hc:Valid c)(h:compP o c=some l):Valid l:=by
  obtain⟨h1,h2,h3,h4⟩:=compP_some h
  obtain⟨a1,_⟩:=cmpL_asc ho hc (Nat.le_refl _) h1
  rw [←h2] at a1
  have hup:∀ i,i+1<l.length→(at' l i).1<(at' l (i+1)).1:=by
    intro i hi
    have:=(List.pairwise_iff_getElem.1 a1) i (i+1) (by omega) hi (by omega)
    rw [at_getE,at_getE] at this
    exact this
  refine⟨?_,h3,?_,hup,?_⟩
  · rw [h2]
    have hp:=hc.ne
    obtain⟨n,hn⟩:∃ n,c.length=n+1:=⟨c.length - 1,by omega⟩
    rw [hn]
    simp [cmpL]
    omega
  · intro i hi
    exact sm_cmpL ho hc (Nat.le_refl _) _ (by rw [←h2];exact mem_at hi)
  · intro i hi
    exact(slG_iff (hup i hi)).1 (slsG_ok h4 i (by omega))
def alOk(a b:Pt)(y:Rat):Prop:=sm (y - a.2)∧sm ((y - a.2) / sl a b)∧sm (a.1+(y - a.2) / sl a b)
instance(a b:Pt)(y:Rat):Decidable (alOk a b y):=inferInstanceAs (Decidable (_∧_∧_))
def alE(a b:Pt)(y:Rat):Rat:=a.1+(y - a.2) / sl a b
theorem xG_al{a b:Pt}{x:Rat}(h0:sl a b≠0)(g:Bool):(alOk a b x→xG g a (sl a b) x=g∧xP a (sl a b) x=alE a b x)∧(¬ alOk a b x→xG g a (sl a b) x=true):=by
  unfold xG xP alOk alE
  refine⟨fun⟨h1,h2,h3⟩=>?_,fun h=>?_⟩
  · rw [cut_sm h1,smB_of h1]
    unfold quoB quoQ
    rw [if_neg h0,if_neg h0,cut_sm h2,smB_of h2,Rat.add_comm _ a.1,smB_of h3,cut_sm h3]
    simp
  · by_cases h1:sm (x - a.2)
    · rw [cut_sm h1]
      unfold quoB quoQ
      rw [if_neg h0,if_neg h0]
      by_cases h2:sm ((x - a.2) / sl a b)
      · rw [cut_sm h2,Rat.add_comm _ a.1,smB_no fun h3=>h ⟨h1,h2,h3⟩];simp
      · rw [smB_no h2];simp
    · rw [smB_no h1];simp
theorem sl_ne{a b:Pt}(hab:a.1<b.1)(h:a.2≠b.2):sl a b≠0:=by
  have hd:=sub_ne hab
  intro h0
  have h1:sl a b * (b.1 - a.1)=b.2 - a.2:=by unfold sl;rw [Rat.div_mul_cancel hd]
  rw [h0,Rat.zero_mul] at h1
  exact h (by grind)
theorem tdiv_bd2(a b:Int):(a.tdiv b).natAbs≤a.natAbs:=by
  rw [Int.natAbs_tdiv];exact Nat.div_le_self _ _
theorem sm_divInt{p q:Int}(hq:1≤q∧q≤1000000000)(hp: -1000000000≤p∧p≤1000000000):sm (Rat.divInt p q):=by
  have h1:=tdiv_bd2 p (if q<0 then -(Int.gcd p q:Int) else Int.gcd p q)
  have h2:=tdiv_bd2 q (if q<0 then -(Int.gcd p q:Int) else Int.gcd p q)
  rw [←fit_num (by omega)] at h1
  rw [←fit_den (by omega)] at h2
  unfold sm
  omega
theorem sm_int{n:Int}(h: -1000000000≤n∧n≤1000000000):sm (n:Rat):=⟨h.1,h.2,by rw [(whole_num n).2];decide⟩
theorem toQ_one(n:Int):toQ (n,1)=(n:Rat):=by
  have h:=fit_low (n:=n) (d:=1) (by omega) (by simp)
  exact rat_ext h.1 (by rw [show(toQ (n,1)).den=(Rat.divInt n 1).den from rfl,h.2];rfl)
theorem knErrAt_zero{l:List Rk}{i:Nat}(h:knErrAt l i=0):((l.getD i rk0).1.2=1∧(l.getD i rk0).2.2=1)∧((-10000≤(l.getD i rk0).1.1∧(l.getD i rk0).1.1≤10000)∧(-10000≤(l.getD i rk0).2.1∧(l.getD i rk0).2.1≤10000))∧(0<i→(l.getD (i - 1) rk0).1.1<(l.getD i rk0).1.1):=by
  unfold knErrAt at h
  split at h
  · simp at h
  · split at h
    · simp at h
    · split at h
      · simp at h
      · omega
theorem frErr_whole{n:Int}(h: -10000≤n∧n≤10000):frErr n 1=0:=by
  unfold frErr
  rw [if_neg (by simp),if_neg (by omega)]
theorem slOk_whole{a b c d:Int}(ha: -10000≤a∧a≤10000)(hb: -10000≤b∧b≤10000)(hc: -10000≤c∧c≤10000)(hd: -10000≤d∧d≤10000)(h:a<c):slOk ((a:Rat),(b:Rat)) ((c:Rat),(d:Rat)):=by
  have e1:(d:Rat) - (b:Rat)=((d - b:Int):Rat):=(Rat.intCast_sub d b).symm
  have e2:(c:Rat) - (a:Rat)=((c - a:Int):Rat):=(Rat.intCast_sub c a).symm
  refine⟨?_,?_,?_⟩
  · show sm ((d:Rat) - (b:Rat))
    rw [e1];exact sm_int (by omega)
  · show sm ((c:Rat) - (a:Rat))
    rw [e2];exact sm_int (by omega)
  · show sm (((d:Rat) - (b:Rat)) / ((c:Rat) - (a:Rat)))
    rw [e1,e2,←div_fit]
    have h1:=(whole_num (d - b)).1
    have h2:=(whole_num (c - a)).1
    have h3:=(whole_num (d - b)).2
    have h4:=(whole_num (c - a)).2
    rw [h1,h2,h3,h4]
    exact sm_divInt (by omega) (by omega)
/-- the corners of a right part are a right curve -/
theorem knee_valid{l:List Rk}(h:knErr l=0):Valid (l.map toP)∧(l.map toP).map raw=l:=by
  refine cuErr_ok ?_
  unfold knErr at h
  split at h
  · simp at h
  · rename_i hn
    have hz:=firstE_zero.1 h
    unfold cuErr
    rw [if_neg (by omega),firstE_zero]
    intro i hi
    obtain⟨⟨h1,h2⟩,⟨h3,h4⟩,h5⟩:=knErrAt_zero (hz i hi)
    rw [cuErrAt_zero,h1,h2]
    refine⟨frErr_whole h3,frErr_whole h4,?_⟩
    rcases Nat.eq_zero_or_pos i with h0|h0
    · exact .inl h0
    · obtain⟨⟨k1,k2⟩,⟨k3,k4⟩,_⟩:=knErrAt_zero (hz (i - 1) (by omega))
      have h6:=h5 h0
      refine .inr ?_
      generalize l.getD i rk0=x at *
      generalize l.getD (i - 1) rk0=y at *
      obtain⟨⟨a,a1⟩,⟨b,b1⟩⟩:=x
      obtain⟨⟨c,c1⟩,⟨d,d1⟩⟩:=y
      dsimp only at *
      subst h1 h2 k1 k2
      unfold toP
      dsimp only
      rw [toQ_one,toQ_one,toQ_one,toQ_one]
      exact⟨Rat.intCast_lt_intCast.2 h6,slOk_whole k3 k4 h3 h4 h6⟩
/-- the number of a part's driver -/
def drv(a:ActR)(p:PartR):Nat:=(fidx (isP p.driver) a.parts).toNat
def dipC(a:ActR):List Pt:=[(0,0),((a.dip:Rat),(a.dip:Rat))]
/-- the curve of the part i (fuel n) -/
def curP(a:ActR):Nat→Nat→Option (List Pt)
  |0,_=>none
  |n+1,i=>(if (a.parts.getD i p0).driver=[] then some (dipC a) else curP a n (drv a (a.parts.getD i p0))).bind fun d=>compP ((a.parts.getD i p0).cor.map toP) d
/-- what the parts of a right action are -/
structure PtsOk(a:ActR):Prop where
  dip:1≤a.dip∧a.dip≤2000
  few:a.parts.length≤12
  pt:∀ i,i<a.parts.length→ptErr (a.parts.take i) (a.parts.getD i p0)=0
theorem acErr_pts {a:ActR} (h:acErr a=0):PtsOk a:=by
  unfold acErr at h
  split at h
  · simp at h
  · split at h
    · simp at h
    · split at h
      · contradiction
      · rename_i h1 h2 h3
        exact⟨by omega,by omega,fun i hi=>firstE_zero.1 (Decidable.not_not.1 h3) i hi⟩
theorem ptErr_zero {b:List PartR} {p:PartR} (h:ptErr b p=0):nameP p.name∧fidx (isP p.name) b<0∧(p.driver≠[]→0≤fidx (isP p.driver) b)∧knErr p.cor=0∧(0≤p.wt∧p.wt≤100000)∧0≤p.fr∧p.fr≤10000:=by
  unfold ptErr at h
  split at h
  · simp at h
  · split at h
    · simp at h
    · split at h
      · simp at h
      · split at h
        · contradiction
        · split at h
          · simp at h
          · rename_i h1 h2 h3 h4 h5
            exact⟨Decidable.not_not.1 h1,by omega,fun hd=>Int.not_lt.1 fun hl=>h3 ⟨hd,hl⟩,by omega,by omega,by omega⟩
theorem take_getD{α:Type}{l:List α}{d:α}{i j:Nat}(h:j<i):(l.take i).getD j d=l.getD j d:=by
  rw [List.getD_eq_getElem?_getD,List.getD_eq_getElem?_getD,List.getElem?_take_of_lt h]
/-- a driver comes before -/
theorem drv_lt{a:ActR}(h:PtsOk a){i:Nat}(hi:i<a.parts.length)(hd:(a.parts.getD i p0).driver≠[]):drv a (a.parts.getD i p0)<i∧fidx (isP (a.parts.getD i p0).driver) a.parts=(drv a (a.parts.getD i p0):Int):=by
  obtain⟨_,_,h1,_⟩:=ptErr_zero (h.pt i hi)
  have h2:=h1 hd
  rcases fidx_cases (isP (a.parts.getD i p0).driver) (a.parts.take i) p0 with ⟨e,_⟩|⟨k,hk,e,h3,h4⟩
  · omega
  · rw [List.length_take] at hk
    have hk1:k<i:=by omega
    rw [take_getD hk1] at h3
    have:fidx (isP (a.parts.getD i p0).driver) a.parts=k:=fidx_at (d:=p0) (by omega) (fun j hj=>by have h5:=h4 j hj;rw [take_getD (by omega)] at h5;exact h5) h3
    unfold drv
    rw [this]
    exact⟨by omega,by omega⟩
theorem dipC_valid{a:ActR}(h:PtsOk a):Valid (dipC a):=by
  have hk:knErr [((0,1),(0,1)),((a.dip,1),(a.dip,1))]=0:=by
    unfold knErr
    rw [if_neg (by simp),firstE_zero]
    have hd:=h.dip
    intro i hi
    simp only [List.length_cons,List.length_nil] at hi
    have:i=0∨i=1:=by omega
    rcases this with rfl|rfl
    · rfl
    · unfold knErrAt
      simp only [List.getD_cons_succ,List.getD_cons_zero]
      rw [if_neg (by simp),if_neg (by omega),if_neg (by simp only [Nat.sub_self,List.getD_cons_zero];omega)]
  have:=(knee_valid hk).1
  simp only [List.map_cons,List.map_nil,toP,toQ_one] at this
  exact this
theorem curP_valid{a:ActR}(h:PtsOk a):∀ {n i:Nat} {l:List Pt},i<a.parts.length→curP a n i=some l→Valid l
  |0,i,l,_,hc=>by simp [curP] at hc
  | n +1,i,l,hi,hc=>by
    simp only [curP,Option.bind_eq_some_iff] at hc
    obtain⟨d,h1,h2⟩:=hc
    obtain⟨_,_,_,hk,_⟩:=ptErr_zero (h.pt i hi)
    refine compP_valid (knee_valid hk).1 ?_ h2
    by_cases hd:(a.parts.getD i p0).driver=[]
    · rw [if_pos hd] at h1
      cases h1
      exact dipC_valid h
    · rw [if_neg hd] at h1
      exact curP_valid h (by have:=(drv_lt h hi hd).1;omega) h1
end Go.Proofs.YtomkbpoicjabfaaGreatDoor
