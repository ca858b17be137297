import Derived.Test.YtomkbpoicjabfaaGreatDoorD4
import Derived.Test.YtomkbpoicjabfaaGreatDoorGAH
set_option linter.unusedSimpArgs false
set_option linter.unusedVariables false
/- the events that happen, in their order -/
namespace Go.Proofs.YtomkbpoicjabfaaGreatDoor
open Go.RowKit
abbrev Hp:=Nat×Rat
def hp0:Hp:=(0,0)
def hpV(h:Hp):List V:=[.int .i64 (h.1:Int),.int .i64 h.2.num,.int .i64 (h.2.den:Int)]
def hpsV(l:List Hp):List (List V):=l.map hpV
theorem hpsV_length{l:List Hp}:(hpsV l).length=l.length:=by simp [hpsV]
theorem hpsV_get{l:List Hp}{i:Nat}(h:i<l.length):(hpsV l)[i]?=some (hpV (l.getD i hp0)):=by
  unfold hpsV;rw [List.getElem?_map,list_get h];rfl
/-- the events before the one with number n that happen, or nothing if one is too large -/
def hapP (a:ActR):Nat→Option (List Hp)
  |0=>some []
  | i +1=>match hapP a i with
    |none=>none
    | some l=>match evtP a i with
      |(some x,_)=>some (l++[(i,x)])
      |(none,e)=>if e=12 then some l else none
/-- an event put into ordered ones -/
def insHN(l:List Hp)(x:Rat):Nat:=(l.takeWhile fun p=>decide (p.2≤x)).length
def insH(l:List Hp)(d:Hp):List Hp:=l.take (insHN l d.2)++d::l.drop (insHN l d.2)
def srtH(l:List Hp):List Hp:=l.foldl insH []
theorem srtH_snoc(l:List Hp)(d:Hp):srtH (l++[d])=insH (srtH l) d:=by unfold srtH;rw [List.foldl_append];rfl
theorem insHN_le(l:List Hp)(x:Rat):insHN l x≤l.length:=(List.takeWhile_prefix _).length_le
theorem insH_len(l:List Hp)(d:Hp):(insH l d).length=l.length+1:=by
  have:=insHN_le l d.2
  simp [insH];omega
abbrev SrtL(l:List Hp):Prop:=l.Pairwise fun p q=>p.2≤q.2
theorem take_while:∀ {l:List Hp} {x:Rat},∀ p∈l.take (insHN l x),p.2≤x
  |[],x,p,h=>by simp at h
  | q ::l,x,p,h=>by
    unfold insHN at h
    rw [List.takeWhile_cons] at h
    split at h
    · rename_i hq
      rw [List.length_cons,List.take_succ_cons,List.mem_cons] at h
      rcases h with h|h
      · subst h;simpa using hq
      · exact take_while p h
    · simp at h
theorem srt_getD{l:List Hp}(h:SrtL l){i j:Nat}(hij:i≤j)(hj:j<l.length):(l.getD i hp0).2≤(l.getD j hp0).2:=by
  have hg:∀ k (hk:k<l.length),l.getD k hp0=l[k]:=fun k hk=>by rw [List.getD_eq_getElem?_getD,List.getElem?_eq_getElem hk];rfl
  rcases Nat.lt_or_ge i j with h1|h1
  · rw [hg i (by omega),hg j hj]
    exact List.pairwise_iff_getElem.1 h i j (by omega) hj h1
  · have:i=j:=by omega
    subst this;exact Rat.le_refl
theorem insHN_at{l:List Hp}{x:Rat}(h:insHN l x<l.length):x<(l.getD (insHN l x) hp0).2:=by
  induction l with
  |nil=>simp at h
  | cons p l ih=>
    unfold insHN at h ⊢
    rw [List.takeWhile_cons] at h ⊢
    split at h
    · rename_i hp
      rw [if_pos hp]
      simp only [List.length_cons] at h ⊢
      exact ih (by simpa [insHN] using h)
    · rename_i hp
      rw [if_neg hp]
      exact Rat.not_le.1 (by simpa using hp)
theorem insHN_uniq{l:List Hp}(hs:SrtL l){x:Rat}{n:Nat}(hn:n≤l.length)(h1:0<n→(l.getD (n - 1) hp0).2≤x)(h2:n<l.length→x<(l.getD n hp0).2):n=insHN l x:=by
  have hc:=insHN_le l x
  rcases Nat.lt_trichotomy n (insHN l x) with h3|h3|h3
  · exfalso
    have h4:=h2 (by omega)
    have h5:l.getD n hp0∈l.take (insHN l x):=by
      have hg:l.getD n hp0=l[n]'(by omega):=by rw [List.getD_eq_getElem?_getD,List.getElem?_eq_getElem (by omega)];rfl
      rw [hg]
      exact List.mem_take_iff_getElem.2 ⟨n,by omega,rfl⟩
    have:=take_while _ h5
    grind
  · exact h3
  · exfalso
    have h4:=h1 (by omega)
    have h5:=insHN_at (l:=l) (x:=x) (by omega)
    have h6:=srt_getD hs (i:=insHN l x) (j:=n - 1) (by omega) (by omega)
    grind
theorem drop_while{l:List Hp}(hs:SrtL l){x:Rat}:∀ p∈l.drop (insHN l x),x<p.2:=by
  intro p hp
  obtain⟨i,hi,rfl⟩:=List.getElem_of_mem hp
  rw [List.getElem_drop]
  rw [List.length_drop] at hi
  have h1:=insHN_at (l:=l) (x:=x) (by omega)
  have h2:=srt_getD hs (i:=insHN l x) (j:=insHN l x+i) (by omega) (by omega)
  have hg:l.getD (insHN l x+i) hp0=l[insHN l x+i]'(by omega):=by rw [List.getD_eq_getElem?_getD,List.getElem?_eq_getElem (by omega)];rfl
  rw [hg] at h2
  grind
theorem insH_srt{l:List Hp}(hs:SrtL l)(d:Hp):SrtL (insH l d):=by
  have hs':=hs
  rw [←List.take_append_drop (insHN l d.2) l,SrtL,List.pairwise_append] at hs'
  obtain⟨a1,a2,a3⟩:=hs'
  unfold insH
  rw [SrtL,List.pairwise_append,List.pairwise_cons]
  refine⟨a1,⟨fun p hp=>Rat.le_of_lt (drop_while hs p hp),a2⟩,fun p hp q hq=>?_⟩
  rcases List.mem_cons.1 hq with hq|hq
  · subst hq;exact take_while p hp
  · exact a3 p hp q hq
theorem insH_mem{l:List Hp}{d p:Hp}:p∈insH l d↔p=d∨p∈l:=by
  unfold insH
  rw [List.mem_append,List.mem_cons]
  constructor
  · rintro(h|h|h)
    · exact .inr (List.mem_of_mem_take h)
    · exact .inl h
    · exact .inr (List.mem_of_mem_drop h)
  · rintro(h|h)
    · exact .inr (.inl h)
    · rw [←List.take_append_drop (insHN l d.2) l,List.mem_append] at h
      rcases h with h|h
      · exact .inl h
      · exact .inr (.inr h)
theorem foldl_srt{l r:List Hp}(h:SrtL r):SrtL (l.foldl insH r):=by
  induction l generalizing r with
  |nil=>exact h
  |cons d l ih=>exact ih (insH_srt h d)
theorem srtH_srt(l:List Hp):SrtL (srtH l):=foldl_srt List.Pairwise.nil
theorem foldl_mem{l r:List Hp}{p:Hp}:p∈l.foldl insH r↔p∈l∨p∈r:=by
  induction l generalizing r with
  |nil=>simp
  | cons d l ih=>
    rw [List.foldl_cons,ih,insH_mem,List.mem_cons]
    constructor
    · rintro(h|h|h)
      · exact .inl (.inr h)
      · exact .inl (.inl h)
      · exact .inr h
    · rintro((h|h)|h)
      · exact .inr (.inl h)
      · exact .inl h
      · exact .inr (.inr h)
theorem srtH_mem{l:List Hp}{p:Hp}:p∈srtH l↔p∈l:=by unfold srtH;rw [foldl_mem];simp
theorem foldl_len{l r:List Hp}:(l.foldl insH r).length=l.length+r.length:=by
  induction l generalizing r with
  |nil=>simp
  |cons d l ih=>rw [List.foldl_cons,ih,insH_len,List.length_cons];omega
theorem srtH_len(l:List Hp):(srtH l).length=l.length:=by unfold srtH;rw [foldl_len];simp
/-- the numbers ascend -/
abbrev NumL(l:List Hp):Prop:=l.Pairwise fun p q=>p.1<q.1
theorem hapP_num {a:ActR}:∀ {n:Nat} {l:List Hp},hapP a n=some l→NumL l∧∀ p∈l,p.1<n∧evtP a p.1=(some p.2,(evtP a p.1).2)
  |0,l,h=>by simp [hapP] at h;subst h;simp
  | n + 1,l,h=>by
    unfold hapP at h
    cases hl:hapP a n with
    |none=>rw [hl] at h;cases h
    | some l0=>
      rw [hl] at h
      obtain⟨h1,h2⟩:=hapP_num hl
      have up:∀ p∈l0,p.1<n+1∧evtP a p.1=(some p.2,(evtP a p.1).2):=fun p hp=>⟨by have:=(h2 p hp).1;omega,(h2 p hp).2⟩
      simp only at h
      split at h
      · rename_i x e he
        cases h
        refine⟨?_,fun p hp=>?_⟩
        · rw [NumL,List.pairwise_append]
          refine⟨h1,by simp,fun p hp q hq=>?_⟩
          rw [List.mem_singleton] at hq;subst hq
          exact(h2 p hp).1
        · rcases List.mem_append.1 hp with hp|hp
          · exact up p hp
          · rw [List.mem_singleton] at hp;subst hp
            exact⟨Nat.lt_succ_self _,by rw [he]⟩
      · split at h
        · cases h;exact⟨h1,up⟩
        · cases h
theorem hapP_len {a:ActR}:∀ {n:Nat} {l:List Hp},hapP a n=some l→l.length≤n
  |0,l,h=>by simp [hapP] at h;subst h;simp
  | n + 1,l,h=>by
    unfold hapP at h
    cases hl:hapP a n with
    |none=>rw [hl] at h;cases h
    | some l0=>
      rw [hl] at h
      have:=hapP_len hl
      simp only at h
      split at h
      · cases h;simp;omega
      · split at h
        · cases h;omega
        · cases h
/-- all events that happen, in their order -/
def hapS(a:ActR):Option (List Hp):=(hapP a a.evs.length).map srtH
def nmH(a:ActR)(h:Hp):List UInt8:=(a.evs.getD h.1 e0).name
theorem hapP_up{a:ActR}{n:Nat}(h:hapP a n=none):∀ {m:Nat},n≤m→hapP a m=none
  | 0,hm=>by
    have:n=0:=by omega
    subst this;exact h
  | m +1,hm=>by
    rcases Nat.lt_or_ge n (m+1) with q|q
    · unfold hapP
      rw [hapP_up h (m:=m) (by omega)]
    · have:n=m+1:=by omega
      subst this;exact h
/-- an event on its way through ordered ones -/
def mvH(s:List Hp)(d:Hp)(r:List Hp)(j:Nat):List Hp:=s.take j++d::(s.drop j++r)
theorem mvH_end(s r:List Hp)(d:Hp):mvH s d r s.length=s++d::r:=by simp [mvH]
theorem mvH_ins(s r:List Hp)(d:Hp):mvH s d r (insHN s d.2)=insH s d++r:=by simp [mvH,insH]
theorem mvH_at{s r:List Hp}{d:Hp}{j:Nat}(h:j≤s.length):(mvH s d r j)[j]?=some d:=by
  unfold mvH
  rw [List.getElem?_append_right (by rw [List.length_take];omega),List.length_take,Nat.min_eq_left h,Nat.sub_self];rfl
theorem mvH_bef{s r:List Hp}{d:Hp}{j:Nat}(h0:0<j)(h:j≤s.length):(mvH s d r j)[j - 1]?=some (s.getD (j - 1) hp0):=by
  unfold mvH
  rw [List.getElem?_append_left (by rw [List.length_take];omega),List.getElem?_take_of_lt (by omega),list_get (d:=hp0) (by omega)]
theorem mvH_step{s r:List Hp}{d:Hp}{j:Nat}(h0:0<j)(h:j≤s.length):((mvH s d r j).set j (s.getD (j - 1) hp0)).set (j - 1) d=mvH s d r (j - 1):=by
  obtain⟨i,rfl⟩:∃ i,j=i+1:=⟨j - 1,by omega⟩
  rw [Nat.add_sub_cancel]
  have hi:i<s.length:=by omega
  have hg:s.getD i hp0=s[i]:=by rw [List.getD_eq_getElem?_getD,List.getElem?_eq_getElem hi];rfl
  rw [hg]
  unfold mvH
  have e1:s.take (i+1)=s.take i++[s[i]]:=List.take_succ_eq_append_getElem hi
  have e2:s.drop i=s[i]::s.drop (i+1):=List.drop_eq_getElem_cons hi
  have l1:(s.take (i+1)).length=i+1:=by rw [List.length_take];omega
  have l2:(s.take i).length=i:=by rw [List.length_take];omega
  rw [List.set_append_right _ _ (by omega),l1,Nat.sub_self,List.set_cons_zero,e1,List.append_assoc,List.set_append_right _ _ (by omega),l2,Nat.sub_self,e2]
  rfl
theorem hpsV_set{c:List Hp}{i:Nat}{p:Hp}:(hpsV c).set i (hpV p)=hpsV (c.set i p):=by simp [hpsV,List.map_set]
theorem hpsV_flat(l:List Hp):(hpsV l).all flatL=true:=by simp [hpsV,hpV,flatL,V.flat]
theorem hpsV_plain(l:List Hp):plainLL (hpsV l)=true:=by
  induction l with
  |nil=>rfl
  |cons x xs ih=>simp only [hpsV,List.map_cons,plainLL,hpV,plainL,V.plain,Bool.true_and] at ih ⊢;exact ih
/-- how two events are compared -/
def cmpH(x y:Hp):Int:=if cmpQ x.2 y.2≠0 then cmpQ x.2 y.2 else cmpI x.1 y.1
theorem cmpH_neg{x y:Hp}(h:y.1<x.1):cmpH x y<0↔x.2<y.2:=by
  unfold cmpH
  split
  · exact cmpQ_lt
  · rename_i h0
    have h1:=Decidable.not_not.1 h0
    have h2:=cmpQ_zero.1 h1
    rw [cmpI_lt]
    constructor
    · intro h3;omega
    · intro h3;rw [h2] at h3;exact absurd h3 Rat.lt_irrefl
theorem srtH_take_succ{l:List Hp}{i:Nat}(h:i<l.length):srtH (l.take (i+1))=insH (srtH (l.take i)) (l.getD i hp0):=by
  rw [List.take_succ_eq_append_getElem h,srtH_snoc]
  congr 1
  rw [List.getD_eq_getElem?_getD,List.getElem?_eq_getElem h];rfl
/-- the list when the first i are ordered -/
def insS(l:List Hp)(i:Nat):List Hp:=srtH (l.take i)++l.drop i
theorem insS_len(l:List Hp)(i:Nat):(insS l i).length=l.length:=by
  unfold insS
  rw [List.length_append,srtH_len,List.length_take,List.length_drop];omega
theorem insS_one(l:List Hp):insS l 1=l:=by
  unfold insS
  cases l with
  |nil=>rfl
  |cons p l=>rfl
theorem insS_end(l:List Hp):insS l l.length=srtH l:=by simp [insS]
theorem insS_mv{l:List Hp}{i:Nat}(h:i<l.length):insS l i=mvH (srtH (l.take i)) (l.getD i hp0) (l.drop (i+1)) i:=by
  have hl:(srtH (l.take i)).length=i:=by rw [srtH_len,List.length_take];omega
  have:=mvH_end (srtH (l.take i)) (l.drop (i+1)) (l.getD i hp0)
  rw [hl] at this
  rw [this]
  unfold insS
  rw [List.drop_eq_getElem_cons h]
  congr 2
  rw [List.getD_eq_getElem?_getD,List.getElem?_eq_getElem h];rfl
theorem insS_next{l:List Hp}{i j:Nat}(h:i<l.length)(hj:j=insHN (srtH (l.take i)) (l.getD i hp0).2):mvH (srtH (l.take i)) (l.getD i hp0) (l.drop (i+1)) j=insS l (i+1):=by
  subst hj
  rw [mvH_ins]
  unfold insS
  rw [srtH_take_succ h]
/-- the numbers of the ordered ones are lesser -/
theorem ins_num{l:List Hp}(hn:NumL l){i j:Nat}(h:i<l.length)(hj:j<i):((srtH (l.take i)).getD j hp0).1<(l.getD i hp0).1:=by
  have hl:(srtH (l.take i)).length=i:=by rw [srtH_len,List.length_take];omega
  have hm:(srtH (l.take i)).getD j hp0∈srtH (l.take i):=by
    rw [List.getD_eq_getElem?_getD,List.getElem?_eq_getElem (by omega)]
    exact List.getElem_mem _
  rw [srtH_mem] at hm
  obtain⟨k,hk,e⟩:=List.mem_take_iff_getElem.1 hm
  rw [←e]
  have hg:l.getD i hp0=l[i]:=by rw [List.getD_eq_getElem?_getD,List.getElem?_eq_getElem h];rfl
  rw [hg]
  exact List.pairwise_iff_getElem.1 hn k i (by omega) h (by omega)
/-! the first one that is wrong, with its number -/
/-- names of events -/
abbrev Nms:=List (List UInt8)
theorem hapP_has {a:ActR}:∀ {n:Nat} {l:List Hp},hapP a n=some l→∀ {i:Nat} {x:Rat} {e:Int},i<n→evtP a i=(some x,e)→(i,x)∈l
  |0,l,_,i,x,e,hi,_=>by omega
  | n + 1,l,h,i,x,e,hi,hx=>by
    unfold hapP at h
    cases hl:hapP a n with
    |none=>rw [hl] at h;cases h
    | some l0=>
      rw [hl] at h
      simp only at h
      rcases Nat.lt_or_ge i n with h1|h1
      · have ih:=hapP_has hl h1 hx
        split at h
        · cases h;exact List.mem_append_left _ ih
        · split at h
          · cases h;exact ih
          · cases h
      · have e1:i=n:=by omega
        subst e1
        rw [hx] at h
        cases h
        exact List.mem_append_right _ (List.mem_singleton.2 rfl)
/-- none is too large -/
theorem hapP_ok {a:ActR}:∀ {n:Nat} {l:List Hp},hapP a n=some l→∀ {i:Nat},i<n→(∃ x,evtP a i=(some x,0))∨evtP a i=(none,12)
  |0,l,_,i,hi=>by omega
  | n + 1,l,h,i,hi=>by
    unfold hapP at h
    cases hl:hapP a n with
    |none=>rw [hl] at h;cases h
    | some l0=>
      rw [hl] at h
      rcases Nat.lt_or_ge i n with h1|h1
      · exact hapP_ok hl h1
      · have e1:i=n:=by omega
        subst e1
        simp only at h
        rcases evtP_code a i with ⟨x,hx⟩|hx|hx
        · exact .inl ⟨x,hx⟩
        · rw [hx] at h;simp at h
        · exact .inr hx
/-- what has happened at a dip: the names -/
def hapN(a:ActR)(l:List Hp):Nms:=l.map (nmH a)
theorem hapN_len(a:ActR)(l:List Hp):(hapN a l).length=l.length:=by simp [hapN]
theorem hapS_srt{a:ActR}{l:List Hp}(h:hapS a=some l):SrtL l∧l.length≤a.evs.length:=by
  unfold hapS at h
  cases hp:hapP a a.evs.length with
  |none=>rw [hp] at h;cases h
  | some l0=>
    rw [hp] at h
    cases h
    exact⟨srtH_srt _,by rw [srtH_len];exact hapP_len hp⟩
theorem hapS_mem {a:ActR} {l:List Hp} (h:hapS a=some l) {i:Nat} {x:Rat}:(i,x)∈l↔i<a.evs.length∧evtP a i=(some x,0):=by
  unfold hapS at h
  cases hp:hapP a a.evs.length with
  |none=>rw [hp] at h;cases h
  | some l0=>
    rw [hp] at h
    cases h
    rw [srtH_mem]
    constructor
    · intro hm
      obtain⟨_,h2⟩:=hapP_num hp
      obtain⟨h3,h4⟩:=h2 _ hm
      rcases hapP_ok hp h3 with ⟨y,hy⟩|hy
      · rw [hy] at h4
        simp only at h4
        dsimp only at hy
        refine⟨h3,?_⟩
        rw [hy]
        injection h4 with h5 _
        rw [h5]
      · rw [hy] at h4;cases h4
    · rintro⟨h1,h2⟩
      exact hapP_has hp h1 h2
end Go.Proofs.YtomkbpoicjabfaaGreatDoor
namespace Go.Proofs.YtomkbpoicjabfaaGreatDoor
end Go.Proofs.YtomkbpoicjabfaaGreatDoor
namespace Go.Proofs.YtomkbpoicjabfaaGreatDoor
open Go.RowKit
attribute [local irreducible] WA WOs WDs WAn qThen qBlock tput
set_option maxHeartbeats 1000000
set_option maxRecDepth 20000
set_option linter.unusedSimpArgs false
set_option linter.unusedVariables false
attribute [local irreducible] smB cut sm

theorem cor_c(x y:Int)(M:Mem)(k:Nat)(st:Sta)(hk:M[k]?=some (.cells st 3 1 [[.int .i64 x],[.int .i64 y]])):Gives Tryz.prog 92 [.sl k 2] M (.int .i64 (if x≠0 then x else y)):=by
  have hkl:=lend_get2 hk
  refine Gives_in Tryz.func92 rfl Tryz.ntmps92 Tryz.results92 (by kernel_rfl) (by simp) rfl fun Q hQ=>?_
  (have FX:=hkl;repeat'(first|(refine sx ?_ ?_<;>intro h<;>first|(exfalso;omega)|skip)|refine ny ?_|refine WA_block ?_))
  refine WA_rounds 3 ?_
  (have FX:=hkl;repeat'(first|(refine sx ?_ ?_<;>intro h<;>first|(exfalso;omega)|skip)|refine ny ?_|refine WA_block ?_))
  all_goals(try(exfalso;omega))
  all_goals((refine r_es hQ ?_;try with_reducible rfl))
  all_goals(refine congrArg (V.int .i64) ?_;(repeat (first|rw [if_pos (by first|assumption|omega|grind)]|rw [if_neg (by first|assumption|omega|grind)]));try omega)
theorem uC27_91_1{N:Nat}{l:List Oper}{t:List (Nat×V)}{m:Mem}{Q:Exit→List (Nat×V)→Mem→Prop}(h:RgN Tryz.prog N l t m Q (fun i=>if i==10 || i==11 then .a else if i==1 || i==3 || i==4 || i==6 || i==8 || i==9 then .q else .p) [.one 0,.one 1,.one 2,.one 3,.one 4,.one 5,.one 6,.one 7,.one 8,.one 9,.one 10,.one 11,.one 12]):WA Tryz.prog N (.region 1 l.toArray true) t m Q:=d_rgN h
theorem ahapp1_c(x y:Hp)(hx:sm x.2)(hy:sm y.2)(m:Mem):Gives Tryz.prog 91 [.agg (hpV x),.agg (hpV y)] m (.int .i64 (cmpH x y)):=by
  unfold hpV
  refine Gives_in Tryz.func91 rfl Tryz.ntmps91 Tryz.results91 (by kernel_rfl) (by simp) rfl fun Q hQ=>?_
  (repeat'(first|(refine sx ?_ ?_<;>intro h<;>first|(exfalso;omega)|skip)|(refine g_op ?_;refine g_call ?_;refine g_args ?_;(first|refine s_fn (acompare_c _ _ hx hy _) ?_|refine s_fn (ccompare_c _ _ _) ?_|refine s_fn (cor_c (cmpQ x.2 y.2) (cmpI x.1 y.1) _ _ .own ?_) ?_)<;>try first|omega|assumption)|refine ny ?_|refine WA_block ?_|(refine uC27_91_1 ?_;refine⟨by kernel_rfl,?_⟩)|((first|refine grp_cons (fun _=>acompare_c _ _ hx hy _) ?_|refine grp_cons (fun _=>ccompare_c _ _ _) ?_|refine grp_cons (fun _=>cor_c (cmpQ x.2 y.2) (cmpI x.1 y.1) _ _ .own ?_) ?_)<;>try first|omega|assumption)|(refine g_d ?_;refine d_args ?_;(first|refine d_fn (acompare_c _ _ hx hy _) ?_|refine d_fn (ccompare_c _ _ _) ?_|refine d_fn (cor_c (cmpQ x.2 y.2) (cmpI x.1 y.1) _ _ .own ?_) ?_|refine d_fnQ (fun _=>acompare_c _ _ hx hy _) ?_|refine d_fnQ (fun _=>ccompare_c _ _ _) ?_|refine d_fnQ (fun _=>cor_c (cmpQ x.2 y.2) (cmpI x.1 y.1) _ _ .own ?_) ?_)<;>try first|omega|assumption)|(refine g_d ?_;(first|refine d_fnY (acompare_c _ _ hx hy _) ?_|refine d_fnY (ccompare_c _ _ _) ?_|refine d_fnY (cor_c (cmpQ x.2 y.2) (cmpI x.1 y.1) _ _ .own ?_) ?_)<;>try first|omega|assumption)))
  all_goals try(simp;done)
  all_goals((refine r_es hQ ?_;try with_reducible rfl))
  all_goals rfl
end Go.Proofs.YtomkbpoicjabfaaGreatDoor
