import Derived.Test.YtomkbpoicjabfaaGreatDoorGAP
set_option linter.unusedSimpArgs false
set_option linter.unusedVariables false
/- where a curve reaches a level; the dips of events -/
namespace Go.Proofs.YtomkbpoicjabfaaGreatDoor
def rchd(f:Bool)(lv:Rat)(p:Pt):Bool:=if f then decide (p.2≤lv) else decide (lv≤p.2)
/-- the place, or the error -/
def rch(c:List Pt)(lv:Rat)(f:Bool):Option Rat×Int:=
  match c.findIdx? (rchd f lv) with
  |none=>(none,12)
  |some 0=>(some (at' c 0).1,0)
  |some (i+1)=>if alOk (at' c i) (at' c (i+1)) lv then (some (alE (at' c i) (at' c (i+1)) lv),0) else (none,8)
theorem find_some{α:Type}{f:α→Bool}{l:List α}{d:α}{i:Nat}(hi:i<l.length)(h0:∀ j,j<i→f (l.getD j d)=false)(h:f (l.getD i d)=true):l.findIdx? f=some i:=by
  rw [List.findIdx?_eq_some_iff_getElem]
  have hg:∀ j (hj:j<l.length),l[j]=l.getD j d:=fun j hj=>by rw [List.getD_eq_getElem?_getD,List.getElem?_eq_getElem hj];rfl
  refine⟨hi,by rw [hg i hi];exact h,fun j hj=>?_⟩
  rw [hg j (by omega),h0 j hj];simp
theorem find_none{α:Type}{f:α→Bool}{l:List α}{d:α}(h0:∀ j,j<l.length→f (l.getD j d)=false):l.findIdx? f=none:=by
  rw [List.findIdx?_eq_none_iff]
  intro x hx
  obtain⟨j,hj,rfl⟩:=List.getElem_of_mem hx
  have:=h0 j hj
  rw [List.getD_eq_getElem?_getD,List.getElem?_eq_getElem hj] at this
  exact this
theorem rch_none{c:List Pt}{lv:Rat}{f:Bool}(h:∀ j,j<c.length→rchd f lv (at' c j)=false):rch c lv f=(none,12):=by
  unfold rch;rw [find_none (d:=(0,0)) h]
theorem rch_zero{c:List Pt}{lv:Rat}{f:Bool}(hp:0<c.length)(h:rchd f lv (at' c 0)=true):rch c lv f=(some (at' c 0).1,0):=by
  unfold rch;rw [find_some (d:=(0,0)) hp (fun j h=>absurd h (Nat.not_lt_zero _)) h]
theorem rch_succ{c:List Pt}{lv:Rat}{f:Bool}{i:Nat}(hi:i+1<c.length)(h0:∀ j,j<i+1→rchd f lv (at' c j)=false)(h:rchd f lv (at' c (i+1))=true):rch c lv f=if alOk (at' c i) (at' c (i+1)) lv then (some (alE (at' c i) (at' c (i+1)) lv),0) else (none,8):=by
  unfold rch;rw [find_some (d:=(0,0)) hi h0 h]
/-- the cases -/
theorem rch_cases(c:List Pt)(lv:Rat)(f:Bool):(∀ j,j<c.length→rchd f lv (at' c j)=false)∨(0<c.length∧rchd f lv (at' c 0)=true)∨∃ i,i+1<c.length∧(∀ j,j<i+1→rchd f lv (at' c j)=false)∧rchd f lv (at' c (i+1))=true:=by
  rcases fidx_cases (rchd f lv) c (0,0) with ⟨_,h⟩|⟨i,h1,_,h2,h3⟩
  · exact .inl h
  · rcases i with _|i
    · exact .inr (.inl ⟨h1,h2⟩)
    · exact .inr (.inr ⟨i,h1,h3,h2⟩)
theorem rch_fidx{c:List Pt}{lv:Rat}{f:Bool}{i:Nat}(hi:i<c.length)(h0:∀ j,j<i→rchd f lv (at' c j)=false)(h:rchd f lv (at' c i)=true):fidx (rchd f lv) c=(i:Int):=fidx_at (d:=(0,0)) hi h0 h
theorem rchd_y{f:Bool}{lv:Rat}{p q:Pt}(h1:rchd f lv p=false)(h2:rchd f lv q=true):p.2≠q.2∧(f=false→p.2<lv∧lv≤q.2)∧(f=true→q.2≤lv∧lv<p.2):=by
  unfold rchd at h1 h2
  cases f with
  | false=>
    simp only [Bool.false_eq_true,if_false,decide_eq_false_iff_not,decide_eq_true_eq] at h1 h2
    refine⟨by intro e;rw [e] at h1;exact h1 h2,fun _=>⟨Rat.not_le.1 h1,h2⟩,fun h=>(by cases h)⟩
  | true=>
    simp only [if_true,decide_eq_false_iff_not,decide_eq_true_eq] at h1 h2
    refine⟨by intro e;rw [e] at h1;exact h1 h2,fun h=>(by cases h),fun _=>⟨h2,Rat.not_le.1 h1⟩⟩
theorem sl_mul{a b:Pt}(hab:a.1<b.1):sl a b * (b.1 - a.1)=b.2 - a.2:=by
  unfold sl;rw [Rat.div_mul_cancel (sub_ne hab)]
/-- the place between two corners -/
theorem alE_in{a b:Pt}{y:Rat}(hab:a.1<b.1)(h:a.2<y∧y≤b.2∨b.2≤y∧y<a.2):a.1<alE a b y∧alE a b y≤b.1:=by
  have hn:a.2≠b.2:=by grind
  have h0:=sl_ne hab hn
  have hs:=sl_mul hab
  by_cases hy:y=b.2
  · have e:alE a b y=b.1:=by
      unfold alE
      rw [hy,←hs]
      have:sl a b * (b.1 - a.1) / sl a b=b.1 - a.1:=by rw [Rat.mul_comm,Rat.mul_div_cancel h0]
      rw [this];grind
    rw [e];exact⟨hab,Rat.le_refl⟩
  · have:=stretch_in (s:=sl a b) (k:=y) (x:=alE a b y) hab hs (by unfold alE;rw [Rat.add_comm]) h0 (by grind)
    exact⟨this.1,Rat.le_of_lt this.2⟩
theorem sm_rch{c:List Pt}(hc:Valid c){lv x:Rat}{f:Bool}{e:Int}(h:rch c lv f=(some x,e)):sm x∧e=0∧(at' c 0).1≤x∧x≤(at' c (c.length - 1)).1:=by
  rcases rch_cases c lv f with h1|⟨h1,h2⟩|⟨i,h1,h2,h3⟩
  · rw [rch_none h1] at h;cases h
  · rw [rch_zero h1 h2] at h;cases h
    exact⟨(hc.sm 0 h1).1,rfl,Rat.le_refl,hc.asc.le (by omega) (by omega)⟩
  · rw [rch_succ h1 h2 h3] at h
    split at h
    · rename_i ho
      cases h
      obtain⟨k1,k2,k3⟩:=rchd_y (h2 i (by omega)) h3
      have hin:=alE_in (y:=lv) (hc.up i h1) (by cases f<;>simp_all)
      have l1:=hc.asc.le (i:=0) (j:=i) (by omega) (by omega)
      have l2:=hc.asc.le (i:=i+1) (j:=c.length - 1) (by omega) (by omega)
      exact⟨ho.2.2,rfl,by grind,by grind⟩
    · cases h
theorem rch_code(c:List Pt)(lv:Rat)(f:Bool):(∃ x,rch c lv f=(some x,0))∨rch c lv f=(none,8)∨rch c lv f=(none,12):=by
  rcases rch_cases c lv f with h1|⟨h1,h2⟩|⟨i,h1,h2,h3⟩
  · exact .inr (.inr (rch_none h1))
  · exact .inl ⟨_,rch_zero h1 h2⟩
  · rw [rch_succ h1 h2 h3]
    split
    · exact .inl ⟨_,rfl⟩
    · exact .inr (.inl rfl)
/-- the curve of a part, the dip of an event -/
def cvP(a:ActR)(i:Nat):Option (List Pt):=curP a 13 i
def prtN(a:ActR)(x:EvR):Nat:=(fidx (isP x.part) a.parts).toNat
def evtP(a:ActR)(i:Nat):Option Rat×Int:=
  match cvP a (prtN a (a.evs.getD i e0)) with
  |none=>(none,8)
  |some c=>rch c ((a.evs.getD i e0).lev:Rat) (a.evs.getD i e0).fall
theorem evtP_code(a:ActR)(i:Nat):(∃ x,evtP a i=(some x,0))∨evtP a i=(none,8)∨evtP a i=(none,12):=by
  unfold evtP
  split
  · exact .inr (.inl rfl)
  · exact rch_code _ _ _
/-- what the events of a right action are -/
theorem acErr_evs {a:ActR} (h:acErr a=0):a.evs.length≤20∧(∀ i,i<a.evs.length→evErrAt a i=0)∧ldsErr a.leads=0:=by
  unfold acErr at h
  split at h
  · simp at h
  · split at h
    · simp at h
    · split at h
      · contradiction
      · split at h
        · simp at h
        · split at h
          · contradiction
          · rename_i h1 h2
            exact⟨by omega,firstE_zero.1 (by simpa using h2),h⟩
theorem evErrAt_zero {a:ActR} {i:Nat} (h:evErrAt a i=0):nameP (a.evs.getD i e0).name∧fidx (isE (a.evs.getD i e0).name) (a.evs.take i)<0∧0≤fidx (isP (a.evs.getD i e0).part) a.parts∧(-10000≤(a.evs.getD i e0).lev∧(a.evs.getD i e0).lev≤10000):=by
  unfold evErrAt at h
  simp only at h
  split at h
  · simp at h
  · split at h
    · simp at h
    · split at h
      · simp at h
      · split at h
        · simp at h
        · rename_i h1 h2 h3 h4
          exact⟨Classical.not_not.1 h1,by omega,by omega,by omega⟩
theorem prtN_lt{a:ActR}{i:Nat}(h:evErrAt a i=0):prtN a (a.evs.getD i e0)<a.parts.length∧fidx (isP (a.evs.getD i e0).part) a.parts=(prtN a (a.evs.getD i e0):Int):=by
  obtain⟨_,_,h3,_⟩:=evErrAt_zero h
  have:=fidx_bd (isP (a.evs.getD i e0).part) a.parts
  unfold prtN
  omega
theorem compP_ends{o c l:List Pt}(hc:Valid c)(h:compP o c=some l):(at' l 0).1=(at' c 0).1∧(at' l (l.length - 1)).1=(at' c (c.length - 1)).1:=by
  obtain⟨_,h2,_,_⟩:=compP_some h
  subst h2
  have hp:=hc.pos
  have hd:∀ n,(cmpL o c (n+1))[0]?=some (valK o c 0):=by
    intro n
    induction n with
    |zero=>simp [cmpL]
    | succ n ih=>
      show(cmpL o c (n+1)++_)[0]?=_
      have hlt:0<(cmpL o c (n+1)).length:=(List.getElem?_eq_some_iff.1 ih).1
      rw [List.getElem?_append_left hlt,ih]
  obtain⟨n,hn⟩:∃ n,c.length=n+1:=⟨c.length - 1,by omega⟩
  rw [hn]
  refine⟨?_,?_⟩
  · unfold at'
    rw [List.getD_eq_getElem?_getD,hd n];rfl
  · have:cmpL o c (n+1)=cmpL o c n++[valK o c n]:=by
      show cmpL o c n++valK o c n::_=_
      rw [if_neg (by omega)]
    rw [this]
    unfold at'
    rw [List.getD_eq_getElem?_getD]
    simp [valK,at']
/-- a part's curve goes from 0 to the dip -/
theorem curP_ends {a:ActR} (h:PtsOk a):∀ {n i:Nat} {l:List Pt},i<a.parts.length→curP a n i=some l→(at' l 0).1=0∧(at' l (l.length - 1)).1=(a.dip:Rat)
  |0,i,l,_,hl=>by simp [curP] at hl
  | n + 1,i,l,hi,hl=>by
    unfold curP at hl
    by_cases hd:(a.parts.getD i p0).driver=[]
    · rw [if_pos hd] at hl
      exact compP_ends (dipC_valid h) hl
    · rw [if_neg hd] at hl
      cases hc:curP a n (drv a (a.parts.getD i p0)) with
      |none=>rw [hc] at hl;cases hl
      | some d=>
        rw [hc] at hl
        have hlt:=(drv_lt h hi hd).1
        have ih:=curP_ends h (n:=n) (i:=drv a (a.parts.getD i p0)) (by omega) hc
        have hv:=curP_valid h (n:=n) (i:=drv a (a.parts.getD i p0)) (by omega) hc
        have:=compP_ends hv (show compP _ d=some l from hl)
        rw [this.1,this.2]
        exact ih
theorem cvP_valid{a:ActR}(h:PtsOk a){i:Nat}{l:List Pt}(hi:i<a.parts.length)(hl:cvP a i=some l):Valid l:=curP_valid h hi hl
theorem evtP_sm{a:ActR}(h:acErr a=0){i:Nat}{x:Rat}{e:Int}(hi:i<a.evs.length)(hx:evtP a i=(some x,e)):sm x∧e=0∧0≤x∧x≤(a.dip:Rat):=by
  have hp:=acErr_pts h
  obtain⟨_,h2,_⟩:=acErr_evs h
  have hl:=(prtN_lt (h2 i hi)).1
  unfold evtP at hx
  split at hx
  · cases hx
  · rename_i c hc
    obtain⟨q1,q2,q3,q4⟩:=sm_rch (cvP_valid hp hl hc) hx
    obtain⟨e1,e2⟩:=curP_ends hp hl hc
    rw [e1] at q3
    rw [e2] at q4
    exact⟨q1,q2,q3,q4⟩
end Go.Proofs.YtomkbpoicjabfaaGreatDoor
namespace Go.Proofs.YtomkbpoicjabfaaGreatDoor
open Go.RowKit
abbrev Hp:=Nat×Rat
def hp0:Hp:=(0,0)
def hpV(h:Hp):List V:=[.int .i64 (h.1:Int),.int .i64 h.2.num,.int .i64 (h.2.den:Int)]
def hpsV(l:List Hp):List (List V):=l.map hpV
theorem hpsV_length{l:List Hp}:(hpsV l).length=l.length:=by simp [hpsV]
theorem hpsV_get{l:List Hp}{i:Nat}(h:i<l.length):(hpsV l)[i]?=some (hpV (l.getD i hp0)):=by
  unfold hpsV;rw [List.getElem?_map,list_get h];rfl
/-- the events before the one with number n that happen, or nothing if one is too large -/
def hapP (a:ActR):Nat→Option (List Hp)
  |0=>some []
  | i +1=>match hapP a i with
    |none=>none
    | some l=>match evtP a i with
      |(some x,_)=>some (l++[(i,x)])
      |(none,e)=>if e=12 then some l else none
/-- an event put into ordered ones -/
def insHN(l:List Hp)(x:Rat):Nat:=(l.takeWhile fun p=>decide (p.2≤x)).length
def insH(l:List Hp)(d:Hp):List Hp:=l.take (insHN l d.2)++d::l.drop (insHN l d.2)
def srtH(l:List Hp):List Hp:=l.foldl insH []
theorem srtH_snoc(l:List Hp)(d:Hp):srtH (l++[d])=insH (srtH l) d:=by unfold srtH;rw [List.foldl_append];rfl
theorem insHN_le(l:List Hp)(x:Rat):insHN l x≤l.length:=(List.takeWhile_prefix _).length_le
theorem insH_len(l:List Hp)(d:Hp):(insH l d).length=l.length+1:=by
  have:=insHN_le l d.2
  simp [insH];omega
abbrev SrtL(l:List Hp):Prop:=l.Pairwise fun p q=>p.2≤q.2
theorem take_while:∀ {l:List Hp} {x:Rat},∀ p∈l.take (insHN l x),p.2≤x
  |[],x,p,h=>by simp at h
  | q ::l,x,p,h=>by
    unfold insHN at h
    rw [List.takeWhile_cons] at h
    split at h
    · rename_i hq
      rw [List.length_cons,List.take_succ_cons,List.mem_cons] at h
      rcases h with h|h
      · subst h;simpa using hq
      · exact take_while p h
    · simp at h
theorem srt_getD{l:List Hp}(h:SrtL l){i j:Nat}(hij:i≤j)(hj:j<l.length):(l.getD i hp0).2≤(l.getD j hp0).2:=by
  have hg:∀ k (hk:k<l.length),l.getD k hp0=l[k]:=fun k hk=>by rw [List.getD_eq_getElem?_getD,List.getElem?_eq_getElem hk];rfl
  rcases Nat.lt_or_ge i j with h1|h1
  · rw [hg i (by omega),hg j hj]
    exact List.pairwise_iff_getElem.1 h i j (by omega) hj h1
  · have:i=j:=by omega
    subst this;exact Rat.le_refl
theorem insHN_at{l:List Hp}{x:Rat}(h:insHN l x<l.length):x<(l.getD (insHN l x) hp0).2:=by
  induction l with
  |nil=>simp at h
  | cons p l ih=>
    unfold insHN at h ⊢
    rw [List.takeWhile_cons] at h ⊢
    split at h
    · rename_i hp
      rw [if_pos hp]
      simp only [List.length_cons] at h ⊢
      exact ih (by simpa [insHN] using h)
    · rename_i hp
      rw [if_neg hp]
      exact Rat.not_le.1 (by simpa using hp)
theorem insHN_uniq{l:List Hp}(hs:SrtL l){x:Rat}{n:Nat}(hn:n≤l.length)(h1:0<n→(l.getD (n - 1) hp0).2≤x)(h2:n<l.length→x<(l.getD n hp0).2):n=insHN l x:=by
  have hc:=insHN_le l x
  rcases Nat.lt_trichotomy n (insHN l x) with h3|h3|h3
  · exfalso
    have h4:=h2 (by omega)
    have h5:l.getD n hp0∈l.take (insHN l x):=by
      have hg:l.getD n hp0=l[n]'(by omega):=by rw [List.getD_eq_getElem?_getD,List.getElem?_eq_getElem (by omega)];rfl
      rw [hg]
      exact List.mem_take_iff_getElem.2 ⟨n,by omega,rfl⟩
    have:=take_while _ h5
    grind
  · exact h3
  · exfalso
    have h4:=h1 (by omega)
    have h5:=insHN_at (l:=l) (x:=x) (by omega)
    have h6:=srt_getD hs (i:=insHN l x) (j:=n - 1) (by omega) (by omega)
    grind
theorem drop_while{l:List Hp}(hs:SrtL l){x:Rat}:∀ p∈l.drop (insHN l x),x<p.2:=by
  intro p hp
  obtain⟨i,hi,rfl⟩:=List.getElem_of_mem hp
  rw [List.getElem_drop]
  rw [List.length_drop] at hi
  have h1:=insHN_at (l:=l) (x:=x) (by omega)
  have h2:=srt_getD hs (i:=insHN l x) (j:=insHN l x+i) (by omega) (by omega)
  have hg:l.getD (insHN l x+i) hp0=l[insHN l x+i]'(by omega):=by rw [List.getD_eq_getElem?_getD,List.getElem?_eq_getElem (by omega)];rfl
  rw [hg] at h2
  grind
theorem insH_srt{l:List Hp}(hs:SrtL l)(d:Hp):SrtL (insH l d):=by
  have hs':=hs
  rw [←List.take_append_drop (insHN l d.2) l,SrtL,List.pairwise_append] at hs'
  obtain⟨a1,a2,a3⟩:=hs'
  unfold insH
  rw [SrtL,List.pairwise_append,List.pairwise_cons]
  refine⟨a1,⟨fun p hp=>Rat.le_of_lt (drop_while hs p hp),a2⟩,fun p hp q hq=>?_⟩
  rcases List.mem_cons.1 hq with hq|hq
  · subst hq;exact take_while p hp
  · exact a3 p hp q hq
theorem insH_mem{l:List Hp}{d p:Hp}:p∈insH l d↔p=d∨p∈l:=by
  unfold insH
  rw [List.mem_append,List.mem_cons]
  constructor
  · rintro(h|h|h)
    · exact .inr (List.mem_of_mem_take h)
    · exact .inl h
    · exact .inr (List.mem_of_mem_drop h)
  · rintro(h|h)
    · exact .inr (.inl h)
    · rw [←List.take_append_drop (insHN l d.2) l,List.mem_append] at h
      rcases h with h|h
      · exact .inl h
      · exact .inr (.inr h)
theorem foldl_srt{l r:List Hp}(h:SrtL r):SrtL (l.foldl insH r):=by
  induction l generalizing r with
  |nil=>exact h
  |cons d l ih=>exact ih (insH_srt h d)
theorem srtH_srt(l:List Hp):SrtL (srtH l):=foldl_srt List.Pairwise.nil
theorem foldl_mem{l r:List Hp}{p:Hp}:p∈l.foldl insH r↔p∈l∨p∈r:=by
  induction l generalizing r with
  |nil=>simp
  | cons d l ih=>
    rw [List.foldl_cons,ih,insH_mem,List.mem_cons]
    constructor
    · rintro(h|h|h)
      · exact .inl (.inr h)
      · exact .inl (.inl h)
      · exact .inr h
    · rintro((h|h)|h)
      · exact .inr (.inl h)
      · exact .inl h
      · exact .inr (.inr h)
theorem srtH_mem{l:List Hp}{p:Hp}:p∈srtH l↔p∈l:=by unfold srtH;rw [foldl_mem];simp
theorem foldl_len{l r:List Hp}:(l.foldl insH r).length=l.length+r.length:=by
  induction l generalizing r with
  |nil=>simp
  |cons d l ih=>rw [List.foldl_cons,ih,insH_len,List.length_cons];omega
theorem srtH_len(l:List Hp):(srtH l).length=l.length:=by unfold srtH;rw [foldl_len];simp
/-- the numbers ascend -/
abbrev NumL(l:List Hp):Prop:=l.Pairwise fun p q=>p.1<q.1
theorem hapP_num {a:ActR}:∀ {n:Nat} {l:List Hp},hapP a n=some l→NumL l∧∀ p∈l,p.1<n∧evtP a p.1=(some p.2,(evtP a p.1).2)
  |0,l,h=>by simp [hapP] at h;subst h;simp
  | n + 1,l,h=>by
    unfold hapP at h
    cases hl:hapP a n with
    |none=>rw [hl] at h;cases h
    | some l0=>
      rw [hl] at h
      obtain⟨h1,h2⟩:=hapP_num hl
      have up:∀ p∈l0,p.1<n+1∧evtP a p.1=(some p.2,(evtP a p.1).2):=fun p hp=>⟨by have:=(h2 p hp).1;omega,(h2 p hp).2⟩
      simp only at h
      split at h
      · rename_i x e he
        cases h
        refine⟨?_,fun p hp=>?_⟩
        · rw [NumL,List.pairwise_append]
          refine⟨h1,by simp,fun p hp q hq=>?_⟩
          rw [List.mem_singleton] at hq;subst hq
          exact(h2 p hp).1
        · rcases List.mem_append.1 hp with hp|hp
          · exact up p hp
          · rw [List.mem_singleton] at hp;subst hp
            exact⟨Nat.lt_succ_self _,by rw [he]⟩
      · split at h
        · cases h;exact⟨h1,up⟩
        · cases h
theorem hapP_len {a:ActR}:∀ {n:Nat} {l:List Hp},hapP a n=some l→l.length≤n
  |0,l,h=>by simp [hapP] at h;subst h;simp
  | n + 1,l,h=>by
    unfold hapP at h
    cases hl:hapP a n with
    |none=>rw [hl] at h;cases h
    | some l0=>
      rw [hl] at h
      have:=hapP_len hl
      simp only at h
      split at h
      · cases h;simp;omega
      · split at h
        · cases h;omega
        · cases h
/-- all events that happen, in their order -/
def hapS(a:ActR):Option (List Hp):=(hapP a a.evs.length).map srtH
def nmH(a:ActR)(h:Hp):List UInt8:=(a.evs.getD h.1 e0).name
theorem hapP_up{a:ActR}{n:Nat}(h:hapP a n=none):∀ {m:Nat},n≤m→hapP a m=none
  | 0,hm=>by
    have:n=0:=by omega
    subst this;exact h
  | m +1,hm=>by
    rcases Nat.lt_or_ge n (m+1) with q|q
    · unfold hapP
      rw [hapP_up h (m:=m) (by omega)]
    · have:n=m+1:=by omega
      subst this;exact h
/-- an event on its way through ordered ones -/
def mvH(s:List Hp)(d:Hp)(r:List Hp)(j:Nat):List Hp:=s.take j++d::(s.drop j++r)
theorem mvH_end(s r:List Hp)(d:Hp):mvH s d r s.length=s++d::r:=by simp [mvH]
theorem mvH_ins(s r:List Hp)(d:Hp):mvH s d r (insHN s d.2)=insH s d++r:=by simp [mvH,insH]
theorem mvH_at{s r:List Hp}{d:Hp}{j:Nat}(h:j≤s.length):(mvH s d r j)[j]?=some d:=by
  unfold mvH
  rw [List.getElem?_append_right (by rw [List.length_take];omega),List.length_take,Nat.min_eq_left h,Nat.sub_self];rfl
theorem mvH_bef{s r:List Hp}{d:Hp}{j:Nat}(h0:0<j)(h:j≤s.length):(mvH s d r j)[j - 1]?=some (s.getD (j - 1) hp0):=by
  unfold mvH
  rw [List.getElem?_append_left (by rw [List.length_take];omega),List.getElem?_take_of_lt (by omega),list_get (d:=hp0) (by omega)]
theorem mvH_step{s r:List Hp}{d:Hp}{j:Nat}(h0:0<j)(h:j≤s.length):((mvH s d r j).set j (s.getD (j - 1) hp0)).set (j - 1) d=mvH s d r (j - 1):=by
  obtain⟨i,rfl⟩:∃ i,j=i+1:=⟨j - 1,by omega⟩
  rw [Nat.add_sub_cancel]
  have hi:i<s.length:=by omega
  have hg:s.getD i hp0=s[i]:=by rw [List.getD_eq_getElem?_getD,List.getElem?_eq_getElem hi];rfl
  rw [hg]
  unfold mvH
  have e1:s.take (i+1)=s.take i++[s[i]]:=List.take_succ_eq_append_getElem hi
  have e2:s.drop i=s[i]::s.drop (i+1):=List.drop_eq_getElem_cons hi
  have l1:(s.take (i+1)).length=i+1:=by rw [List.length_take];omega
  have l2:(s.take i).length=i:=by rw [List.length_take];omega
  rw [List.set_append_right _ _ (by omega),l1,Nat.sub_self,List.set_cons_zero,e1,List.append_assoc,List.set_append_right _ _ (by omega),l2,Nat.sub_self,e2]
  rfl
theorem hpsV_set{c:List Hp}{i:Nat}{p:Hp}:(hpsV c).set i (hpV p)=hpsV (c.set i p):=by simp [hpsV,List.map_set]
theorem hpsV_flat(l:List Hp):(hpsV l).all flatL=true:=by simp [hpsV,hpV,flatL,V.flat]
theorem hpsV_plain(l:List Hp):plainLL (hpsV l)=true:=by
  induction l with
  |nil=>rfl
  |cons x xs ih=>simp only [hpsV,List.map_cons,plainLL,hpV,plainL,V.plain,Bool.true_and] at ih ⊢;exact ih
/-- how two events are compared -/
def cmpH(x y:Hp):Int:=if cmpQ x.2 y.2≠0 then cmpQ x.2 y.2 else cmpI x.1 y.1
theorem cmpH_neg{x y:Hp}(h:y.1<x.1):cmpH x y<0↔x.2<y.2:=by
  unfold cmpH
  split
  · exact cmpQ_lt
  · rename_i h0
    have h1:=Decidable.not_not.1 h0
    have h2:=cmpQ_zero.1 h1
    rw [cmpI_lt]
    constructor
    · intro h3;omega
    · intro h3;rw [h2] at h3;exact absurd h3 Rat.lt_irrefl
theorem srtH_take_succ{l:List Hp}{i:Nat}(h:i<l.length):srtH (l.take (i+1))=insH (srtH (l.take i)) (l.getD i hp0):=by
  rw [List.take_succ_eq_append_getElem h,srtH_snoc]
  congr 1
  rw [List.getD_eq_getElem?_getD,List.getElem?_eq_getElem h];rfl
/-- the list when the first i are ordered -/
def insS(l:List Hp)(i:Nat):List Hp:=srtH (l.take i)++l.drop i
theorem insS_len(l:List Hp)(i:Nat):(insS l i).length=l.length:=by
  unfold insS
  rw [List.length_append,srtH_len,List.length_take,List.length_drop];omega
theorem insS_one(l:List Hp):insS l 1=l:=by
  unfold insS
  cases l with
  |nil=>rfl
  |cons p l=>rfl
theorem insS_end(l:List Hp):insS l l.length=srtH l:=by simp [insS]
theorem insS_mv{l:List Hp}{i:Nat}(h:i<l.length):insS l i=mvH (srtH (l.take i)) (l.getD i hp0) (l.drop (i+1)) i:=by
  have hl:(srtH (l.take i)).length=i:=by rw [srtH_len,List.length_take];omega
  have:=mvH_end (srtH (l.take i)) (l.drop (i+1)) (l.getD i hp0)
  rw [hl] at this
  rw [this]
  unfold insS
  rw [List.drop_eq_getElem_cons h]
  congr 2
  rw [List.getD_eq_getElem?_getD,List.getElem?_eq_getElem h];rfl
theorem insS_next{l:List Hp}{i j:Nat}(h:i<l.length)(hj:j=insHN (srtH (l.take i)) (l.getD i hp0).2):mvH (srtH (l.take i)) (l.getD i hp0) (l.drop (i+1)) j=insS l (i+1):=by
  subst hj
  rw [mvH_ins]
  unfold insS
  rw [srtH_take_succ h]
/-- the numbers of the ordered ones are lesser -/
theorem ins_num{l:List Hp}(hn:NumL l){i j:Nat}(h:i<l.length)(hj:j<i):((srtH (l.take i)).getD j hp0).1<(l.getD i hp0).1:=by
  have hl:(srtH (l.take i)).length=i:=by rw [srtH_len,List.length_take];omega
  have hm:(srtH (l.take i)).getD j hp0∈srtH (l.take i):=by
    rw [List.getD_eq_getElem?_getD,List.getElem?_eq_getElem (by omega)]
    exact List.getElem_mem _
  rw [srtH_mem] at hm
  obtain⟨k,hk,e⟩:=List.mem_take_iff_getElem.1 hm
  rw [←e]
  have hg:l.getD i hp0=l[i]:=by rw [List.getD_eq_getElem?_getD,List.getElem?_eq_getElem h];rfl
  rw [hg]
  exact List.pairwise_iff_getElem.1 hn k i (by omega) h (by omega)
/-! the first one that is wrong, with its number -/
/-- names of events -/
abbrev Nms:=List (List UInt8)
end Go.Proofs.YtomkbpoicjabfaaGreatDoor
