/- where a curve reaches a level; the dips of events -/
import Derived.Test.YtomkbpoicjabfaaGreatDoorGAK
set_option linter.unusedSimpArgs false
set_option linter.unusedVariables false
namespace Go.Proofs.YtomkbpoicjabfaaGreatDoor
def rchd(f:Bool)(lv:Rat)(p:Pt):Bool:=if f then decide (p.2≤lv) else decide (lv≤p.2)
/-- the place, or the error -/
def rch(c:List Pt)(lv:Rat)(f:Bool):Option Rat×Int:=
  match c.findIdx? (rchd f lv) with
  |none=>(none,12)
  |some 0=>(some (at' c 0).1,0)
  |some (i+1)=>if alOk (at' c i) (at' c (i+1)) lv then (some (alE (at' c i) (at' c (i+1)) lv),0) else (none,8)
theorem find_some{α:Type}{f:α→Bool}{l:List α}{d:α}{i:Nat}(hi:i<l.length)(h0:∀ j,j<i→f (l.getD j d)=false)(h:f (l.getD i d)=true):l.findIdx? f=some i:=by
  rw [List.findIdx?_eq_some_iff_getElem]
  have hg:∀ j (hj:j<l.length),l[j]=l.getD j d:=fun j hj=>by rw [List.getD_eq_getElem?_getD,List.getElem?_eq_getElem hj];rfl
  refine⟨hi,by rw [hg i hi];exact h,fun j hj=>?_⟩
  rw [hg j (by omega),h0 j hj];simp
theorem find_none{α:Type}{f:α→Bool}{l:List α}{d:α}(h0:∀ j,j<l.length→f (l.getD j d)=false):l.findIdx? f=none:=by
  rw [List.findIdx?_eq_none_iff]
  intro x hx
  obtain⟨j,hj,rfl⟩:=List.getElem_of_mem hx
  have:=h0 j hj
  rw [List.getD_eq_getElem?_getD,List.getElem?_eq_getElem hj] at this
  exact this
theorem rch_none{c:List Pt}{lv:Rat}{f:Bool}(h:∀ j,j<c.length→rchd f lv (at' c j)=false):rch c lv f=(none,12):=by
  unfold rch;rw [find_none (d:=(0,0)) h]
theorem rch_zero{c:List Pt}{lv:Rat}{f:Bool}(hp:0<c.length)(h:rchd f lv (at' c 0)=true):rch c lv f=(some (at' c 0).1,0):=by
  unfold rch;rw [find_some (d:=(0,0)) hp (fun j h=>absurd h (Nat.not_lt_zero _)) h]
theorem rch_succ{c:List Pt}{lv:Rat}{f:Bool}{i:Nat}(hi:i+1<c.length)(h0:∀ j,j<i+1→rchd f lv (at' c j)=false)(h:rchd f lv (at' c (i+1))=true):rch c lv f=if alOk (at' c i) (at' c (i+1)) lv then (some (alE (at' c i) (at' c (i+1)) lv),0) else (none,8):=by
  unfold rch;rw [find_some (d:=(0,0)) hi h0 h]
/-- the cases -/
theorem rch_cases(c:List Pt)(lv:Rat)(f:Bool):(∀ j,j<c.length→rchd f lv (at' c j)=false)∨(0<c.length∧rchd f lv (at' c 0)=true)∨∃ i,i+1<c.length∧(∀ j,j<i+1→rchd f lv (at' c j)=false)∧rchd f lv (at' c (i+1))=true:=by
  rcases fidx_cases (rchd f lv) c (0,0) with ⟨_,h⟩|⟨i,h1,_,h2,h3⟩
  · exact .inl h
  · rcases i with _|i
    · exact .inr (.inl ⟨h1,h2⟩)
    · exact .inr (.inr ⟨i,h1,h3,h2⟩)
theorem rch_fidx{c:List Pt}{lv:Rat}{f:Bool}{i:Nat}(hi:i<c.length)(h0:∀ j,j<i→rchd f lv (at' c j)=false)(h:rchd f lv (at' c i)=true):fidx (rchd f lv) c=(i:Int):=fidx_at (d:=(0,0)) hi h0 h
theorem rchd_y{f:Bool}{lv:Rat}{p q:Pt}(h1:rchd f lv p=false)(h2:rchd f lv q=true):p.2≠q.2∧(f=false→p.2<lv∧lv≤q.2)∧(f=true→q.2≤lv∧lv<p.2):=by
  unfold rchd at h1 h2
  cases f with
  | false=>
    simp only [Bool.false_eq_true,if_false,decide_eq_false_iff_not,decide_eq_true_eq] at h1 h2
    refine⟨by intro e;rw [e] at h1;exact h1 h2,fun _=>⟨Rat.not_le.1 h1,h2⟩,fun h=>(by cases h)⟩
  | true=>
    simp only [if_true,decide_eq_false_iff_not,decide_eq_true_eq] at h1 h2
    refine⟨by intro e;rw [e] at h1;exact h1 h2,fun h=>(by cases h),fun _=>⟨h2,Rat.not_le.1 h1⟩⟩
theorem sl_mul{a b:Pt}(hab:a.1<b.1):sl a b * (b.1 - a.1)=b.2 - a.2:=by
  unfold sl;rw [Rat.div_mul_cancel (sub_ne hab)]
/-- the place between two corners -/
theorem alE_in{a b:Pt}{y:Rat}(hab:a.1<b.1)(h:a.2<y∧y≤b.2∨b.2≤y∧y<a.2):a.1<alE a b y∧alE a b y≤b.1:=by
  have hn:a.2≠b.2:=by grind
  have h0:=sl_ne hab hn
  have hs:=sl_mul hab
  by_cases hy:y=b.2
  · have e:alE a b y=b.1:=by
      unfold alE
      rw [hy,←hs]
      have:sl a b * (b.1 - a.1) / sl a b=b.1 - a.1:=by rw [Rat.mul_comm,Rat.mul_div_cancel h0]
      rw [this];grind
    rw [e];exact⟨hab,Rat.le_refl⟩
  · have:=stretch_in (s:=sl a b) (k:=y) (x:=alE a b y) hab hs (by unfold alE;rw [Rat.add_comm]) h0 (by grind)
    exact⟨this.1,Rat.le_of_lt this.2⟩
theorem sm_rch{c:List Pt}(hc:Valid c){lv x:Rat}{f:Bool}{e:Int}(h:rch c lv f=(some x,e)):sm x∧e=0∧(at' c 0).1≤x∧x≤(at' c (c.length - 1)).1:=by
  rcases rch_cases c lv f with h1|⟨h1,h2⟩|⟨i,h1,h2,h3⟩
  · rw [rch_none h1] at h;cases h
  · rw [rch_zero h1 h2] at h;cases h
    exact⟨(hc.sm 0 h1).1,rfl,Rat.le_refl,hc.asc.le (by omega) (by omega)⟩
  · rw [rch_succ h1 h2 h3] at h
    split at h
    · rename_i ho
      cases h
      obtain⟨k1,k2,k3⟩:=rchd_y (h2 i (by omega)) h3
      have hin:=alE_in (y:=lv) (hc.up i h1) (by cases f<;>simp_all)
      have l1:=hc.asc.le (i:=0) (j:=i) (by omega) (by omega)
      have l2:=hc.asc.le (i:=i+1) (j:=c.length - 1) (by omega) (by omega)
      exact⟨ho.2.2,rfl,by grind,by grind⟩
    · cases h
theorem rch_code(c:List Pt)(lv:Rat)(f:Bool):(∃ x,rch c lv f=(some x,0))∨rch c lv f=(none,8)∨rch c lv f=(none,12):=by
  rcases rch_cases c lv f with h1|⟨h1,h2⟩|⟨i,h1,h2,h3⟩
  · exact .inr (.inr (rch_none h1))
  · exact .inl ⟨_,rch_zero h1 h2⟩
  · rw [rch_succ h1 h2 h3]
    split
    · exact .inl ⟨_,rfl⟩
    · exact .inr (.inl rfl)
/-- the curve of a part, the dip of an event -/
def cvP(a:ActR)(i:Nat):Option (List Pt):=curP a 13 i
def prtN(a:ActR)(x:EvR):Nat:=(fidx (isP x.part) a.parts).toNat
def evtP(a:ActR)(i:Nat):Option Rat×Int:=
  match cvP a (prtN a (a.evs.getD i e0)) with
  |none=>(none,8)
  |some c=>rch c ((a.evs.getD i e0).lev:Rat) (a.evs.getD i e0).fall
theorem evtP_code(a:ActR)(i:Nat):(∃ x,evtP a i=(some x,0))∨evtP a i=(none,8)∨evtP a i=(none,12):=by
  unfold evtP
  split
  · exact .inr (.inl rfl)
  · exact rch_code _ _ _
/-- what the events of a right action are -/
theorem acErr_evs {a:ActR} (h:acErr a=0):a.evs.length≤20∧(∀ i,i<a.evs.length→evErrAt a i=0)∧ldsErr a.leads=0:=by
  unfold acErr at h
  split at h
  · simp at h
  · split at h
    · simp at h
    · split at h
      · contradiction
      · split at h
        · simp at h
        · split at h
          · contradiction
          · rename_i h1 h2
            exact⟨by omega,firstE_zero.1 (by simpa using h2),h⟩
theorem evErrAt_zero {a:ActR} {i:Nat} (h:evErrAt a i=0):nameP (a.evs.getD i e0).name∧fidx (isE (a.evs.getD i e0).name) (a.evs.take i)<0∧0≤fidx (isP (a.evs.getD i e0).part) a.parts∧(-10000≤(a.evs.getD i e0).lev∧(a.evs.getD i e0).lev≤10000):=by
  unfold evErrAt at h
  simp only at h
  split at h
  · simp at h
  · split at h
    · simp at h
    · split at h
      · simp at h
      · split at h
        · simp at h
        · rename_i h1 h2 h3 h4
          exact⟨Classical.not_not.1 h1,by omega,by omega,by omega⟩
theorem prtN_lt{a:ActR}{i:Nat}(h:evErrAt a i=0):prtN a (a.evs.getD i e0)<a.parts.length∧fidx (isP (a.evs.getD i e0).part) a.parts=(prtN a (a.evs.getD i e0):Int):=by
  obtain⟨_,_,h3,_⟩:=evErrAt_zero h
  have:=fidx_bd (isP (a.evs.getD i e0).part) a.parts
  unfold prtN
  omega
theorem compP_ends{o c l:List Pt}(hc:Valid c)(h:compP o c=some l):(at' l 0).1=(at' c 0).1∧(at' l (l.length - 1)).1=(at' c (c.length - 1)).1:=by
  obtain⟨_,h2,_,_⟩:=compP_some h
  subst h2
  have hp:=hc.pos
  have hd:∀ n,(cmpL o c (n+1))[0]?=some (valK o c 0):=by
    intro n
    induction n with
    |zero=>simp [cmpL]
    | succ n ih=>
      show(cmpL o c (n+1)++_)[0]?=_
      have hlt:0<(cmpL o c (n+1)).length:=(List.getElem?_eq_some_iff.1 ih).1
      rw [List.getElem?_append_left hlt,ih]
  obtain⟨n,hn⟩:∃ n,c.length=n+1:=⟨c.length - 1,by omega⟩
  rw [hn]
  refine⟨?_,?_⟩
  · unfold at'
    rw [List.getD_eq_getElem?_getD,hd n];rfl
  · have:cmpL o c (n+1)=cmpL o c n++[valK o c n]:=by
      show cmpL o c n++valK o c n::_=_
      rw [if_neg (by omega)]
    rw [this]
    unfold at'
    rw [List.getD_eq_getElem?_getD]
    simp [valK,at']
/-- a part's curve goes from 0 to the dip -/
theorem curP_ends {a:ActR} (h:PtsOk a):∀ {n i:Nat} {l:List Pt},i<a.parts.length→curP a n i=some l→(at' l 0).1=0∧(at' l (l.length - 1)).1=(a.dip:Rat)
  |0,i,l,_,hl=>by simp [curP] at hl
  | n + 1,i,l,hi,hl=>by
    unfold curP at hl
    by_cases hd:(a.parts.getD i p0).driver=[]
    · rw [if_pos hd] at hl
      exact compP_ends (dipC_valid h) hl
    · rw [if_neg hd] at hl
      cases hc:curP a n (drv a (a.parts.getD i p0)) with
      |none=>rw [hc] at hl;cases hl
      | some d=>
        rw [hc] at hl
        have hlt:=(drv_lt h hi hd).1
        have ih:=curP_ends h (n:=n) (i:=drv a (a.parts.getD i p0)) (by omega) hc
        have hv:=curP_valid h (n:=n) (i:=drv a (a.parts.getD i p0)) (by omega) hc
        have:=compP_ends hv (show compP _ d=some l from hl)
        rw [this.1,this.2]
        exact ih
theorem cvP_valid{a:ActR}(h:PtsOk a){i:Nat}{l:List Pt}(hi:i<a.parts.length)(hl:cvP a i=some l):Valid l:=curP_valid h hi hl
theorem evtP_sm{a:ActR}(h:acErr a=0){i:Nat}{x:Rat}{e:Int}(hi:i<a.evs.length)(hx:evtP a i=(some x,e)):sm x∧e=0∧0≤x∧x≤(a.dip:Rat):=by
  have hp:=acErr_pts h
  obtain⟨_,h2,_⟩:=acErr_evs h
  have hl:=(prtN_lt (h2 i hi)).1
  unfold evtP at hx
  split at hx
  · cases hx
  · rename_i c hc
    obtain⟨q1,q2,q3,q4⟩:=sm_rch (cvP_valid hp hl hc) hx
    obtain⟨e1,e2⟩:=curP_ends hp hl hc
    rw [e1] at q3
    rw [e2] at q4
    exact⟨q1,q2,q3,q4⟩
end Go.Proofs.YtomkbpoicjabfaaGreatDoor
