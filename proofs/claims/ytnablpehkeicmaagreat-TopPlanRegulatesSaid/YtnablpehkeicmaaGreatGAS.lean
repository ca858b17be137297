import Derived.Test.YtnablpehkeicmaaGreatGAR
import Derived.Test.YtnablpehkeicmaaGreatGAE
set_option linter.unusedSimpArgs false
set_option linter.unusedVariables false
/- where a curve reaches a level; the dips of events -/
namespace Go.Proofs.YtnablpehkeicmaaGreat
def rchd(f:Bool)(lv:Rat)(p:Pt):Bool:=if f then decide (p.2≤lv) else decide (lv≤p.2)
/-- the place, or the error -/
def rch(c:List Pt)(lv:Rat)(f:Bool):Option Rat×Int:=
  match c.findIdx? (rchd f lv) with
  |none=>(none,12)
  |some 0=>(some (at' c 0).1,0)
  |some (i+1)=>if alOk (at' c i) (at' c (i+1)) lv then (some (alE (at' c i) (at' c (i+1)) lv),0) else (none,8)
theorem find_some{α:Type}{f:α→Bool}{l:List α}{d:α}{i:Nat}(hi:i<l.length)(h0:∀ j,j<i→f (l.getD j d)=false)(h:f (l.getD i d)=true):l.findIdx? f=some i:=by
  rw [List.findIdx?_eq_some_iff_getElem]
  have hg:∀ j (hj:j<l.length),l[j]=l.getD j d:=fun j hj=>by rw [List.getD_eq_getElem?_getD,List.getElem?_eq_getElem hj];rfl
  refine⟨hi,by rw [hg i hi];exact h,fun j hj=>?_⟩
  rw [hg j (by omega),h0 j hj];simp
theorem find_none{α:Type}{f:α→Bool}{l:List α}{d:α}(h0:∀ j,j<l.length→f (l.getD j d)=false):l.findIdx? f=none:=by
  rw [List.findIdx?_eq_none_iff]
  intro x hx
  obtain⟨j,hj,rfl⟩:=List.getElem_of_mem hx
  have:=h0 j hj
  rw [List.getD_eq_getElem?_getD,List.getElem?_eq_getElem hj] at this
  exact this
theorem rch_none{c:List Pt}{lv:Rat}{f:Bool}(h:∀ j,j<c.length→rchd f lv (at' c j)=false):rch c lv f=(none,12):=by
  unfold rch;rw [find_none (d:=(0,0)) h]
theorem rch_zero{c:List Pt}{lv:Rat}{f:Bool}(hp:0<c.length)(h:rchd f lv (at' c 0)=true):rch c lv f=(some (at' c 0).1,0):=by
  unfold rch;rw [find_some (d:=(0,0)) hp (fun j h=>absurd h (Nat.not_lt_zero _)) h]
theorem rch_succ{c:List Pt}{lv:Rat}{f:Bool}{i:Nat}(hi:i+1<c.length)(h0:∀ j,j<i+1→rchd f lv (at' c j)=false)(h:rchd f lv (at' c (i+1))=true):rch c lv f=if alOk (at' c i) (at' c (i+1)) lv then (some (alE (at' c i) (at' c (i+1)) lv),0) else (none,8):=by
  unfold rch;rw [find_some (d:=(0,0)) hi h0 h]
/-- the cases -/
theorem rch_cases(c:List Pt)(lv:Rat)(f:Bool):(∀ j,j<c.length→rchd f lv (at' c j)=false)∨(0<c.length∧rchd f lv (at' c 0)=true)∨∃ i,i+1<c.length∧(∀ j,j<i+1→rchd f lv (at' c j)=false)∧rchd f lv (at' c (i+1))=true:=by
  rcases fidx_cases (rchd f lv) c (0,0) with ⟨_,h⟩|⟨i,h1,_,h2,h3⟩
  · exact .inl h
  · rcases i with _|i
    · exact .inr (.inl ⟨h1,h2⟩)
    · exact .inr (.inr ⟨i,h1,h3,h2⟩)
theorem rch_fidx{c:List Pt}{lv:Rat}{f:Bool}{i:Nat}(hi:i<c.length)(h0:∀ j,j<i→rchd f lv (at' c j)=false)(h:rchd f lv (at' c i)=true):fidx (rchd f lv) c=(i:Int):=fidx_at (d:=(0,0)) hi h0 h
theorem rchd_y{f:Bool}{lv:Rat}{p q:Pt}(h1:rchd f lv p=false)(h2:rchd f lv q=true):p.2≠q.2∧(f=false→p.2<lv∧lv≤q.2)∧(f=true→q.2≤lv∧lv<p.2):=by
  unfold rchd at h1 h2
  cases f with
  | false=>
    simp only [Bool.false_eq_true,if_false,decide_eq_false_iff_not,decide_eq_true_eq] at h1 h2
    refine⟨by intro e;rw [e] at h1;exact h1 h2,fun _=>⟨Rat.not_le.1 h1,h2⟩,fun h=>(by cases h)⟩
  | true=>
    simp only [if_true,decide_eq_false_iff_not,decide_eq_true_eq] at h1 h2
    refine⟨by intro e;rw [e] at h1;exact h1 h2,fun h=>(by cases h),fun _=>⟨h2,Rat.not_le.1 h1⟩⟩
theorem sl_mul{a b:Pt}(hab:a.1<b.1):sl a b*(b.1 - a.1)=b.2 - a.2:=by
  unfold sl;rw [Rat.div_mul_cancel (sub_ne hab)]
/-- the place between two corners -/
theorem alE_in{a b:Pt}{y:Rat}(hab:a.1<b.1)(h:a.2<y∧y≤b.2∨b.2≤y∧y<a.2):a.1<alE a b y∧alE a b y≤b.1:=by
  have hn:a.2≠b.2:=by grind
  have h0:=sl_ne hab hn
  have hs:=sl_mul hab
  by_cases hy:y=b.2
  · have e:alE a b y=b.1:=by
      unfold alE
      rw [hy,←hs]
      have:sl a b*(b.1 - a.1) / sl a b=b.1 - a.1:=by rw [Rat.mul_comm,Rat.mul_div_cancel h0]
      rw [this];grind
    rw [e];exact⟨hab,Rat.le_refl⟩
  · have:=stretch_in (s:=sl a b) (k:=y) (x:=alE a b y) hab hs (by unfold alE;rw [Rat.add_comm]) h0 (by grind)
    exact⟨this.1,Rat.le_of_lt this.2⟩
theorem sm_rch{c:List Pt}(hc:Valid c){lv x:Rat}{f:Bool}{e:Int}(h:rch c lv f=(some x,e)):sm x∧e=0∧(at' c 0).1≤x∧x≤(at' c (c.length - 1)).1:=by
  rcases rch_cases c lv f with h1|⟨h1,h2⟩|⟨i,h1,h2,h3⟩
  · rw [rch_none h1] at h;cases h
  · rw [rch_zero h1 h2] at h;cases h
    exact⟨(hc.sm 0 h1).1,rfl,Rat.le_refl,hc.asc.le (by omega) (by omega)⟩
  · rw [rch_succ h1 h2 h3] at h
    split at h
    · rename_i ho
      cases h
      obtain⟨k1,k2,k3⟩:=rchd_y (h2 i (by omega)) h3
      have hin:=alE_in (y:=lv) (hc.up i h1) (by cases f<;>simp_all)
      have l1:=hc.asc.le (i:=0) (j:=i) (by omega) (by omega)
      have l2:=hc.asc.le (i:=i+1) (j:=c.length - 1) (by omega) (by omega)
      exact⟨ho.2.2,rfl,by grind,by grind⟩
    · cases h
theorem rch_code(c:List Pt)(lv:Rat)(f:Bool):(∃ x,rch c lv f=(some x,0))∨rch c lv f=(none,8)∨rch c lv f=(none,12):=by
  rcases rch_cases c lv f with h1|⟨h1,h2⟩|⟨i,h1,h2,h3⟩
  · exact .inr (.inr (rch_none h1))
  · exact .inl ⟨_,rch_zero h1 h2⟩
  · rw [rch_succ h1 h2 h3]
    split
    · exact .inl ⟨_,rfl⟩
    · exact .inr (.inl rfl)
/-- the curve of a part, the dip of an event -/
def cvP(a:ActR)(i:Nat):Option (List Pt):=curP a 13 i
def prtN(a:ActR)(x:EvR):Nat:=(fidx (isP x.part) a.parts).toNat
def evtP(a:ActR)(i:Nat):Option Rat×Int:=
  match cvP a (prtN a (a.evs.getD i e0)) with
  |none=>(none,8)
  |some c=>rch c ((a.evs.getD i e0).lev:Rat) (a.evs.getD i e0).fall
theorem evtP_code(a:ActR)(i:Nat):(∃ x,evtP a i=(some x,0))∨evtP a i=(none,8)∨evtP a i=(none,12):=by
  unfold evtP
  split
  · exact .inr (.inl rfl)
  · exact rch_code _ _ _
/-- what the events of a right action are -/
theorem acErr_evs {a:ActR} (h:acErr a=0):a.evs.length≤20∧(∀ i,i<a.evs.length→evErrAt a i=0)∧ldsErr a.leads=0:=by
  unfold acErr at h
  split at h
  · simp at h
  · split at h
    · simp at h
    · split at h
      · contradiction
      · split at h
        · simp at h
        · split at h
          · contradiction
          · rename_i h1 h2
            exact⟨by omega,firstE_zero.1 (by simpa using h2),h⟩
theorem evErrAt_zero {a:ActR} {i:Nat} (h:evErrAt a i=0):namePA (a.evs.getD i e0).name∧fidx (isE (a.evs.getD i e0).name) (a.evs.take i)<0∧0≤fidx (isP (a.evs.getD i e0).part) a.parts∧(-10000≤(a.evs.getD i e0).lev∧(a.evs.getD i e0).lev≤10000):=by
  unfold evErrAt at h
  simp only at h
  split at h
  · simp at h
  · split at h
    · simp at h
    · split at h
      · simp at h
      · split at h
        · simp at h
        · rename_i h1 h2 h3 h4
          exact⟨Classical.not_not.1 h1,by omega,by omega,by omega⟩
theorem prtN_lt{a:ActR}{i:Nat}(h:evErrAt a i=0):prtN a (a.evs.getD i e0)<a.parts.length∧fidx (isP (a.evs.getD i e0).part) a.parts=(prtN a (a.evs.getD i e0):Int):=by
  obtain⟨_,_,h3,_⟩:=evErrAt_zero h
  have:=fidx_bd (isP (a.evs.getD i e0).part) a.parts
  unfold prtN
  omega
theorem compP_ends{o c l:List Pt}(hc:Valid c)(h:compP o c=some l):(at' l 0).1=(at' c 0).1∧(at' l (l.length - 1)).1=(at' c (c.length - 1)).1:=by
  obtain⟨_,h2,_,_⟩:=compP_some h
  subst h2
  have hp:=hc.pos
  have hd:∀ n,(cmpL o c (n+1))[0]?=some (valKA o c 0):=by
    intro n
    induction n with
    |zero=>simp [cmpL]
    | succ n ih=>
      show(cmpL o c (n+1)++_)[0]?=_
      have hlt:0<(cmpL o c (n+1)).length:=(List.getElem?_eq_some_iff.1 ih).1
      rw [List.getElem?_append_left hlt,ih]
  obtain⟨n,hn⟩:∃ n,c.length=n+1:=⟨c.length - 1,by omega⟩
  rw [hn]
  refine⟨?_,?_⟩
  · unfold at'
    rw [List.getD_eq_getElem?_getD,hd n];rfl
  · have:cmpL o c (n+1)=cmpL o c n++[valKA o c n]:=by
      show cmpL o c n++valKA o c n::_=_
      rw [if_neg (by omega)]
    rw [this]
    unfold at'
    rw [List.getD_eq_getElem?_getD]
    simp [valKA,at']
/-- a part's curve goes from 0 to the dip -/
theorem curP_ends {a:ActR} (h:PtsOk a):∀ {n i:Nat} {l:List Pt},i<a.parts.length→curP a n i=some l→(at' l 0).1=0∧(at' l (l.length - 1)).1=(a.dip:Rat)
  |0,i,l,_,hl=>by simp [curP] at hl
  | n + 1,i,l,hi,hl=>by
    unfold curP at hl
    by_cases hd:(a.parts.getD i p0).driver=[]
    · rw [if_pos hd] at hl
      exact compP_ends (dipC_valid h) hl
    · rw [if_neg hd] at hl
      cases hc:curP a n (drv a (a.parts.getD i p0)) with
      |none=>rw [hc] at hl;cases hl
      | some d=>
        rw [hc] at hl
        have hlt:=(drv_lt h hi hd).1
        have ih:=curP_ends h (n:=n) (i:=drv a (a.parts.getD i p0)) (by omega) hc
        have hv:=curP_valid h (n:=n) (i:=drv a (a.parts.getD i p0)) (by omega) hc
        have:=compP_ends hv (show compP _ d=some l from hl)
        rw [this.1,this.2]
        exact ih
theorem cvP_valid{a:ActR}(h:PtsOk a){i:Nat}{l:List Pt}(hi:i<a.parts.length)(hl:cvP a i=some l):Valid l:=curP_valid h hi hl
theorem evtP_sm{a:ActR}(h:acErr a=0){i:Nat}{x:Rat}{e:Int}(hi:i<a.evs.length)(hx:evtP a i=(some x,e)):sm x∧e=0∧0≤x∧x≤(a.dip:Rat):=by
  have hp:=acErr_pts h
  obtain⟨_,h2,_⟩:=acErr_evs h
  have hl:=(prtN_lt (h2 i hi)).1
  unfold evtP at hx
  split at hx
  · cases hx
  · rename_i c hc
    obtain⟨q1,q2,q3,q4⟩:=sm_rch (cvP_valid hp hl hc) hx
    obtain⟨e1,e2⟩:=curP_ends hp hl hc
    rw [e1] at q3
    rw [e2] at q4
    exact⟨q1,q2,q3,q4⟩
end Go.Proofs.YtnablpehkeicmaaGreat
namespace Go.Proofs.YtnablpehkeicmaaGreat
open Go.RowKit
abbrev Hp:=Nat×Rat
def hp0:Hp:=(0,0)
def hpV(h:Hp):List V:=[.int .i64 (h.1:Int),.int .i64 h.2.num,.int .i64 (h.2.den:Int)]
def hpsV(l:List Hp):List (List V):=l.map hpV
end Go.Proofs.YtnablpehkeicmaaGreat
namespace Go.Proofs.YtnablpehkeicmaaGreat
end Go.Proofs.YtnablpehkeicmaaGreat
namespace Go.Proofs.YtnablpehkeicmaaGreat
open Go.RowKit
theorem den_ne(q:Rat):((q.den:Int):Rat)≠0:=by
  have:=den_pos' q
  intro h
  have h2:=Rat.intCast_inj.1 (h.trans (by rfl:(0:Rat)=((0:Int):Rat)))
  omega
theorem num_mul(q:Rat):q*((q.den:Int):Rat)=(q.num:Rat):=by
  have h:q=(q.num:Rat) / ((q.den:Int):Rat):=by
    have:=Rat.divInt_eq_div q.num (q.den:Int)
    rw [fit_of] at this
    exact this
  have h2:=den_ne q
  have h3:(q.num:Rat) / ((q.den:Int):Rat)*((q.den:Int):Rat)=(q.num:Rat):=Rat.div_mul_cancel h2
  rw [←h] at h3
  exact h3
/-- p is less than q and a whole gap -/
theorem near_iff(p q:Rat)(g:Int):p.num*(q.den:Int)<(q.num+g*(q.den:Int))*(p.den:Int)↔p<q+(g:Rat):=by
  have hp:=num_mul p
  have hq:=num_mul q
  have b0:(0:Rat)<((p.den:Int):Rat):=by
    have:=(Rat.intCast_lt_intCast (a:=0) (b:=(p.den:Int))).2 (by have:=den_pos' p;omega)
    simpa using this
  have d0:(0:Rat)<((q.den:Int):Rat):=by
    have:=(Rat.intCast_lt_intCast (a:=0) (b:=(q.den:Int))).2 (by have:=den_pos' q;omega)
    simpa using this
  rw [←Rat.intCast_lt_intCast,Rat.intCast_mul,Rat.intCast_mul,Rat.intCast_add,Rat.intCast_mul]
  generalize ((p.den:Int):Rat)=b at*
  generalize ((q.den:Int):Rat)=d at*
  rw [←hp,←hq]
  have e1:p*b*d=p*(b*d):=by grind
  have e2:(q*d+(g:Rat)*d)*b=(q+(g:Rat))*(b*d):=by grind
  rw [e1,e2]
  exact Rat.mul_lt_mul_right (Rat.mul_pos b0 d0)
/-- is a dip nearer to the one before than the gap -/
def tn(p q:Rat)(g:Int):Bool:=decide (p<q+(g:Rat))
/-! the first one that is wrong, with its number -/
def firstP(f:Nat→Int):Nat→Int×Int
  |0=>(0,0)
  |n+1=>if (firstP f n).2≠0 then firstP f n else if f n≠0 then ((n:Int),f n) else (0,0)
theorem firstP_zero{f:Nat→Int}:∀ {n:Nat},(∀ i,i<n→f i=0)→firstP f n=(0,0)
  |0,_=>rfl
  | n+1,h=>by
    simp only [firstP]
    rw [firstP_zero fun i hi=>h i (by omega),if_neg (by decide),if_neg (by simpa using h n (by omega))]
theorem firstP_at{f:Nat→Int}{i:Nat}{e:Int}(h0:∀ j,j<i→f j=0)(h:f i=e)(he:e≠0):∀ {n:Nat},i<n→firstP f n=((i:Int),e)
  |0,hi=>by omega
  | n +1,hi=>by
    simp only [firstP]
    rcases Nat.lt_or_ge i n with h1|h1
    · rw [firstP_at h0 h he h1,if_pos he]
    · have e1:i=n:=by omega
      subst e1
      rw [firstP_zero h0,if_neg (by decide),if_pos (by rw [h];exact he),h]
/-- names of events -/
abbrev Nms:=List (List UInt8)
def nmAt(o:Nms)(i:Nat):List UInt8:=o.getD i []
def enI(a:ActR)(s:List UInt8):Int:=fidx (isE s) a.evs
def enN(a:ActR)(s:List UInt8):Nat:=(enI a s).toNat
def onErrAt(a:ActR)(o:Nms)(i:Nat):Int:=if enI a (nmAt o i)<0 then 6 else if nmAt o i∈o.take i then 5 else 0
def odDip(a:ActR)(o:Nms)(i:Nat):Rat:=(evtP a (enN a (nmAt o i))).1.getD 0
def odErrAt(a:ActR)(o:Nms)(g:Int)(i:Nat):Int:=match evtP a (enN a (nmAt o i)) with
  |(none,e)=>e
  |(some x,_)=>if 0<i∧tn x (odDip a o (i - 1)) g=true then 9 else 0
/-- the error of an order -/
def odErr(a:ActR)(o:Nms)(g:Int):Int×Int:=
  if 20<o.length then (0,8) else if (firstP (onErrAt a o) o.length).2≠0 then firstP (onErrAt a o) o.length else if ¬ (0≤g∧g≤2000) then (0,2) else firstP (odErrAt a o g) o.length
end Go.Proofs.YtnablpehkeicmaaGreat
namespace Go.Proofs.YtnablpehkeicmaaGreat
def lvB:List UInt8:=[108,101,118,101,114]
def lvP:PartR:=⟨lvB,[],[((0,1),(0,1)),((2000,1),(2000,1))],0,0⟩
def lvA(ms:List (List UInt8×Int)):ActR:=⟨2000,[lvP],ms.map fun m=>⟨m.1,lvB,m.2,false⟩,[]⟩
theorem lv_cv(ms:List (List UInt8×Int)):cvP (lvA ms) 0=some [(0,0),(2000,2000)]:=by
  have e:cvP (lvA ms) 0=cvP (lvA []) 0:=rfl
  rw [e]
  decide +kernel
theorem lv_rch{v:Int}(h:1≤v∧v≤2000):rch [(0,0),(2000,2000)] (v:Rat) false=(some (v:Rat),0):=by
  have h1:¬ ((v:Rat)≤0):=by
    intro q
    have:v≤0:=Rat.intCast_le_intCast.1 q
    omega
  have h2:(v:Rat)≤2000:=Rat.intCast_le_intCast (b:=2000).2 h.2
  have hs:sl ((0:Rat),(0:Rat)) (2000,2000)=1:=by decide +kernel
  have hf:[((0:Rat),(0:Rat)),(2000,2000)].findIdx? (rchd false (v:Rat))=some 1:=by
    have e0:rchd false (v:Rat) ((0:Rat),(0:Rat))=false:=decide_eq_false h1
    have e1:rchd false (v:Rat) ((2000:Rat),(2000:Rat))=true:=decide_eq_true h2
    rw [List.findIdx?_cons,e0,List.findIdx?_cons,e1]
    rfl
  have hz:(v:Rat) - 0=v:=by grind
  have hd:(v:Rat) / 1=v:=by grind
  have ha:(0:Rat)+v=v:=by grind
  have hsv:=sm_int (n:=v) (by omega)
  unfold rch
  rw [hf]
  show(if alOk ((0:Rat),(0:Rat)) (2000,2000) (v:Rat) then (some (alE ((0:Rat),(0:Rat)) (2000,2000) (v:Rat)),(0:Int)) else (none,8))=_
  have h3:alOk ((0:Rat),(0:Rat)) (2000,2000) (v:Rat):=by
    unfold alOk
    rw [hs]
    simp only [hz,hd,ha]
    exact⟨hsv,hsv,hsv⟩
  rw [if_pos h3]
  unfold alE
  rw [hs]
  simp only [hz,hd,ha]
theorem lv_evt(ms:List (List UInt8×Int)){i:Nat}(hi:i<ms.length)(h:1≤(ms.getD i ([],0)).2∧(ms.getD i ([],0)).2≤2000):evtP (lvA ms) i=(some (((ms.getD i ([],0)).2:Int):Rat),0):=by
  have he:(lvA ms).evs.getD i e0=⟨(ms.getD i ([],0)).1,lvB,(ms.getD i ([],0)).2,false⟩:=by
    simp [lvA,List.getD_eq_getElem?_getD,List.getElem?_eq_getElem hi]
  unfold evtP
  rw [he]
  have hp:prtN (lvA ms) ⟨(ms.getD i ([],0)).1,lvB,(ms.getD i ([],0)).2,false⟩=0:=by
    show(fidx (isP lvB) [lvP]).toNat=0
    decide
  rw [hp,lv_cv]
  exact lv_rch h
theorem lv_ev(ms:List (List UInt8×Int)){i:Nat}(hi:i<ms.length):(lvA ms).evs.getD i e0=⟨(ms.getD i ([],0)).1,lvB,(ms.getD i ([],0)).2,false⟩:=by
  simp [lvA,List.getD_eq_getElem?_getD,List.getElem?_eq_getElem hi]
/-- the names of measures that differ are found where they stand -/
theorem lv_idx{ms:List (List UInt8×Int)}(hd:∀ i j,i<j→j<ms.length→(ms.getD i ([],0)).1≠(ms.getD j ([],0)).1){i:Nat}(hi:i<ms.length):fidx (isE (ms.getD i ([],0)).1) (lvA ms).evs=i:=by
  refine fidx_at (d:=e0) (by simpa [lvA] using hi) (fun j hj=>?_) ?_
  · rw [lv_ev ms (by omega)]
    exact decide_eq_false (hd j i hj hi)
  · rw [lv_ev ms hi]
    exact decide_eq_true rfl
theorem lv_new{ms:List (List UInt8×Int)}(hd:∀ i j,i<j→j<ms.length→(ms.getD i ([],0)).1≠(ms.getD j ([],0)).1){i:Nat}(hi:i<ms.length):fidx (isE (ms.getD i ([],0)).1) ((lvA ms).evs.take i)= -1:=by
  have hl:((lvA ms).evs.take i).length=i:=by rw [List.length_take];simp [lvA];omega
  rcases fidx_cases (isE (ms.getD i ([],0)).1) ((lvA ms).evs.take i) e0 with h|⟨k,h1,h2,h3, -⟩
  · exact h.1
  · rw [hl] at h1
    have e:((lvA ms).evs.take i).getD k e0=(lvA ms).evs.getD k e0:=by
      rw [List.getD_eq_getElem?_getD,List.getD_eq_getElem?_getD,List.getElem?_take_of_lt h1]
    rw [e,lv_ev ms (by omega)] at h3
    exact absurd (of_decide_eq_true h3) (hd k i h1 hi)
theorem lv_ac{ms:List (List UInt8×Int)}(h20:ms.length≤20)(hn:∀ i,i<ms.length→namePA (ms.getD i ([],0)).1)(hd:∀ i j,i<j→j<ms.length→(ms.getD i ([],0)).1≠(ms.getD j ([],0)).1)(hv:∀ i,i<ms.length→ -10000≤(ms.getD i ([],0)).2∧(ms.getD i ([],0)).2≤10000):acErr (lvA ms)=0:=by
  have hp:firstE (ptErrAt (lvA ms).parts) (lvA ms).parts.length=0:=by
    show firstE (ptErrAt [lvP]) 1=0
    decide +kernel
  have he:firstE (evErrAt (lvA ms)) (lvA ms).evs.length=0:=by
    refine firstE_zero.2 fun i hi=>?_
    have hi:i<ms.length:=by simpa [lvA] using hi
    have hf:fidx (isP lvB) [lvP]=0:=by decide
    unfold evErrAt
    rw [lv_ev ms hi]
    dsimp only
    rw [if_neg (fun q=>q (hn i hi)),lv_new hd hi,if_neg (by decide),show(lvA ms).parts=[lvP] from rfl,hf,if_neg (by decide),if_neg (fun q=>q (hv i hi))]
  have hl:(lvA ms).evs.length=ms.length:=by simp [lvA]
  unfold acErr
  rw [if_neg (show ¬ ¬ (1≤(lvA ms).dip∧(lvA ms).dip≤2000) from fun q=>q (show(1:Int)≤2000∧(2000:Int)≤2000 from⟨by decide,by decide⟩)),if_neg (show ¬ 12<(lvA ms).parts.length from by show ¬ 12<1;decide),if_neg (fun q=>q hp),if_neg (by omega),if_neg (fun q=>q he)]
  rfl
/-- levels that follow each other with a gap are an order that is right -/
theorem lv_ord{ms:List (List UInt8×Int)}{g:Int}(h20:ms.length≤20)(hd:∀ i j,i<j→j<ms.length→(ms.getD i ([],0)).1≠(ms.getD j ([],0)).1)(hv:∀ i,i<ms.length→1≤(ms.getD i ([],0)).2∧(ms.getD i ([],0)).2≤2000)(hg:0≤g∧g≤2000)(hs:∀ i,i+1<ms.length→(ms.getD i ([],0)).2+g≤(ms.getD (i+1) ([],0)).2):odErr (lvA ms) (ms.map (·.1)) g=(0,0):=by
  have hnm:∀ i,i<ms.length→nmAt (ms.map (·.1)) i=(ms.getD i ([],0)).1:=fun i hi=>by
    simp [nmAt,List.getD_eq_getElem?_getD,List.getElem?_eq_getElem hi]
  have hen:∀ i,i<ms.length→enI (lvA ms) (nmAt (ms.map (·.1)) i)=i:=fun i hi=>by
    unfold enI
    rw [hnm i hi,lv_idx hd hi]
  have hev:∀ i,i<ms.length→evtP (lvA ms) (enN (lvA ms) (nmAt (ms.map (·.1)) i))=(some (((ms.getD i ([],0)).2:Int):Rat),0):=fun i hi=>by
    unfold enN
    rw [hen i hi,Int.toNat_natCast]
    exact lv_evt ms hi (hv i hi)
  have h1:firstP (onErrAt (lvA ms) (ms.map (·.1))) (ms.map (·.1)).length=(0,0):=by
    refine firstP_zero fun i hi=>?_
    rw [List.length_map] at hi
    unfold onErrAt
    rw [hen i hi,if_neg (by omega),if_neg]
    intro hm
    rw [hnm i hi] at hm
    obtain⟨k,hk,e⟩:=List.getElem_of_mem hm
    rw [List.length_take,List.length_map] at hk
    rw [List.getElem_take,List.getElem_map] at e
    have:=hd k i (by omega) hi
    rw [List.getD_eq_getElem?_getD,List.getElem?_eq_getElem (by omega)] at this
    exact this e
  unfold odErr
  rw [if_neg (by rw [List.length_map];omega),if_neg (by rw [h1];exact fun q=>q rfl),if_neg (fun q=>q hg)]
  refine firstP_zero fun i hi=>?_
  rw [List.length_map] at hi
  unfold odErrAt
  rw [hev i hi]
  dsimp only
  rw [if_neg]
  rintro⟨h0,ht⟩
  unfold odDip at ht
  rw [hev (i - 1) (by omega)] at ht
  unfold tn at ht
  have ht:=of_decide_eq_true ht
  have h3:=hs (i - 1) (by omega)
  rw [show i - 1+1=i by omega] at h3
  have h4:=Rat.intCast_le_intCast.2 h3
  rw [Rat.intCast_add] at h4
  simp only [Option.getD_some] at ht
  grind
/-- the measures' names and values behind steps -/
def lvM(b:BnR)(l:List Int):List (List UInt8×Int):=(List.range b.ms.length).map fun i=>((b.ms.getD i msz).name,valP b l i)
theorem lvM_len(b:BnR)(l:List Int):(lvM b l).length=b.ms.length:=by simp [lvM]
theorem lvM_get{b:BnR}{l:List Int}{i:Nat}(h:i<b.ms.length):(lvM b l).getD i ([],0)=((b.ms.getD i msz).name,valP b l i):=by
  unfold lvM
  rw [List.getD_eq_getElem?_getD,List.getElem?_map,List.getElem?_range h]
  rfl
theorem in_tol{b:BnR}{l:List Int}(h:brkP b l b.ms.length=[]){i:Nat}(hi:i<b.ms.length):(b.ms.getD i msz).low≤valP b l i∧valP b l i≤(b.ms.getD i msz).high:=by
  have:=List.filter_eq_nil_iff.1 h i (List.mem_range.2 hi)
  unfold brkB at this
  simpa using this
/-- tolerances that follow each other with a gap: whatever lies within them does so, too -/
theorem plan_ord{b:BnR}{l:List Int}{g:Int}(h20:b.ms.length≤20)(hd:∀ i j,i<j→j<b.ms.length→(b.ms.getD i msz).name≠(b.ms.getD j msz).name)(hb:brkP b l b.ms.length=[])(hg:0≤g∧g≤50)(ht:∀ i,i<b.ms.length→1≤(b.ms.getD i msz).low∧(b.ms.getD i msz).high≤2000)(hs:∀ i,i+1<b.ms.length→(b.ms.getD i msz).high+g≤(b.ms.getD (i+1) msz).low):odErr (lvA (lvM b l)) ((lvM b l).map (·.1)) g=(0,0):=by
  have hl:=lvM_len b l
  refine lv_ord (by omega) (fun i j hij hj=>?_) (fun i hi=>?_) (by omega) fun i hi=>?_
  · rw [lvM_get (by omega),lvM_get (by omega)]
    exact hd i j hij (by omega)
  · rw [lvM_get (by omega)]
    have h1:=in_tol hb (i:=i) (by omega)
    have h2:=ht i (by omega)
    exact⟨by dsimp only;omega,by dsimp only;omega⟩
  · rw [lvM_get (by omega),lvM_get (by omega)]
    have h1:=in_tol hb (i:=i) (by omega)
    have h2:=in_tol hb (i:=i+1) (by omega)
    have h3:=hs i (by omega)
    dsimp only
    omega
end Go.Proofs.YtnablpehkeicmaaGreat
