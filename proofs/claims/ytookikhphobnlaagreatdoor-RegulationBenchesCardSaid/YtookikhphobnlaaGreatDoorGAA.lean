import Derived.Test.YtookikhphobnlaaGreatDoorE1
import Derived.Test.YtookikhphobnlaaGreatDoorYA
import Derived.Test.YtookikhphobnlaaGreatDoorYC
set_option linter.unusedSimpArgs false
set_option linter.unusedVariables false
/- arguments that are slices -/
namespace Go.Proofs.YtookikhphobnlaaGreatDoor
end Go.Proofs.YtookikhphobnlaaGreatDoor
namespace Go.Proofs.YtookikhphobnlaaGreatDoor
open Go.RowKit
abbrev Txt:=List UInt8
structure MsR where
  name:Txt
  val:Int
  low:Int
  high:Int
structure EfR where
  meas:Txt
  by_:Int
structure AdR where
  name:Txt
  effs:List EfR
  least:Int
  most:Int
  pass:Int
  after:List Txt
structure BnR where
  ms:List MsR
  ads:List AdR
def msz:MsR:=⟨[],0,0,0⟩
def efz:EfR:=⟨[],0⟩
def adz:AdR:=⟨[],[],0,0,0,[]⟩
def msV(m:MsR):List V:=[.str m.name,.int .i64 m.val,.int .i64 m.low,.int .i64 m.high]
def efV(e:EfR):List V:=[.str e.meas,.int .i64 e.by_]
def mssV(l:List MsR):List (List V):=l.map msV
def efsV(l:List EfR):List (List V):=l.map efV
def tsV(l:List Txt):List (List V):=l.map fun s=>[V.str s]
def nsV(l:List Int):List (List V):=l.map fun n=>[V.int .i64 n]
def adV(a:AdR):List V:=[.str a.name,.lst (efsV a.effs),.int .i64 a.least,.int .i64 a.most,.int .i64 a.pass,.lst (tsV a.after)]
def adsV(l:List AdR):List (List V):=l.map adV
def bnV(b:BnR):List V:=[.lst (mssV b.ms),.lst (adsV b.ads)]
theorem lst_get{α:Type}{l:List α}{d:α}{i:Nat}(h:i<l.length):l[i]?=some (l.getD i d):=by
  rw [List.getD_eq_getElem?_getD,List.getElem?_eq_getElem h];rfl
theorem mssV_length{l:List MsR}:(mssV l).length=l.length:=by simp [mssV]
theorem efsV_length{l:List EfR}:(efsV l).length=l.length:=by simp [efsV]
theorem adsV_length{l:List AdR}:(adsV l).length=l.length:=by simp [adsV]
theorem tsV_length{l:List Txt}:(tsV l).length=l.length:=by simp [tsV]
theorem nsV_length{l:List Int}:(nsV l).length=l.length:=by simp [nsV]
theorem mssV_get{l:List MsR}{i:Nat}(h:i<l.length):(mssV l)[i]?=some (msV (l.getD i msz)):=by
  unfold mssV;rw [List.getElem?_map,lst_get h];rfl
theorem efsV_get{l:List EfR}{i:Nat}(h:i<l.length):(efsV l)[i]?=some (efV (l.getD i efz)):=by
  unfold efsV;rw [List.getElem?_map,lst_get h];rfl
theorem adsV_get{l:List AdR}{i:Nat}(h:i<l.length):(adsV l)[i]?=some (adV (l.getD i adz)):=by
  unfold adsV;rw [List.getElem?_map,lst_get h];rfl
theorem tsV_get{l:List Txt}{i:Nat}(h:i<l.length):(tsV l)[i]?=some [V.str (l.getD i [])]:=by
  unfold tsV;rw [List.getElem?_map,lst_get (d:=[]) h];rfl
theorem nsV_get{l:List Int}{i:Nat}(h:i<l.length):(nsV l)[i]?=some [V.int .i64 (l.getD i 0)]:=by
  unfold nsV;rw [List.getElem?_map,lst_get (d:=0) h];rfl
theorem mssV_take(l:List MsR)(i:Nat):(mssV l).take i=mssV (l.take i):=by simp [mssV,List.map_take]
theorem efsV_take(l:List EfR)(i:Nat):(efsV l).take i=efsV (l.take i):=by simp [efsV,List.map_take]
theorem tsV_take(l:List Txt)(i:Nat):(tsV l).take i=tsV (l.take i):=by simp [tsV,List.map_take]
theorem mssV_all{l:List MsR}{n:Nat}(h:n=4):(mssV l).all (fun e=>e.length==n)=true:=by subst h;simp [mssV,msV]
theorem efsV_all{l:List EfR}{n:Nat}(h:n=2):(efsV l).all (fun e=>e.length==n)=true:=by subst h;simp [efsV,efV]
theorem tsV_all{l:List Txt}{n:Nat}(h:n=1):(tsV l).all (fun e=>e.length==n)=true:=by subst h;simp [tsV]
theorem nsV_all{l:List Int}{n:Nat}(h:n=1):(nsV l).all (fun e=>e.length==n)=true:=by subst h;simp [nsV]
theorem plainLL_of{es:List (List V)}(h:∀ e∈es,plainL e=true):plainLL es=true:=by
  induction es with
  |nil=>rfl
  |cons x xs ih=>simp only [plainLL,Bool.and_eq_true];exact⟨h x List.mem_cons_self,ih fun e he=>h e (List.mem_cons_of_mem _ he)⟩
theorem tsV_plain(l:List Txt):plainLL (tsV l)=true:=plainLL_of fun e he=>by obtain⟨x,_,rfl⟩:=List.mem_map.1 he;rfl
theorem nsV_plain(l:List Int):plainLL (nsV l)=true:=plainLL_of fun e he=>by obtain⟨x,_,rfl⟩:=List.mem_map.1 he;rfl
theorem mssV_plain(l:List MsR):plainLL (mssV l)=true:=plainLL_of fun e he=>by obtain⟨x,_,rfl⟩:=List.mem_map.1 he;rfl
theorem efsV_plain(l:List EfR):plainLL (efsV l)=true:=plainLL_of fun e he=>by obtain⟨x,_,rfl⟩:=List.mem_map.1 he;rfl
theorem adsV_plain(l:List AdR):plainLL (adsV l)=true:=plainLL_of fun e he=>by
  obtain⟨x,_,rfl⟩:=List.mem_map.1 he
  simp [adV,plainL,V.plain,efsV_plain,tsV_plain]
/-- the number of the first one that is such, or -1 -/
def fdx{α:Type}(f:α→Bool)(l:List α):Int:=match l.findIdx? f with
  |some i=>(i:Int)
  |none=> -1
theorem fdx_at{α:Type}{f:α→Bool}{l:List α}{d:α}{i:Nat}(hi:i<l.length)(h0:∀ j,j<i→f (l.getD j d)=false)(h:f (l.getD i d)=true):fdx f l=i:=by
  have:l.findIdx? f=some i:=by
    rw [List.findIdx?_eq_some_iff_getElem]
    have hg:∀ j (hj:j<l.length),l[j]=l.getD j d:=fun j hj=>by rw [List.getD_eq_getElem?_getD,List.getElem?_eq_getElem hj];rfl
    refine⟨hi,by rw [hg i hi];exact h,fun j hj=>?_⟩
    rw [hg j (by omega),h0 j hj];simp
  unfold fdx;rw [this]
theorem fdx_no{α:Type}{f:α→Bool}{l:List α}{d:α}(h0:∀ j,j<l.length→f (l.getD j d)=false):fdx f l= -1:=by
  have:l.findIdx? f=none:=by
    rw [List.findIdx?_eq_none_iff]
    intro x hx
    obtain⟨j,hj,rfl⟩:=List.getElem_of_mem hx
    have:=h0 j hj
    rw [List.getD_eq_getElem?_getD,List.getElem?_eq_getElem hj] at this
    exact this
  unfold fdx;rw [this]
theorem fdx_cases{α:Type}(f:α→Bool)(l:List α)(d:α):fdx f l= -1∧(∀ j,j<l.length→f (l.getD j d)=false)∨∃ i,i<l.length∧fdx f l=(i:Int)∧f (l.getD i d)=true∧∀ j,j<i→f (l.getD j d)=false:=by
  have hg:∀ j (hj:j<l.length),l[j]=l.getD j d:=fun j hj=>by rw [List.getD_eq_getElem?_getD,List.getElem?_eq_getElem hj];rfl
  cases h:l.findIdx? f with
  | none=>
    refine .inl ⟨by unfold fdx;rw [h],fun j hj=>?_⟩
    rw [List.findIdx?_eq_none_iff] at h
    rw [←hg j hj]
    exact h _ (List.getElem_mem hj)
  | some i=>
    obtain⟨h1,h2,h3⟩:=List.findIdx?_eq_some_iff_getElem.1 h
    refine .inr ⟨i,h1,by unfold fdx;rw [h],by rw [←hg i h1];exact h2,fun j hj=>?_⟩
    have:=h3 j hj
    rw [hg j (by omega)] at this
    simpa using this
theorem fdx_bd{α:Type}(f:α→Bool)(l:List α): -1≤fdx f l∧fdx f l<l.length:=by
  unfold fdx
  split
  · rename_i i h
    obtain⟨h1,_⟩:=List.findIdx?_eq_some_iff_getElem.1 h
    omega
  · omega
theorem fdx_any{α:Type}(f:α→Bool)(l:List α):l.any f=decide (0≤fdx f l):=by
  unfold fdx
  cases h:l.findIdx? f with
  | none=>
    rw [List.findIdx?_eq_none_iff] at h
    simp only [decide_eq_false (show ¬ (0:Int)≤ -1 by omega)]
    rw [List.any_eq_false]
    intro x hx
    simpa using h x hx
  | some i=>
    obtain⟨h1,h2,h3⟩:=List.findIdx?_eq_some_iff_getElem.1 h
    simp only [decide_eq_true (show(0:Int)≤(i:Int) by omega)]
    exact List.any_eq_true.2 ⟨_,List.getElem_mem h1,h2⟩
/-- the first code that is not 0 -/
def fE(f:Nat→Int):Nat→Int
  |0=>0
  |n+1=>if fE f n≠0 then fE f n else f n
theorem fE_zero {f:Nat→Int}:∀ {n:Nat},fE f n=0↔∀ i,i<n→f i=0
  |0=>⟨fun _ i h=>absurd h (Nat.not_lt_zero _),fun _=>rfl⟩
  | n + 1=>by
    unfold fE
    by_cases h:fE f n=0
    · rw [if_neg (by omega)]
      rw [fE_zero] at h
      refine⟨fun h1 i hi=>?_,fun h1=>h1 n (by omega)⟩
      rcases Nat.lt_or_ge i n with q|q
      · exact h i q
      · obtain rfl:i=n:=by omega
        exact h1
    · rw [if_pos h]
      exact⟨fun h1=>absurd h1 h,fun h1=>absurd (fE_zero.2 fun i hi=>h1 i (by omega)) h⟩
theorem fE_at{f:Nat→Int}{i:Nat}(h0:∀ j,j<i→f j=0)(h:f i≠0):∀ {n:Nat},i<n→fE f n=f i
  |0,hi=>by omega
  | n +1,hi=>by
    unfold fE
    rcases Nat.lt_or_ge i n with q|q
    · rw [fE_at h0 h q,if_pos h]
    · obtain rfl:i=n:=by omega
      rw [if_neg (by rw [fE_zero.2 h0];omega)]
theorem fE_is{f:Nat→Int}{i n:Nat}{e:Int}(hi:i<n)(h0:∀ j,j<i→f j=0)(h:f i=e)(he:e≠0):fE f n=e:=by
  rw [fE_at h0 (by rw [h];exact he) hi,h]
theorem up_zero{f:Nat→Int}{i:Nat}(h:∀ j,j<i→f j=0)(hi:f i=0):∀ j,j<i+1→f j=0:=by
  intro j hj
  rcases Nat.lt_or_ge j i with h2|h2
  · exact h j h2
  · obtain rfl:j=i:=by omega
    exact hi
theorem up_false{f:Nat→Bool}{i:Nat}(h:∀ j,j<i→f j=false)(hi:f i=false):∀ j,j<i+1→f j=false:=by
  intro j hj
  rcases Nat.lt_or_ge j i with h2|h2
  · exact h j h2
  · obtain rfl:j=i:=by omega
    exact hi
def byt(s:Txt)(i:Nat):Int:=((s.getD i 0).toNat:Int)
theorem byt_get{s:Txt}{i:Nat}(h:i<s.length):s[i]?=some (s.getD i 0):=by
  rw [List.getD_eq_getElem?_getD,List.getElem?_eq_getElem h];rfl
def letP(c:Int):Prop:=(97≤c∧c≤122)∨(65≤c∧c≤90)
def digP(c:Int):Prop:=48≤c∧c≤57
instance(c:Int):Decidable (letP c):=inferInstanceAs (Decidable (_∨_))
instance(c:Int):Decidable (digP c):=inferInstanceAs (Decidable (_∧_))
def okC(s:Txt)(i:Nat):Prop:=letP (byt s i)∨(i≠0∧(digP (byt s i)∨byt s i=45))
instance(s:Txt)(i:Nat):Decidable (okC s i):=inferInstanceAs (Decidable (_∨_))
/-- is a text a name -/
def nameP(s:Txt):Prop:=1≤s.length∧s.length≤12∧∀ i,i<s.length→okC s i
instance(s:Txt):Decidable (nameP s):=inferInstanceAs (Decidable (_∧_∧_))
theorem nameP_bad{s:Txt}{i:Nat}(h:i<s.length)(hn:¬ okC s i):decide (nameP s)=false:=decide_eq_false fun h1=>hn (h1.2.2 i h)
theorem str_eq_nil{s:Txt}:(s=[])↔s.length=0:=by simp
def isM(s:Txt)(m:MsR):Bool:=decide (m.name=s)
def isA(s:Txt)(a:AdR):Bool:=decide (a.name=s)
def isF(s:Txt)(e:EfR):Bool:=decide (e.meas=s)
def isT(s:Txt)(t:Txt):Bool:=decide (t=s)
/-! errors: name 4, exists 5, missing 6, range 2, large 8, order 9, zero 11, circle 21 -/
def msErr(b:List MsR)(m:MsR):Int:=
  if ¬ nameP m.name then 4 else if 0≤fdx (isM m.name) b then 5 else
  if ¬ (-100000≤m.val∧m.val≤100000)∨¬ (-100000≤m.low∧m.low≤100000)∨¬ (-100000≤m.high∧m.high≤100000) then 2 else if m.high<m.low then 9 else 0
def msErrAt(l:List MsR)(i:Nat):Int:=msErr (l.take i) (l.getD i msz)
def mssErr(l:List MsR):Int:=if 12<l.length then 8 else fE (msErrAt l) l.length
def efErrAt(ms:List MsR)(l:List EfR)(i:Nat):Int:=
  if fdx (isM (l.getD i efz).meas) ms<0 then 6 else if 0≤fdx (isF (l.getD i efz).meas) (l.take i) then 5 else
  if ¬ (-1000≤(l.getD i efz).by_∧(l.getD i efz).by_≤1000) then 2 else if (l.getD i efz).by_=0 then 11 else 0
def efErr(ms:List MsR)(l:List EfR):Int:=if 12<l.length then 8 else fE (efErrAt ms l) l.length
def afErrAt(ads:List AdR)(l:List Txt)(i:Nat):Int:=
  if fdx (isA (l.getD i [])) ads<0 then 6 else if 0≤fdx (isT (l.getD i [])) (l.take i) then 5 else 0
def afErr(ads:List AdR)(l:List Txt):Int:=if 12<l.length then 8 else fE (afErrAt ads l) l.length
def adErr(ms:List MsR)(ads:List AdR)(i:Nat):Int:=
  if ¬ nameP (ads.getD i adz).name then 4 else if 0≤fdx (isA (ads.getD i adz).name) (ads.take i) then 5 else
  if efErr ms (ads.getD i adz).effs≠0 then efErr ms (ads.getD i adz).effs else
  if ¬ (-1000≤(ads.getD i adz).least∧(ads.getD i adz).least≤0)∨¬ (0≤(ads.getD i adz).most∧(ads.getD i adz).most≤1000)∨¬ (1≤(ads.getD i adz).pass∧(ads.getD i adz).pass≤1000) then 2 else
  afErr ads (ads.getD i adz).after
/-- which adjustment comes next behind some, by the names of these -/
def hasT(ns:List Txt)(s:Txt):Bool:=ns.any (isT s)
def rdyA(ns:List Txt)(a:AdR):Bool:=!hasT ns a.name && a.after.all (hasT ns)
def adN(ads:List AdR)(i:Nat):Txt:=(ads.getD i adz).name
def outN(ads:List AdR)(out:List Nat):List Txt:=out.map (adN ads)
def nxtI(ads:List AdR)(out:List Nat):Int:=fdx (rdyA (outN ads out)) ads
def ordF(ads:List AdR):Nat→List Nat→List Nat
  |0,out=>out
  |n+1,out=>if nxtI ads out<0 then out else ordF ads n (out++[(nxtI ads out).toNat])
/-- the order of the adjustments; it is short if there is a circle -/
def ordB(ads:List AdR):List Nat:=ordF ads (ads.length+1) []
/-- how many are left -/
def leftN(ads:List AdR)(out:List Nat):Nat:=(ads.filter fun a=>!hasT (outN ads out) a.name).length
theorem filter_lt {α:Type} {p q:α→Bool}:∀ {l:List α},(∀ x∈l,q x=true→p x=true)→(∃ x∈l,p x=true∧q x=false)→(l.filter q).length<(l.filter p).length
  |[],_,h=>by obtain⟨x,hx,_⟩:=h;cases hx
  | y ::l,h1,h2=>by
    have hle:∀ {l:List α},(∀ x∈l,q x=true→p x=true)→(l.filter q).length≤(l.filter p).length:=by
      intro l
      induction l with
      |nil=>intro _;exact Nat.le_refl _
      | cons z l ih=>
        intro h
        have ih:=ih fun x hx=>h x (List.mem_cons_of_mem _ hx)
        simp only [List.filter_cons]
        cases hq:q z with
        |true=>rw [h z List.mem_cons_self hq];simpa using ih
        |false=>cases p z<;>simp<;>omega
    have h1':=fun x hx=>h1 x (List.mem_cons_of_mem _ hx)
    obtain⟨x,hx,hp,hq⟩:=h2
    simp only [List.filter_cons]
    rcases List.mem_cons.1 hx with rfl|hx
    · rw [hp,hq]
      have:=hle h1'
      simp;omega
    · have ih:=filter_lt h1' ⟨x,hx,hp,hq⟩
      cases hqy:q y with
      |true=>rw [h1 y List.mem_cons_self hqy];simpa using ih
      |false=>cases p y<;>simp<;>omega
theorem hasT_snoc(ns:List Txt)(t s:Txt):hasT (ns++[t]) s=(hasT ns s || decide (t=s)):=by simp [hasT,isT]
theorem outN_snoc(ads:List AdR)(out:List Nat)(i:Nat):outN ads (out++[i])=outN ads out++[adN ads i]:=by simp [outN]
theorem leftN_lt{ads:List AdR}{out:List Nat}{i:Nat}(hi:i<ads.length)(h:rdyA (outN ads out) (ads.getD i adz)=true):leftN ads (out++[i])<leftN ads out:=by
  unfold leftN
  rw [outN_snoc]
  unfold rdyA at h
  simp only [Bool.and_eq_true,Bool.not_eq_true'] at h
  have hm:ads.getD i adz∈ads:=by rw [List.getD_eq_getElem?_getD,List.getElem?_eq_getElem hi];exact List.getElem_mem hi
  refine filter_lt (fun x _ hx=>?_) ⟨_,hm,by rw [h.1];rfl,?_⟩
  · rw [hasT_snoc] at hx
    simp only [Bool.not_eq_true',Bool.or_eq_false_iff] at hx ⊢
    exact hx.1
  · rw [hasT_snoc]
    simp [adN]
theorem leftN_le(ads:List AdR)(out:List Nat):leftN ads out≤ads.length:=List.length_filter_le _ _
/-- .. of a bench -/
def bnErr(b:BnR):Int:=
  if mssErr b.ms≠0 then mssErr b.ms else if 12<b.ads.length then 8 else if fE (adErr b.ms b.ads) b.ads.length≠0 then fE (adErr b.ms b.ads) b.ads.length else
  if (ordB b.ads).length<b.ads.length then 21 else 0
/-- lists and names that are not too long for the walks -/
structure Bl(b:BnR):Prop where
  nm:b.ms.length≤1000
  na:b.ads.length≤1000
  mn:∀ i,i<b.ms.length→(b.ms.getD i msz).name.length≤1000
  an:∀ i,i<b.ads.length→(b.ads.getD i adz).name.length≤1000
  ae:∀ i,i<b.ads.length→(b.ads.getD i adz).effs.length≤1000
  aa:∀ i,i<b.ads.length→(b.ads.getD i adz).after.length≤1000
end Go.Proofs.YtookikhphobnlaaGreatDoor
