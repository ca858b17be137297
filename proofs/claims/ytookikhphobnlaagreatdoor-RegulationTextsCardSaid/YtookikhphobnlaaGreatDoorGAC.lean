import Derived.Test.YtookikhphobnlaaGreatDoorYC
import Derived.Test.YtookikhphobnlaaGreatDoorSH
import Derived.Test.YtookikhphobnlaaGreatDoorGAB
import Derived.Lib.AppendIntMem
import Derived.Lib.SplitLaws
import Derived.Lib.CutLaws
set_option linter.unusedSimpArgs false
set_option linter.unusedVariables false
/- benches: the plain reading -/
namespace Go.Proofs.YtookikhphobnlaaGreatDoor
open Go.RowKit
abbrev Txt:=List UInt8
structure MsR where
  name:Txt
  val:Int
  low:Int
  high:Int
structure EfR where
  meas:Txt
  by_:Int
structure AdR where
  name:Txt
  effs:List EfR
  least:Int
  most:Int
  pass:Int
  after:List Txt
structure BnR where
  ms:List MsR
  ads:List AdR
def msz:MsR:=⟨[],0,0,0⟩
def efz:EfR:=⟨[],0⟩
def adz:AdR:=⟨[],[],0,0,0,[]⟩
def msV(m:MsR):List V:=[.str m.name,.int .i64 m.val,.int .i64 m.low,.int .i64 m.high]
def efV(e:EfR):List V:=[.str e.meas,.int .i64 e.by_]
def mssV(l:List MsR):List (List V):=l.map msV
def efsV(l:List EfR):List (List V):=l.map efV
def tsV(l:List Txt):List (List V):=l.map fun s=>[V.str s]
def nsV(l:List Int):List (List V):=l.map fun n=>[V.int .i64 n]
def adV(a:AdR):List V:=[.str a.name,.lst (efsV a.effs),.int .i64 a.least,.int .i64 a.most,.int .i64 a.pass,.lst (tsV a.after)]
def adsV(l:List AdR):List (List V):=l.map adV
def bnV(b:BnR):List V:=[.lst (mssV b.ms),.lst (adsV b.ads)]
theorem lst_get{α:Type}{l:List α}{d:α}{i:Nat}(h:i<l.length):l[i]?=some (l.getD i d):=by
  rw [List.getD_eq_getElem?_getD,List.getElem?_eq_getElem h];rfl
theorem mssV_length{l:List MsR}:(mssV l).length=l.length:=by simp [mssV]
theorem efsV_length{l:List EfR}:(efsV l).length=l.length:=by simp [efsV]
theorem adsV_length{l:List AdR}:(adsV l).length=l.length:=by simp [adsV]
theorem tsV_length{l:List Txt}:(tsV l).length=l.length:=by simp [tsV]
theorem nsV_length{l:List Int}:(nsV l).length=l.length:=by simp [nsV]
theorem mssV_get{l:List MsR}{i:Nat}(h:i<l.length):(mssV l)[i]?=some (msV (l.getD i msz)):=by
  unfold mssV;rw [List.getElem?_map,lst_get h];rfl
theorem efsV_get{l:List EfR}{i:Nat}(h:i<l.length):(efsV l)[i]?=some (efV (l.getD i efz)):=by
  unfold efsV;rw [List.getElem?_map,lst_get h];rfl
theorem adsV_get{l:List AdR}{i:Nat}(h:i<l.length):(adsV l)[i]?=some (adV (l.getD i adz)):=by
  unfold adsV;rw [List.getElem?_map,lst_get h];rfl
theorem tsV_get{l:List Txt}{i:Nat}(h:i<l.length):(tsV l)[i]?=some [V.str (l.getD i [])]:=by
  unfold tsV;rw [List.getElem?_map,lst_get (d:=[]) h];rfl
theorem nsV_get{l:List Int}{i:Nat}(h:i<l.length):(nsV l)[i]?=some [V.int .i64 (l.getD i 0)]:=by
  unfold nsV;rw [List.getElem?_map,lst_get (d:=0) h];rfl
theorem mssV_take(l:List MsR)(i:Nat):(mssV l).take i=mssV (l.take i):=by simp [mssV,List.map_take]
theorem efsV_take(l:List EfR)(i:Nat):(efsV l).take i=efsV (l.take i):=by simp [efsV,List.map_take]
theorem tsV_take(l:List Txt)(i:Nat):(tsV l).take i=tsV (l.take i):=by simp [tsV,List.map_take]
theorem mssV_all{l:List MsR}{n:Nat}(h:n=4):(mssV l).all (fun e=>e.length==n)=true:=by subst h;simp [mssV,msV]
theorem efsV_all{l:List EfR}{n:Nat}(h:n=2):(efsV l).all (fun e=>e.length==n)=true:=by subst h;simp [efsV,efV]
theorem tsV_all{l:List Txt}{n:Nat}(h:n=1):(tsV l).all (fun e=>e.length==n)=true:=by subst h;simp [tsV]
theorem nsV_all{l:List Int}{n:Nat}(h:n=1):(nsV l).all (fun e=>e.length==n)=true:=by subst h;simp [nsV]
theorem plainLL_of{es:List (List V)}(h:∀ e∈es,plainL e=true):plainLL es=true:=by
  induction es with
  |nil=>rfl
  |cons x xs ih=>simp only [plainLL,Bool.and_eq_true];exact⟨h x List.mem_cons_self,ih fun e he=>h e (List.mem_cons_of_mem _ he)⟩
theorem tsV_plain(l:List Txt):plainLL (tsV l)=true:=plainLL_of fun e he=>by obtain⟨x,_,rfl⟩:=List.mem_map.1 he;rfl
theorem nsV_plain(l:List Int):plainLL (nsV l)=true:=plainLL_of fun e he=>by obtain⟨x,_,rfl⟩:=List.mem_map.1 he;rfl
theorem mssV_plain(l:List MsR):plainLL (mssV l)=true:=plainLL_of fun e he=>by obtain⟨x,_,rfl⟩:=List.mem_map.1 he;rfl
theorem efsV_plain(l:List EfR):plainLL (efsV l)=true:=plainLL_of fun e he=>by obtain⟨x,_,rfl⟩:=List.mem_map.1 he;rfl
theorem adsV_plain(l:List AdR):plainLL (adsV l)=true:=plainLL_of fun e he=>by
  obtain⟨x,_,rfl⟩:=List.mem_map.1 he
  simp [adV,plainL,V.plain,efsV_plain,tsV_plain]
/-- the number of the first one that is such, or -1 -/
def fdx{α:Type}(f:α→Bool)(l:List α):Int:=match l.findIdx? f with
  |some i=>(i:Int)
  |none=> -1
theorem fdx_at{α:Type}{f:α→Bool}{l:List α}{d:α}{i:Nat}(hi:i<l.length)(h0:∀ j,j<i→f (l.getD j d)=false)(h:f (l.getD i d)=true):fdx f l=i:=by
  have:l.findIdx? f=some i:=by
    rw [List.findIdx?_eq_some_iff_getElem]
    have hg:∀ j (hj:j<l.length),l[j]=l.getD j d:=fun j hj=>by rw [List.getD_eq_getElem?_getD,List.getElem?_eq_getElem hj];rfl
    refine⟨hi,by rw [hg i hi];exact h,fun j hj=>?_⟩
    rw [hg j (by omega),h0 j hj];simp
  unfold fdx;rw [this]
theorem fdx_no{α:Type}{f:α→Bool}{l:List α}{d:α}(h0:∀ j,j<l.length→f (l.getD j d)=false):fdx f l= -1:=by
  have:l.findIdx? f=none:=by
    rw [List.findIdx?_eq_none_iff]
    intro x hx
    obtain⟨j,hj,rfl⟩:=List.getElem_of_mem hx
    have:=h0 j hj
    rw [List.getD_eq_getElem?_getD,List.getElem?_eq_getElem hj] at this
    exact this
  unfold fdx;rw [this]
theorem fdx_cases{α:Type}(f:α→Bool)(l:List α)(d:α):fdx f l= -1∧(∀ j,j<l.length→f (l.getD j d)=false)∨∃ i,i<l.length∧fdx f l=(i:Int)∧f (l.getD i d)=true∧∀ j,j<i→f (l.getD j d)=false:=by
  have hg:∀ j (hj:j<l.length),l[j]=l.getD j d:=fun j hj=>by rw [List.getD_eq_getElem?_getD,List.getElem?_eq_getElem hj];rfl
  cases h:l.findIdx? f with
  | none=>
    refine .inl ⟨by unfold fdx;rw [h],fun j hj=>?_⟩
    rw [List.findIdx?_eq_none_iff] at h
    rw [←hg j hj]
    exact h _ (List.getElem_mem hj)
  | some i=>
    obtain⟨h1,h2,h3⟩:=List.findIdx?_eq_some_iff_getElem.1 h
    refine .inr ⟨i,h1,by unfold fdx;rw [h],by rw [←hg i h1];exact h2,fun j hj=>?_⟩
    have:=h3 j hj
    rw [hg j (by omega)] at this
    simpa using this
theorem fdx_bd{α:Type}(f:α→Bool)(l:List α): -1≤fdx f l∧fdx f l<l.length:=by
  unfold fdx
  split
  · rename_i i h
    obtain⟨h1,_⟩:=List.findIdx?_eq_some_iff_getElem.1 h
    omega
  · omega
theorem fdx_any{α:Type}(f:α→Bool)(l:List α):l.any f=decide (0≤fdx f l):=by
  unfold fdx
  cases h:l.findIdx? f with
  | none=>
    rw [List.findIdx?_eq_none_iff] at h
    simp only [decide_eq_false (show ¬ (0:Int)≤ -1 by omega)]
    rw [List.any_eq_false]
    intro x hx
    simpa using h x hx
  | some i=>
    obtain⟨h1,h2,h3⟩:=List.findIdx?_eq_some_iff_getElem.1 h
    simp only [decide_eq_true (show(0:Int)≤(i:Int) by omega)]
    exact List.any_eq_true.2 ⟨_,List.getElem_mem h1,h2⟩
/-- the first code that is not 0 -/
def fE(f:Nat→Int):Nat→Int
  |0=>0
  |n+1=>if fE f n≠0 then fE f n else f n
theorem fE_zero {f:Nat→Int}:∀ {n:Nat},fE f n=0↔∀ i,i<n→f i=0
  |0=>⟨fun _ i h=>absurd h (Nat.not_lt_zero _),fun _=>rfl⟩
  | n + 1=>by
    unfold fE
    by_cases h:fE f n=0
    · rw [if_neg (by omega)]
      rw [fE_zero] at h
      refine⟨fun h1 i hi=>?_,fun h1=>h1 n (by omega)⟩
      rcases Nat.lt_or_ge i n with q|q
      · exact h i q
      · obtain rfl:i=n:=by omega
        exact h1
    · rw [if_pos h]
      exact⟨fun h1=>absurd h1 h,fun h1=>absurd (fE_zero.2 fun i hi=>h1 i (by omega)) h⟩
theorem fE_at{f:Nat→Int}{i:Nat}(h0:∀ j,j<i→f j=0)(h:f i≠0):∀ {n:Nat},i<n→fE f n=f i
  |0,hi=>by omega
  | n +1,hi=>by
    unfold fE
    rcases Nat.lt_or_ge i n with q|q
    · rw [fE_at h0 h q,if_pos h]
    · obtain rfl:i=n:=by omega
      rw [if_neg (by rw [fE_zero.2 h0];omega)]
theorem fE_is{f:Nat→Int}{i n:Nat}{e:Int}(hi:i<n)(h0:∀ j,j<i→f j=0)(h:f i=e)(he:e≠0):fE f n=e:=by
  rw [fE_at h0 (by rw [h];exact he) hi,h]
theorem up_zero{f:Nat→Int}{i:Nat}(h:∀ j,j<i→f j=0)(hi:f i=0):∀ j,j<i+1→f j=0:=by
  intro j hj
  rcases Nat.lt_or_ge j i with h2|h2
  · exact h j h2
  · obtain rfl:j=i:=by omega
    exact hi
theorem up_false{f:Nat→Bool}{i:Nat}(h:∀ j,j<i→f j=false)(hi:f i=false):∀ j,j<i+1→f j=false:=by
  intro j hj
  rcases Nat.lt_or_ge j i with h2|h2
  · exact h j h2
  · obtain rfl:j=i:=by omega
    exact hi
def byt(s:Txt)(i:Nat):Int:=((s.getD i 0).toNat:Int)
theorem byt_get{s:Txt}{i:Nat}(h:i<s.length):s[i]?=some (s.getD i 0):=by
  rw [List.getD_eq_getElem?_getD,List.getElem?_eq_getElem h];rfl
def letP(c:Int):Prop:=(97≤c∧c≤122)∨(65≤c∧c≤90)
def digP(c:Int):Prop:=48≤c∧c≤57
instance(c:Int):Decidable (letP c):=inferInstanceAs (Decidable (_∨_))
instance(c:Int):Decidable (digP c):=inferInstanceAs (Decidable (_∧_))
def okC(s:Txt)(i:Nat):Prop:=letP (byt s i)∨(i≠0∧(digP (byt s i)∨byt s i=45))
instance(s:Txt)(i:Nat):Decidable (okC s i):=inferInstanceAs (Decidable (_∨_))
/-- is a text a name -/
def nameP(s:Txt):Prop:=1≤s.length∧s.length≤12∧∀ i,i<s.length→okC s i
instance(s:Txt):Decidable (nameP s):=inferInstanceAs (Decidable (_∧_∧_))
theorem nameP_bad{s:Txt}{i:Nat}(h:i<s.length)(hn:¬ okC s i):decide (nameP s)=false:=decide_eq_false fun h1=>hn (h1.2.2 i h)
theorem str_eq_nil{s:Txt}:(s=[])↔s.length=0:=by simp
def isM(s:Txt)(m:MsR):Bool:=decide (m.name=s)
def isA(s:Txt)(a:AdR):Bool:=decide (a.name=s)
def isF(s:Txt)(e:EfR):Bool:=decide (e.meas=s)
def isT(s:Txt)(t:Txt):Bool:=decide (t=s)
/-! errors: name 4, exists 5, missing 6, range 2, large 8, order 9, zero 11, circle 21 -/
def msErr(b:List MsR)(m:MsR):Int:=
  if ¬ nameP m.name then 4 else if 0≤fdx (isM m.name) b then 5 else
  if ¬ (-100000≤m.val∧m.val≤100000)∨¬ (-100000≤m.low∧m.low≤100000)∨¬ (-100000≤m.high∧m.high≤100000) then 2 else if m.high<m.low then 9 else 0
def msErrAt(l:List MsR)(i:Nat):Int:=msErr (l.take i) (l.getD i msz)
def mssErr(l:List MsR):Int:=if 12<l.length then 8 else fE (msErrAt l) l.length
def efErrAt(ms:List MsR)(l:List EfR)(i:Nat):Int:=
  if fdx (isM (l.getD i efz).meas) ms<0 then 6 else if 0≤fdx (isF (l.getD i efz).meas) (l.take i) then 5 else
  if ¬ (-1000≤(l.getD i efz).by_∧(l.getD i efz).by_≤1000) then 2 else if (l.getD i efz).by_=0 then 11 else 0
def efErr(ms:List MsR)(l:List EfR):Int:=if 12<l.length then 8 else fE (efErrAt ms l) l.length
def afErrAt(ads:List AdR)(l:List Txt)(i:Nat):Int:=
  if fdx (isA (l.getD i [])) ads<0 then 6 else if 0≤fdx (isT (l.getD i [])) (l.take i) then 5 else 0
def afErr(ads:List AdR)(l:List Txt):Int:=if 12<l.length then 8 else fE (afErrAt ads l) l.length
def adErr(ms:List MsR)(ads:List AdR)(i:Nat):Int:=
  if ¬ nameP (ads.getD i adz).name then 4 else if 0≤fdx (isA (ads.getD i adz).name) (ads.take i) then 5 else
  if efErr ms (ads.getD i adz).effs≠0 then efErr ms (ads.getD i adz).effs else
  if ¬ (-1000≤(ads.getD i adz).least∧(ads.getD i adz).least≤0)∨¬ (0≤(ads.getD i adz).most∧(ads.getD i adz).most≤1000)∨¬ (1≤(ads.getD i adz).pass∧(ads.getD i adz).pass≤1000) then 2 else
  afErr ads (ads.getD i adz).after
/-- which adjustment comes next behind some, by the names of these -/
def hasT(ns:List Txt)(s:Txt):Bool:=ns.any (isT s)
def rdyA(ns:List Txt)(a:AdR):Bool:=!hasT ns a.name && a.after.all (hasT ns)
def adN(ads:List AdR)(i:Nat):Txt:=(ads.getD i adz).name
def outN(ads:List AdR)(out:List Nat):List Txt:=out.map (adN ads)
def nxtI(ads:List AdR)(out:List Nat):Int:=fdx (rdyA (outN ads out)) ads
def ordF(ads:List AdR):Nat→List Nat→List Nat
  |0,out=>out
  |n+1,out=>if nxtI ads out<0 then out else ordF ads n (out++[(nxtI ads out).toNat])
/-- the order of the adjustments; it is short if there is a circle -/
def ordB(ads:List AdR):List Nat:=ordF ads (ads.length+1) []
/-- how many are left -/
def leftN(ads:List AdR)(out:List Nat):Nat:=(ads.filter fun a=>!hasT (outN ads out) a.name).length
theorem filter_lt {α:Type} {p q:α→Bool}:∀ {l:List α},(∀ x∈l,q x=true→p x=true)→(∃ x∈l,p x=true∧q x=false)→(l.filter q).length<(l.filter p).length
  |[],_,h=>by obtain⟨x,hx,_⟩:=h;cases hx
  | y ::l,h1,h2=>by
    have hle:∀ {l:List α},(∀ x∈l,q x=true→p x=true)→(l.filter q).length≤(l.filter p).length:=by
      intro l
      induction l with
      |nil=>intro _;exact Nat.le_refl _
      | cons z l ih=>
        intro h
        have ih:=ih fun x hx=>h x (List.mem_cons_of_mem _ hx)
        simp only [List.filter_cons]
        cases hq:q z with
        |true=>rw [h z List.mem_cons_self hq];simpa using ih
        |false=>cases p z<;>simp<;>omega
    have h1':=fun x hx=>h1 x (List.mem_cons_of_mem _ hx)
    obtain⟨x,hx,hp,hq⟩:=h2
    simp only [List.filter_cons]
    rcases List.mem_cons.1 hx with rfl|hx
    · rw [hp,hq]
      have:=hle h1'
      simp;omega
    · have ih:=filter_lt h1' ⟨x,hx,hp,hq⟩
      cases hqy:q y with
      |true=>rw [h1 y List.mem_cons_self hqy];simpa using ih
      |false=>cases p y<;>simp<;>omega
theorem hasT_snoc(ns:List Txt)(t s:Txt):hasT (ns++[t]) s=(hasT ns s || decide (t=s)):=by simp [hasT,isT]
theorem outN_snoc(ads:List AdR)(out:List Nat)(i:Nat):outN ads (out++[i])=outN ads out++[adN ads i]:=by simp [outN]
theorem leftN_lt{ads:List AdR}{out:List Nat}{i:Nat}(hi:i<ads.length)(h:rdyA (outN ads out) (ads.getD i adz)=true):leftN ads (out++[i])<leftN ads out:=by
  unfold leftN
  rw [outN_snoc]
  unfold rdyA at h
  simp only [Bool.and_eq_true,Bool.not_eq_true'] at h
  have hm:ads.getD i adz∈ads:=by rw [List.getD_eq_getElem?_getD,List.getElem?_eq_getElem hi];exact List.getElem_mem hi
  refine filter_lt (fun x _ hx=>?_) ⟨_,hm,by rw [h.1];rfl,?_⟩
  · rw [hasT_snoc] at hx
    simp only [Bool.not_eq_true',Bool.or_eq_false_iff] at hx ⊢
    exact hx.1
  · rw [hasT_snoc]
    simp [adN]
theorem leftN_le(ads:List AdR)(out:List Nat):leftN ads out≤ads.length:=List.length_filter_le _ _
/-- .. of a bench -/
def bnErr(b:BnR):Int:=
  if mssErr b.ms≠0 then mssErr b.ms else if 12<b.ads.length then 8 else if fE (adErr b.ms b.ads) b.ads.length≠0 then fE (adErr b.ms b.ads) b.ads.length else
  if (ordB b.ads).length<b.ads.length then 21 else 0
/-- lists and names that are not too long for the walks -/
structure Bl(b:BnR):Prop where
  nm:b.ms.length≤1000
  na:b.ads.length≤1000
  mn:∀ i,i<b.ms.length→(b.ms.getD i msz).name.length≤1000
  an:∀ i,i<b.ads.length→(b.ads.getD i adz).name.length≤1000
  ae:∀ i,i<b.ads.length→(b.ads.getD i adz).effs.length≤1000
  aa:∀ i,i<b.ads.length→(b.ads.getD i adz).after.length≤1000

/-- a contract of the kit's kind, that reads package variables -/
theorem Gives_of_callsG{P:Program}{f:FuncId}{args:List V}{v:V}{m:Mem}(hg:isGo P f=true)(ha:detL args=true)(hv:v.det=true)(h:∀ w,(∃ ρ B,GlobOk w ρ B)→Calls P f (args.map V.real).toArray w fun e w'=>e= .returned v.real∧Below w.heap.size w w'):Gives P f args m v:=by
  refine⟨hg,fun w ρ xs hM hA=>?_⟩
  have hx:xs=(args.map V.real).toArray:=by
    apply Array.ext
    · simp;exact hA.1.symm
    · intro i h1 h2
      have hi:i<args.length:=by rw [hA.1];exact h1
      have e1:args[i]?=some args[i]:=List.getElem?_eq_getElem hi
      have hd:=detL_mem ha _ (List.getElem_mem hi)
      have:=det_eq (real_rel (w:=w) (ρ:=ρ) (B:=bad m ρ) hd) hd (hA.2 i _ _ e1 (Array.getElem?_eq_getElem h1))
      rw [this];simp
  subst hx
  refine(h w ⟨ρ,_,hM.glob⟩).mono ?_
  rintro e w' ⟨rfl,hb⟩
  exact⟨v,none,_,rfl,⟨rfl,rfl⟩,.inl ⟨rfl,hb,real_rel hv⟩⟩
theorem Gives_ofX{P:Program}{f:FuncId}{vs:List V}{m:Mem}{v':V}{R:V→Option Mem→Prop}(h:CallA P f vs m R)(hR:∀ v mo,R v mo→mo=none∧WkV v v'):Gives P f vs m v':=by
  refine⟨h.1,fun w ρ xs hM hA=>(h.2 w ρ xs hM hA).mono ?_⟩
  rintro e w' ⟨v,mo,x,rfl,h1,h2⟩
  obtain⟨rfl,hw⟩:=hR v mo h1
  rcases h2 with ⟨_,hb,rv⟩|⟨m',ρ',e,_⟩
  · exact⟨v',none,x,rfl,⟨rfl,rfl⟩,.inl ⟨rfl,hb,hw _ _ _ _ rv⟩⟩
  · cases e
/-- the table of the powers of ten -/
theorem tab_ok{w:World}{ρ:List Re}{B:Nat→Prop}(h:GlobOk w ρ B):Lib.TabIs Tryz.prog w "internal/strconv.uint64pow10" .u64 Lib.pow10Tab:=by
  have h0:=h 3
  have e:gval 3= .tab (Lib.pow10Tab.map fun z=>Value.int .u64 z):=rfl
  rw [e] at h0
  cases h0 with
  | tab _ _ ty o hb hB hh=>
    unfold Lib.TabIs World.var?
    have hn:Tryz.prog.globalNamed "internal/strconv.uint64pow10" =some 3:=by kernel_rfl
    rw [hn]
    simp only [Option.bind_some,hh]
/-- the sentinels hold an interface value -/
theorem err_ok{w:World}{ρ:List Re}{B:Nat→Prop}(h:GlobOk w ρ B){g:Nat}(hg:gval g= .bp [.ifv] 0):∃ t p,w.cell? ⟨g,0,none⟩=some (.iface t p):=by
  have h0:=h g
  rw [hg] at h0
  generalize hx:(Value.pointer (some ⟨g,0,none⟩))=x at h0
  cases h0 with
  | bp cs o b off Y hb hB hY hV hO=>
    simp only [Value.pointer.injEq,Option.some.injEq,Addr.mk.injEq] at hx
    obtain⟨rfl,hoff,_⟩:=hx
    have h1:=hY 0 .ifv rfl
    have h2:=hV 0 .ifv rfl
    generalize Y 0=y at *
    cases h2 with
    |ifv t p=>exact⟨t,p,by rw [show off=0 by omega] at h1;exact h1⟩
theorem max_ok{w:World}{ρ:List Re}{B:Nat→Prop}(h:GlobOk w ρ B){g:Nat}(hg:gval g= .bp [.anyi .i64] 0):∃ n,w.cell? ⟨g,0,none⟩=some (.int .i64 n):=by
  have h0:=h g
  rw [hg] at h0
  generalize hx:(Value.pointer (some ⟨g,0,none⟩))=x at h0
  cases h0 with
  | bp cs o b off Y hb hB hY hV hO=>
    simp only [Value.pointer.injEq,Option.some.injEq,Addr.mk.injEq] at hx
    obtain⟨rfl,hoff,_⟩:=hx
    have h1:=hY 0 (.anyi .i64) rfl
    have h2:=hV 0 (.anyi .i64) rfl
    generalize Y 0=y at *
    cases h2 with
    |anyi _ n=>exact⟨n,by rw [show off=0 by omega] at h1;exact h1⟩
theorem xitoa_c(n:Int)(h0: -9223372036854775808≤n)(h1:n≤9223372036854775807)(m:Mem):Gives Tryz.prog 38 [.int .i64 n] m (.str (Lib.itoa n)):=by
  refine Gives_of_callsG (by kernel_rfl) rfl rfl fun w ⟨ρ,B,hg⟩=>?_
  refine(Tryz.strconv_Itoa n h0 h1 w (tab_ok hg)).mono ?_
  rintro e w' ⟨rfl,k,os,rfl⟩
  exact⟨rfl,Lib.below_grow _ _ (Nat.le_refl _) k os⟩
theorem xtrim_c(s p:Txt)(m:Mem):Gives Tryz.prog 69 [.str s,.str p] m (.str (Lib.trimPrefix s p)):=by
  refine Gives_of_callsG (by kernel_rfl) rfl rfl fun w _=>?_
  refine(Tryz.strings_TrimPrefix ⟨s.toArray⟩ ⟨p.toArray⟩ w).mono ?_
  rintro e w' ⟨rfl,rfl⟩
  exact⟨by simp [V.real],Below.refl _ _⟩
theorem xcut_c(s p:Txt)(hs:s.length≤1000000)(m:Mem):Gives Tryz.prog 29 [.str s,.str p] m (.tup [.str (Lib.trimSuffix s p),.bool (Lib.hasSuffix s p)]):=by
  refine Gives_of_callsG (by kernel_rfl) rfl rfl fun w _=>?_
  refine(Tryz.strings_CutSuffix ⟨s.toArray⟩ ⟨p.toArray⟩ w (by show s.toArray.size≤_;simp;omega)).mono ?_
  rintro e w' ⟨rfl,rfl⟩
  exact⟨by simp [V.real,realL],Below.refl _ _⟩
theorem xindex_c(s:Txt)(c:UInt8)(m:Mem):Gives Tryz.prog 65 [.str s,.int .u8 c.toNat] m (.int .i64 (Lib.indexByte s c)):=by
  refine Gives_of_callsG (by kernel_rfl) rfl rfl fun w _=>?_
  refine(Tryz.strings_IndexByte ⟨s.toArray⟩ c.toNat w).mono ?_
  rintro e w' ⟨rfl,rfl⟩
  exact⟨by simp [V.real],Below.refl _ _⟩
/-- what Atoi says of a text -/
theorem xatoi_ok(s:Txt)(v:Int)(hs:s.length≤1000000)(h:Lib.atoiAll s= .ok v)(m:Mem):Gives Tryz.prog 68 [.str s] m (.tup [.int .i64 v,.nilif]):=by
  refine Gives_of_callsG (by kernel_rfl) rfl rfl fun w _=>?_
  refine(Tryz.strconv_Atoi_ok ⟨s.toArray⟩ (by show s.toArray.size≤_;simp;omega) v (by simpa using h) w).mono ?_
  rintro e w' ⟨rfl,hw⟩
  refine⟨by simp [V.real,realL],?_⟩
  rcases hw with rfl|⟨t,rfl⟩
  · exact Below.refl _ _
  · exact Lib.bytesWorld_below _ _ _
theorem xatoi_bad (s:Txt) (hs:s.length≤1000000) (h:∀ v,Lib.atoiAll s≠ .ok v) (m:Mem):CallA Tryz.prog 68 [.str s] m fun v mo=>mo=none∧∃ n,v= .tup [.int .i64 n,.ifv]:=by
  refine⟨by kernel_rfl,fun w ρ xs hM hA=>?_⟩
  have hx:xs= #[.string ⟨s.toArray⟩]:=by
    apply Array.ext
    · simpa using hA.1.symm
    · intro i h1 h2
      have hi:i=0:=by simp at h2;omega
      subst hi
      have:=hA.2 0 _ _ rfl (Array.getElem?_eq_getElem h1)
      generalize xs[0]=y at *
      cases this with
      | str _ b hb=>
        obtain⟨⟨l⟩⟩:=b
        simp at hb
        subst hb
        simp
  subst hx
  have hsz:(⟨s.toArray⟩:ByteArray).size≤281474976710656:=by show s.toArray.size≤_;simp;omega
  cases ha:Lib.atoiAll s
  · rename_i v
    exact absurd ha (h v)
  · obtain⟨t,p,he⟩:=err_ok hM.glob (g:=1) rfl
    refine(Tryz.strconv_Atoi_syntax ⟨s.toArray⟩ hsz (by rw [show(⟨s.toArray⟩:ByteArray).data.toList=s by simp];exact ha) _ w he (.inr ⟨t,p,rfl⟩)).mono ?_
    rintro e w' ⟨N,rfl,_,_,hb⟩
    refine⟨.tup [.int .i64 0,.ifv],none,_,rfl,⟨rfl,_,rfl⟩,.inl ⟨rfl,hb,.tup _ _ rfl fun i c x h1 h2=>?_⟩⟩
    rcases i with _|_|i
    · simp at h1 h2;subst h1;subst h2;exact .int _ _
    · simp at h1 h2;subst h1;subst h2;exact .ifv _ _
    · simp at h1
  · obtain⟨t,p,he⟩:=err_ok hM.glob (g:=2) rfl
    refine(Tryz.strconv_Atoi_range ⟨s.toArray⟩ hsz (by simpa using ha) _ w he (.inr ⟨t,p,rfl⟩)).mono ?_
    rintro e w' ⟨N,rfl,_,_,hb⟩
    refine⟨.tup [.int .i64 (Lib.atoiSat (⟨s.toArray⟩:ByteArray).data.toList),.ifv],none,_,rfl,⟨rfl,_,rfl⟩,.inl ⟨rfl,hb,.tup _ _ rfl fun i c x h1 h2=>?_⟩⟩
    rcases i with _|_|i
    · simp at h1 h2;subst h1;subst h2;exact .int _ _
    · simp at h1 h2;subst h1;subst h2;exact .ifv _ _
    · simp at h1
/-- a text, cut at each such byte -/
def cutP (c:UInt8):Txt→List Txt
  |[]=>[[]]
  | b::l=>if b=c then []::cutP c l else match cutP c l with
    |p::r=>(b::p)::r
    |[]=>[[b]]
theorem cutP_ne(c:UInt8):∀ s,cutP c s≠[]
  |[]=>by simp [cutP]
  | b::l=>by
    unfold cutP
    split
    · simp
    · split<;>simp
theorem cutP_len (c:UInt8):∀ s,(cutP c s).length≤s.length+1
  |[]=>by simp [cutP]
  | b ::l=>by
    have ih:=cutP_len c l
    unfold cutP
    split
    · simpa using ih
    · split
      · rename_i p r h
        rw [h] at ih
        simp at ih ⊢
        omega
      · simp
theorem split_cutP (c:UInt8):∀ s,Lib.splitK [c] 0 (Lib.count s [c]) s=cutP c s
  | []=>by
    rw [Lib.count_miss (by simp [Lib.index])]
    rfl
  | b ::l=>by
    have ih:=split_cutP c l
    by_cases h:b=c
    · subst h
      have hix:Lib.index (b::l) [b]=0:=by rw [Lib.index];simp [List.isPrefixOf]
      rw [Lib.count_cons_eq,Nat.add_comm,Lib.splitK,hix,if_neg (by decide)]
      have e:(List.drop ((0:Int).toNat+[b].length) (b::l))=l:=rfl
      rw [e,ih]
      simp [cutP]
    · rw [Lib.count_cons_ne b c l h]
      have hp:([c]:List UInt8).isPrefixOf (b::l)=false:=by simp [List.isPrefixOf,Ne.symm h]
      have hix:Lib.index (b::l) [c]=if Lib.index l [c]== -1 then -1 else Lib.index l [c]+1:=by rw [Lib.index,hp];simp
      by_cases hm:Lib.index l [c]= -1
      · have hc:=Lib.count_miss hm
        rw [hc] at ih ⊢
        have e:cutP c l=[l]:=ih.symm
        simp [cutP,h,e,Lib.splitK]
      · have hge:=Lib.index_ge l [c]
        obtain⟨i,hi⟩:∃ i:Nat,Lib.index l [c]=i:=⟨(Lib.index l [c]).toNat,by omega⟩
        have hc:=Lib.count_hit (s:=l) (sub:=[c]) (by simp) hi
        rw [hc,Nat.add_comm,Lib.splitK,hi,if_neg (by simp)] at ih
        rw [hc,Nat.add_comm,Lib.splitK,hix,if_neg (show ¬ (Lib.index l [c]== -1)=true by simp [hm]),if_neg (show ¬ (Lib.index l [c]+1== -1)=true from fun q=>by have:=beq_iff_eq.1 q;omega),hi]
        have e1:((i:Int)+1).toNat=i+1:=by omega
        have e2:((i:Nat):Int).toNat=i:=by omega
        rw [e2] at ih
        rw [e1]
        simp only [cutP,if_neg h,←ih]
        simp
/-- lists of texts as cells -/
def xsV(l:List Txt):List (List V):=l.map fun s=>[V.str s]
theorem xsV_length{l:List Txt}:(xsV l).length=l.length:=by simp [xsV]
theorem xsplit_c (s:Txt) (c:UInt8) (hs:s.length≤1000000) (m:Mem):Gives Tryz.prog 36 [.str s,.str [c]] m (.lst (xsV (cutP c s))):=by
  refine⟨by kernel_rfl,fun w ρ xs hM hA=>?_⟩
  have hx :xs= #[.string ⟨s.toArray⟩,.string ⟨#[c]⟩]:=by
    have h0:xs.size=2:=by simpa using hA.1.symm
    apply Array.ext
    · simpa using h0
    · intro i h1 h2
      have hi:i<2:=by simpa using h2
      have g:∀ (t:Txt) (y:Value),RelV w ρ (bad m ρ) (.str t) y→y= .string ⟨t.toArray⟩:=by
        intro t y h
        cases h with
        | str _ b hb=>
          obtain⟨⟨l⟩⟩:=b
          simp at hb
          subst hb
          rfl
      rcases i with _|_|i
      · exact g s _ (hA.2 0 _ _ rfl (Array.getElem?_eq_getElem h1))
      · exact g [c] _ (hA.2 1 _ _ rfl (Array.getElem?_eq_getElem h1))
      · omega
  subst hx
  obtain⟨n,hn⟩:=max_ok hM.glob (g:=0) rfl
  have hsz:(⟨s.toArray⟩:ByteArray).size=s.length:=by show s.toArray.size=_;simp
  refine(Tryz.strings_Split ⟨s.toArray⟩ ⟨#[c]⟩ n w (by rw [hsz];omega) hn (Nat.le_refl 1)).mono ?_
  rintro e w' ⟨rfl,rfl⟩
  have hd:(Lib.splitB ⟨#[c]⟩ 0 (Lib.countB ⟨s.toArray⟩ ⟨#[c]⟩) ⟨s.toArray⟩).map (·.data.toList)=cutP c s:=by
    rw [Lib.splitB_data,←split_cutP]
  have hlen:(Lib.splitB ⟨#[c]⟩ 0 (Lib.countB ⟨s.toArray⟩ ⟨#[c]⟩) ⟨s.toArray⟩).length=Lib.countB ⟨s.toArray⟩ ⟨#[c]⟩+1:=Lib.splitB_all ⟨#[c]⟩ (Nat.le_refl 1) 0 _ _ rfl
  generalize Lib.splitB ⟨#[c]⟩ 0 (Lib.countB ⟨s.toArray⟩ ⟨#[c]⟩) ⟨s.toArray⟩=L at *
  generalize Lib.countB ⟨s.toArray⟩ ⟨#[c]⟩=k at *
  have hxl:(xsV (cutP c s)).length=k+1:=by rw [xsV_length,←hd,List.length_map,hlen]
  have hle:k≤s.length:=by
    have:(cutP c s).length≤s.length+1:=by
      exact cutP_len c s
    rw [xsV_length] at hxl
    omega
  have hcell:∀ i,i<k+1→(w.alloc (.cells (L.map Value.string).toArray 9)).cell? ⟨w.heap.size,0+i * 1+0,none⟩=some (.string (L.getD i ByteArray.empty)):=fun i hi=>by
    have hi2:i<L.length:=by omega
    have e:(w.alloc (.cells (L.map Value.string).toArray 9)).heap[w.heap.size]?=some (.cells (L.map Value.string).toArray 9 (0,0)):=by
      show(w.heap.push _)[w.heap.size]?=_
      simp
    unfold World.cell?
    dsimp only
    rw [e]
    simp [hi2,List.getD_eq_getElem?_getD]
  have hat:∀ (i:Nat) e,(xsV (cutP c s))[i]?=some e→i<k+1∧e=[.str (L.getD i ByteArray.empty).data.toList]:=fun i e h=>by
    have hi:=(List.getElem?_eq_some_iff.1 h).1
    have hi2:i<L.length:=by omega
    refine⟨by omega,?_⟩
    unfold xsV at h
    rw [←hd,List.map_map,List.getElem?_map,List.getElem?_eq_getElem hi2] at h
    simp [List.getD_eq_getElem?_getD,hi2] at h ⊢
    exact h.symm
  refine⟨.lst (xsV (cutP c s)),none,_,rfl,⟨rfl,rfl⟩,.inl ⟨rfl,(Below.refl _ _).alloc (Nat.le_refl _) _,?_⟩⟩
  have hfr:¬ bad m ρ w.heap.size:=fun h=>by
    obtain⟨b,blk,r,h1,h2,h3,h4⟩:=h
    cases blk with
    | cells st ty sz es=>
      obtain⟨r',cur,g1,_,_,g4,_⟩:=hM.cells b st ty sz es h1
      rw [h3] at g1
      cases g1
      have:=heap_lt g4
      omega
    | obj st vs φ=>
      obtain⟨r',g1,o,xs,g2,_⟩:=hM.objs b st vs φ h1
      rw [h3] at g1
      cases g1
      have:=heap_lt g2
      omega
    |dead=>simp [Blk.bad] at h2
  rw [←hxl]
  refine .lst _ w.heap.size 0 _ 1 (fun i _=> .string (L.getD i ByteArray.empty)) (by show w.heap.size<(w.heap.push _).size;simp) ?_ (Nat.le_refl _) (by rw [hxl];unfold maxLen;omega) ?_ ?_ ?_ ?_
  · exact hfr
  · intro e he
    obtain⟨t,_,rfl⟩:=List.mem_map.1 he
    rfl
  · intro i j e v h1 h2
    obtain⟨h3,rfl⟩:=hat i e h1
    obtain rfl:j=0:=by
      have:=(List.getElem?_eq_some_iff.1 h2).1
      simp at this;omega
    exact hcell i h3
  · intro i j e v h1 h2
    obtain⟨h3,rfl⟩:=hat i e h1
    obtain rfl:j=0:=by
      have:=(List.getElem?_eq_some_iff.1 h2).1
      simp at this;omega
    simp at h2
    subst h2
    exact .str _ _ rfl
  · intro i j e v h1 h2
    obtain⟨h3,rfl⟩:=hat i e h1
    obtain rfl:j=0:=by
      have:=(List.getElem?_eq_some_iff.1 h2).1
      simp at this;omega
    simp at h2
    subst h2
    rfl
def frzC(b:Nat)(es:List (List V)):Blk→Blk
  | .cells st ty sz xs=> .cells st ty sz (xs.map (List.map (frzV b es)))
  |x=>x
theorem frzC_bad(b:Nat)(es:List (List V))(x:Blk):(frzC b es x).bad=x.bad:=by cases x with|cells st _ _ _=>cases st<;>rfl|obj st _ _=>rfl|dead=>rfl
theorem frzC_own(b:Nat)(es:List (List V))(x:Blk):(frzC b es x).own=x.own:=by cases x with|cells st _ _ _=>cases st<;>rfl|obj st _ _=>rfl|dead=>rfl
theorem frzC_dead{b:Nat}{es:List (List V)}{x:Blk}(h:frzC b es x≠ .dead):x≠ .dead:=by rintro rfl;exact h rfl
theorem frzX_get{b:Nat}{es:List (List V)}{B Y:Mem}{c:Nat}{blk:Blk}(h:(B++Y.map (frzC b es))[c]?=some blk):∃ x,(B++Y)[c]?=some x∧(blk=x∨blk=frzC b es x):=by
  rcases Nat.lt_or_ge c B.length with q|q
  · rw [List.getElem?_append_left q] at h
    exact⟨blk,by rw [List.getElem?_append_left q];exact h,.inl rfl⟩
  · rw [List.getElem?_append_right q,List.getElem?_map,Option.map_eq_some_iff] at h
    obtain⟨x,h1,rfl⟩:=h
    exact⟨x,by rw [List.getElem?_append_right q];exact h1,.inr rfl⟩
theorem frzC_has{p:Blk→Bool}{b:Nat}{es:List (List V)}(hp:∀ x,p (frzC b es x)=p x){B Y:Mem}{ρ:List Re}{k:Nat}:has p (B++Y.map (frzC b es)) ρ k→has p (B++Y) ρ k:=by
  rintro⟨c,blk,r,h1,h2,h3,h4⟩
  obtain⟨x,h1,e⟩:=frzX_get h1
  refine⟨c,x,r,h1,?_,h3,h4⟩
  rcases e with rfl|rfl
  · exact h2
  · exact(hp x).symm.trans h2
theorem frzV_one{b:Nat}{es:List (List V)}{v:V}(h:v.one=true):(frzV b es v).one=true:=by
  unfold frzV
  split
  · split
    · rfl
    · exact h
  · exact h
theorem RelM.fzC {w:World} {ρ:List Re} {B X:Mem} (hM:RelM w ρ (B++X)) {j:Nat} {st:Sta} {ty sz:Nat} {es:List (List V)} (hX:X[j]?=some (.cells st ty sz es)):RelM w ρ (B++(X.set j (.cells .ro ty sz es)).map (frzC (B.length+j) es)):=by
  have hb:(B++X)[B.length+j]?=some (.cells st ty sz es):=by rw [List.getElem?_append_right (Nat.le_add_right _ _),Nat.add_sub_cancel_left];exact hX
  have hset:(B++X).set (B.length+j) (.cells .ro ty sz es)=B++X.set j (.cells .ro ty sz es):=by rw [List.set_append_right _ _ (Nat.le_add_right _ _),Nat.add_sub_cancel_left]
  have af:=After.of_ro hM hb
  have h1:=af.mem
  have hfr:=fun {v:V} {x:Value} (h:RelV w ρ (bad (B++X) ρ) v x)=>frzV_rel hM hb h
  have hgen:=fun {v:V} {x:Value} (h:RelV w ρ (bad (B++X) ρ) v x)=>af.rel h
  rw [hset] at h1
  simp only [hset] at hfr hgen
  have hjl:j<X.length:=(List.getElem?_eq_some_iff.1 hX).1
  have hsub:∀ k,bad (B++(X.set j (.cells .ro ty sz es)).map (frzC (B.length+j) es)) ρ k→bad (B++X.set j (.cells .ro ty sz es)) ρ k:=fun k=>frzC_has (frzC_bad _ es)
  have hrel:∀ {v:V} {x:Value},RelV w ρ (bad (B++X.set j (.cells .ro ty sz es)) ρ) v x→RelV w ρ (bad (B++(X.set j (.cells .ro ty sz es)).map (frzC (B.length+j) es)) ρ) v x:=fun hr=>hr.mono (Nat.le_refl _) (fun _ _ _=>rfl) (fun k _ h=>hsub k h) (fun _ _ h=>h)
  have old:∀ {c:Nat} {st':Sta} {ty' sz':Nat} {es0:List (List V)},(B++X.set j (.cells .ro ty sz es))[c]?=some (.cells st' ty' sz' es0)→∃ st1,(B++X)[c]?=some (.cells st1 ty' sz' es0):=by
    intro c st' ty' sz' es0 hx
    rcases Nat.lt_or_ge c B.length with q|q
    · rw [List.getElem?_append_left q] at hx
      exact⟨st',by rw [List.getElem?_append_left q];exact hx⟩
    · rw [List.getElem?_append_right q,List.getElem?_set] at hx
      split at hx
      · rename_i e
        simp only [←e,Option.some.injEq,hjl,if_true] at hx
        cases hx
        exact⟨st,by rw [List.getElem?_append_right q,←e];exact hX⟩
      · exact⟨st',by rw [List.getElem?_append_right q];exact hx⟩
  refine⟨by simpa using h1.len,fun c st' ty' sz' es' hc=>?_,fun c c' blk blk' r r' a1 a2 a3 a4 a5 a6 a7=>?_,fun c st' vs φ hc=>?_,h1.glob.mono fun v x h=>hrel h⟩
  · obtain⟨x,hx,he⟩:=frzX_get hc
    rcases he with rfl|he
    · obtain⟨st1,hm⟩:=old hx
      obtain⟨r,cur,k1,k2,k3,k4,k5,k6,k7,k8,k9⟩:=hM.cells c st1 ty' sz' es' hm
      refine⟨r,cur,k1,k2,k3,k4,k5,k6,k7,k8,fun i j e v a1 a2=>?_⟩
      obtain⟨b1,y,b2,b3⟩:=k9 i j e v a1 a2
      exact⟨b1,y,b2,hrel (hgen b3)⟩
    · cases x with
      | cells st0 ty0 sz0 es0=>
        simp only [Go.Proofs.YtookikhphobnlaaGreatDoor.frzC,Blk.cells.injEq] at he
        obtain⟨rfl,rfl,rfl,rfl⟩:=he
        obtain⟨st1,hm⟩:=old hx
        obtain⟨r,cur,k1,k2,k3,k4,k5,k6,k7,k8,k9⟩:=hM.cells c st1 ty' sz' es0 hm
        refine⟨r,cur,k1,k2,k3,k4,k5,by simpa using k6,k7,fun e he=>?_,fun i j e v a1 a2=>?_⟩
        · obtain⟨e0,h2,rfl⟩:=List.mem_map.1 he
          simpa using k8 e0 h2
        · rw [List.getElem?_map,Option.map_eq_some_iff] at a1
          obtain⟨e0,a1,rfl⟩:=a1
          rw [List.getElem?_map,Option.map_eq_some_iff] at a2
          obtain⟨v0,a2,rfl⟩:=a2
          obtain⟨b1,y,b2,b3⟩:=k9 i j e0 v0 a1 a2
          exact⟨frzV_one b1,y,b2,hrel (hfr b3)⟩
      |obj _ _ _=>simp [Go.Proofs.YtookikhphobnlaaGreatDoor.frzC] at he
      |dead=>simp [Go.Proofs.YtookikhphobnlaaGreatDoor.frzC] at he
  · obtain⟨x,hx,e1⟩:=frzX_get a1
    obtain⟨x',hx',e2⟩:=frzX_get a3
    refine h1.inj c c' x x' r r' hx ?_ hx' ?_ a5 a6 a7
    · rcases e1 with rfl|rfl
      · exact a2
      · exact frzC_dead a2
    · rcases e2 with rfl|rfl
      · exact a4
      · exact(frzC_bad _ es x').symm.trans a4
  · obtain⟨x,hx,he⟩:=frzX_get hc
    have hx2:(B++X.set j (.cells .ro ty sz es))[c]?=some (.obj st' vs φ):=by
      rcases he with rfl|he
      · exact hx
      · cases x with
        |cells _ _ _ _=>simp [Go.Proofs.YtookikhphobnlaaGreatDoor.frzC] at he
        |dead=>simp [Go.Proofs.YtookikhphobnlaaGreatDoor.frzC] at he
        |obj st0 vs0 φ0=>rw [he];exact hx
    obtain⟨r,k1,k2⟩:=h1.objs c st' vs φ hx2
    exact⟨r,k1,k2.mono (fun _=>rfl) fun v x h=>hrel h⟩
section
variable {P:Program} {N:Nat} {t:List (Nat×V)} {m:Mem}
theorem WA_fzM{c:Code}{Q:Exit→List (Nat×V)→Mem→Prop}{B X:Mem}{j:Nat}{st:Sta}{ty sz:Nat}{es:List (List V)}(hX:X[j]?=some (.cells st ty sz es))(h:WA P N c (t.map fun p=>(p.1,frzV (B.length+j) es p.2)) (B++(X.set j (.cells .ro ty sz es)).map (frzC (B.length+j) es)) Q):WA P N c t (B++X) Q:=by
  intro F hF z w ρ a hR
  have hb:(B++X)[B.length+j]?=some (.cells st ty sz es):=by rw [List.getElem?_append_right (Nat.le_add_right _ _),Nat.add_sub_cancel_left];exact hX
  have hset:(B++X).set (B.length+j) (.cells .ro ty sz es)=B++X.set j (.cells .ro ty sz es):=by rw [List.set_append_right _ _ (Nat.le_add_right _ _),Nat.add_sub_cancel_left]
  have af0:=After.of_ro hR.mem hb
  have hM2:=hR.mem.fzC hX
  have hfr:=fun i=>frzV_rel hR.mem hb (hR.tm i)
  rw [hset] at af0
  simp only [hset] at hfr
  have hsub:∀ k,bad (B++(X.set j (.cells .ro ty sz es)).map (frzC (B.length+j) es)) ρ k→bad (B++X.set j (.cells .ro ty sz es)) ρ k:=fun k=>frzC_has (frzC_bad _ es)
  have af:After w ρ (B++X) w ρ (B++(X.set j (.cells .ro ty sz es)).map (frzC (B.length+j) es)):=⟨af0.keep,af0.pre,hM2,fun k hk ho=>af0.own k hk (frzC_has (frzC_own _ es) ho),fun k hk ho=>af0.bd k hk (hsub k ho)⟩
  have e:∀ (t:List (Nat×V)) i,tget (t.map fun p=>(p.1,frzV (B.length+j) es p.2)) i=frzV (B.length+j) es (tget t i):=by
    intro t i
    induction t with
    |nil=>rfl
    | cons p r ih=>
      simp only [List.map_cons,tget]
      split
      · rfl
      · exact ih
  refine wpIn_mono (h F hF z w ρ a ⟨hM2,fun i=>?_,hR.size,hR.defers.after af⟩) ?_
  · rw [e];exact(hfr i).mono (Nat.le_refl _) (fun _ _ _=>rfl) (fun k _ h=>hsub k h) (fun _ _ h=>h)
  · rintro e a1 w1 ⟨t',m',ρ',hq,hR',af'⟩
    exact⟨t',m',ρ',hq,hR',af.trans af'⟩
/-- a stop behind a piece of code -/
theorem WA_stop{x y:Code}{Q:Exit→List (Nat×V)→Mem→Prop}(h:∀ K:List (Nat×V)→Mem→Prop,(∀ t m,WA P N y t m Q→K t m)→WA P N x t m (qThen K Q)):WA P N (.seq x y) t m Q:=WA_seq' (h _ fun _ _ h=>h)
end
end Go.Proofs.YtookikhphobnlaaGreatDoor
