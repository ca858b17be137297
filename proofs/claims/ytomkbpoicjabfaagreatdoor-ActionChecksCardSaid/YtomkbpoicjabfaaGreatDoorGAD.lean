import Derived.Test.YtomkbpoicjabfaaGreatDoorC5
import Derived.Test.YtomkbpoicjabfaaGreatDoorGAB
import Derived.Test.YtomkbpoicjabfaaGreatDoorGAA
set_option linter.unusedSimpArgs false
set_option linter.unusedVariables false
/- contracts: where a number lies on a curve; slopes -/
namespace Go.Proofs.YtomkbpoicjabfaaGreatDoor
open Go.RowKit
attribute [local irreducible] WA WOs WDs WAn qThen qBlock tput
set_option maxHeartbeats 1000000
set_option maxRecDepth 20000
set_option linter.unusedSimpArgs false
set_option linter.unusedVariables false
attribute [local irreducible] smB cut sm
def ptsV(c:List Pt):List (List V):=c.map ptV
theorem ptsV_length{c:List Pt}:(ptsV c).length=c.length:=by simp [ptsV]
theorem ptsV_get{c:List Pt}{i:Nat}(h:i<c.length):(ptsV c)[i]?=some (ptV (at' c i)):=by
  unfold ptsV;rw [List.getElem?_map,at_get h];rfl
theorem ptsV_raw(c:List Pt):ptsV c=rksV (c.map raw):=by simp [ptsV,rksV,ptV,rkV,raw,rawQ]
theorem ptsV_plain(c:List Pt):plainLL (ptsV c)=true:=by rw [ptsV_raw];exact rksV_plain _
theorem ptsV_flat(c:List Pt):(ptsV c).all flatL=true:=by rw [ptsV_raw];exact rksV_flat _
theorem b_shr1{P:Program}{m:Mem}{T:TypeId}{j:IntKind}{a:Int}:evB P m .shr T (.int .u64 a) (.int j 1)=some (True,.int .u64 (a / 2),m):=by
  rw [b_shr]
  have h1:(min (Int.toNat 1) IntKind.u64.bits)=1:=rfl
  rw [h1]
  have h2:a.fdiv (2 ^ 1)=a / 2:=by rw [Int.fdiv_eq_ediv_of_nonneg];rfl;decide
  rw [h2]
  simp

theorem astretch1_c(p:Pt)(x:Rat)(hp:sm p.1)(hx:sm x)(m:Mem):Gives Tryz.prog 106 [.agg (ptV p),.agg [.int .i64 (Rat.num (x)),.int .i64 ((Rat.den (x):Nat):Int)]] m (.int .i64 (if p.1≤x then -1 else 1)):=by
  have hle:=cmpQ_le (p:=p.1) (q:=x)
  unfold ptV
  by_cases h:p.1≤x
  · have hc:=hle.2 h
    rw [if_pos h]
    refine Gives_in Tryz.func106 rfl Tryz.ntmps106 Tryz.results106 (by kernel_rfl) (by simp) rfl fun Q hQ=>?_
    (repeat'(first|(refine sx ?_ ?_<;>intro h<;>first|(exfalso;omega)|skip)|(refine g_op ?_;refine g_call ?_;refine g_args ?_;(first|refine s_fn (acompare_c p.1 x hp hx _) ?_)<;>try first|omega|assumption)|refine ny ?_|refine WA_block ?_))
    all_goals first|(exfalso;omega)|(refine r_es hQ ?_;try with_reducible rfl)
  · have hc:¬ cmpQ p.1 x≤0:=fun h1=>h (hle.1 h1)
    rw [if_neg h]
    refine Gives_in Tryz.func106 rfl Tryz.ntmps106 Tryz.results106 (by kernel_rfl) (by simp) rfl fun Q hQ=>?_
    (repeat'(first|(refine sx ?_ ?_<;>intro h<;>first|(exfalso;omega)|skip)|(refine g_op ?_;refine g_call ?_;refine g_args ?_;(first|refine s_fn (acompare_c p.1 x hp hx _) ?_)<;>try first|omega|assumption)|refine ny ?_|refine WA_block ?_))
    all_goals first|(exfalso;omega)|(refine r_es hQ ?_;try with_reducible rfl)
theorem uC7_105_5{N:Nat}{l:List Oper}{t:List (Nat×V)}{m:Mem}{Q:Exit→List (Nat×V)→Mem→Prop}(h:RgN Tryz.prog N l t m Q (fun i=>if i==4 || i==5 || i==6 then .q else .p) [.one 0,.one 1,.one 2,.one 3,.one 4,.one 5,.one 6,.one 7]):WA Tryz.prog N (.region 5 l.toArray true) t m Q:=d_rgN h
theorem uC7_105_8{N:Nat}{l:List Oper}{t:List (Nat×V)}{m:Mem}{Q:Exit→List (Nat×V)→Mem→Prop}(h:RgN Tryz.prog N l t m Q (fun i=>if i==9 || i==10 || i==11 then .q else .p) [.one 0,.one 1,.one 2,.one 3,.one 4,.one 5,.one 6,.one 7,.one 8,.one 9,.one 10,.one 11,.one 12,.one 13,.one 14,.one 15]):WA Tryz.prog N (.region 8 l.toArray true) t m Q:=d_rgN h
theorem absearch_c(c:List Pt)(x:Rat)(hv:Valid c)(hx:sm x)(m:Mem):Gives Tryz.prog 105 [.lst (ptsV c),.agg [.int .i64 (Rat.num (x)),.int .i64 ((Rat.den (x):Nat):Int)],.clo (.func 106) [] []] m (.tup [.int .i64 (cnt c x),.bool false]):=by
  have hlen:=ptsV_length (c:=c)
  have hfew:=hv.few
  have hget:=hlen
  have hh:=hlen
  have hcl:=fun m=>astretch1_c (0,0) 0 sm_zero sm_zero m
  refine Gives_in Tryz.func105 rfl Tryz.ntmps105 Tryz.results105 (by kernel_rfl) (by simp) rfl fun Q hQ=>?_
  (have FX:=And.intro hlen (And.intro hget (And.intro hh @b_shr1));repeat'(first|(refine sx ?_ ?_<;>intro h<;>first|(exfalso;omega)|skip)|(refine g_op ?_;refine g_call ?_;refine g_args ?_;(first|refine s_fn (hcl _) ?_)<;>try first|omega|assumption)|(refine g_op ?_;refine g_dyn ?_;refine g_dargs ?_;first|(refine s_fn (hcl _) ?_<;>try first|omega|assumption))|refine ny ?_|refine WA_block ?_|(refine uC7_105_5 ?_;refine⟨by kernel_rfl,?_⟩)|(refine uC7_105_8 ?_;refine⟨by kernel_rfl,?_⟩)|((first|refine grp_cons (fun _=>hcl _) ?_)<;>try first|omega|assumption)|(refine g_d ?_;refine d_args ?_;(first|refine d_fn (hcl _) ?_|refine d_fnQ (fun _=>hcl _) ?_)<;>try first|omega|assumption)|(refine g_d ?_;(first|refine d_fnY (hcl _) ?_)<;>try first|omega|assumption)|(refine g_d ?_;first|(refine d_dyn (hcl _) ?_<;>try first|omega|assumption)|(refine d_dynY (hcl _) ?_<;>try first|omega|assumption))))
  refine WA_whileK (σ:=Nat×Nat) [0,2,4,8,9,10] (fun s=>[.lst (ptsV c),.clo (.func 106) [] [],.ptr (lend m).length 0 0,.int .i64 c.length,.int .i64 s.1,.int .i64 s.2]) (fun _=>[.cells .own 43 2 [[.int .i64 x.num,.int .i64 (x.den:Int)]]]) 1 (fun s=>s.1≤s.2∧s.2≤c.length∧(∀ j,j<s.1→(at' c j).1≤x)∧(∀ j,s.2≤j→j<c.length→x<(at' c j).1)) (fun s=>s.2 - s.1) (0,c.length) ⟨Nat.zero_le _,Nat.le_refl _,fun j h=>absurd h (Nat.not_lt_zero _),fun j h1 h2=>absurd h2 (Nat.not_lt.2 h1)⟩ tv_ rfl (fun _=>rfl) (by intro s s' _ _;simp [conB,conS,V.keeps,V.plain,Blk.flat,flatL,plainL,V.flat]) (by intro s s' _ _;simp [conB,conS,V.keeps,V.plain,Blk.flat,flatL,plainL,V.flat]) ?_
  rintro⟨i,j⟩ ⟨i1,i2,i3,i4⟩ K hK
  dsimp only at i1 i2 i3 i4
  simp only [zipT]
  clear FX
  rcases Nat.lt_or_ge i j with hij|hij
  · have hm:(i+j) / 2<c.length:=by omega
    have hget:=ptsV_get hm
    have hh:(((i:Int)+(j:Int)) / 2).toNat=(i+j) / 2:=by omega
    have hcl:=fun m=>astretch1_c (at' c ((i+j) / 2)) x (hv.sm _ hm).1 hx m
    unfold ptV at hcl hget
    by_cases hle:(at' c ((i+j) / 2)).1≤x
    · rw [if_pos hle] at hcl
      (have FX:=And.intro hlen (And.intro hget (And.intro hh @b_shr1));repeat'(first|(refine sx ?_ ?_<;>intro h<;>first|(exfalso;omega)|skip)|(refine g_op ?_;refine g_call ?_;refine g_args ?_;(first|refine s_fn (hcl _) ?_)<;>try first|omega|assumption)|(refine g_op ?_;refine g_dyn ?_;refine g_dargs ?_;first|(refine s_fn (hcl _) ?_<;>try first|omega|assumption))|refine ny ?_|refine WA_block ?_|(refine uC7_105_5 ?_;refine⟨by kernel_rfl,?_⟩)|(refine uC7_105_8 ?_;refine⟨by kernel_rfl,?_⟩)|((first|refine grp_cons (fun _=>hcl _) ?_)<;>try first|omega|assumption)|(refine g_d ?_;refine d_args ?_;(first|refine d_fn (hcl _) ?_|refine d_fnQ (fun _=>hcl _) ?_)<;>try first|omega|assumption)|(refine g_d ?_;(first|refine d_fnY (hcl _) ?_)<;>try first|omega|assumption)|(refine g_d ?_;first|(refine d_dyn (hcl _) ?_<;>try first|omega|assumption)|(refine d_dynY (hcl _) ?_<;>try first|omega|assumption))))
      all_goals(try(exfalso;omega))
      all_goals(refine nextL_ hK ((i+j) / 2+1,j) ⟨by dsimp only;omega,i2,fun k h2=>?_,i4⟩ (by dsimp only;omega))
      all_goals(dsimp only at h2;exact Rat.le_trans (hv.asc.le (by omega) hm) hle)
    · rw [if_neg hle] at hcl
      (have FX:=And.intro hlen (And.intro hget (And.intro hh @b_shr1));repeat'(first|(refine sx ?_ ?_<;>intro h<;>first|(exfalso;omega)|skip)|(refine g_op ?_;refine g_call ?_;refine g_args ?_;(first|refine s_fn (hcl _) ?_)<;>try first|omega|assumption)|(refine g_op ?_;refine g_dyn ?_;refine g_dargs ?_;first|(refine s_fn (hcl _) ?_<;>try first|omega|assumption))|refine ny ?_|refine WA_block ?_|(refine uC7_105_5 ?_;refine⟨by kernel_rfl,?_⟩)|(refine uC7_105_8 ?_;refine⟨by kernel_rfl,?_⟩)|((first|refine grp_cons (fun _=>hcl _) ?_)<;>try first|omega|assumption)|(refine g_d ?_;refine d_args ?_;(first|refine d_fn (hcl _) ?_|refine d_fnQ (fun _=>hcl _) ?_)<;>try first|omega|assumption)|(refine g_d ?_;(first|refine d_fnY (hcl _) ?_)<;>try first|omega|assumption)|(refine g_d ?_;first|(refine d_dyn (hcl _) ?_<;>try first|omega|assumption)|(refine d_dynY (hcl _) ?_<;>try first|omega|assumption))))
      all_goals(try(exfalso;omega))
      all_goals(refine nextL_ hK (i,(i+j) / 2) ⟨by dsimp only;omega,by dsimp only;omega,i3,fun k h2 h3=>?_⟩ (by dsimp only;omega))
      all_goals(dsimp only at h2;have h5:=hv.asc.le h2 h3;have h6:=Rat.not_le.1 hle;grind)
  · have hij':i=j:=by omega
    subst hij'
    have hcn:=cnt_uniq hv.asc i2 i3 i4
    rw [←hcn] at hQ
    rcases Nat.lt_or_ge i c.length with hi|hi
    · have hget:=ptsV_get hi
      have hh:((i:Int)).toNat=i:=by omega
      have hcl:=fun m=>astretch1_c (at' c i) x (hv.sm _ hi).1 hx m
      rw [if_neg (Rat.not_le.2 (i4 i (Nat.le_refl _) hi))] at hcl
      unfold ptV at hcl hget
      (have FX:=And.intro hlen (And.intro hget (And.intro hh @b_shr1));repeat'(first|(refine sx ?_ ?_<;>intro h<;>first|(exfalso;omega)|skip)|(refine g_op ?_;refine g_call ?_;refine g_args ?_;(first|refine s_fn (hcl _) ?_)<;>try first|omega|assumption)|(refine g_op ?_;refine g_dyn ?_;refine g_dargs ?_;first|(refine s_fn (hcl _) ?_<;>try first|omega|assumption))|refine ny ?_|refine WA_block ?_|(refine uC7_105_5 ?_;refine⟨by kernel_rfl,?_⟩)|(refine uC7_105_8 ?_;refine⟨by kernel_rfl,?_⟩)|((first|refine grp_cons (fun _=>hcl _) ?_)<;>try first|omega|assumption)|(refine g_d ?_;refine d_args ?_;(first|refine d_fn (hcl _) ?_|refine d_fnQ (fun _=>hcl _) ?_)<;>try first|omega|assumption)|(refine g_d ?_;(first|refine d_fnY (hcl _) ?_)<;>try first|omega|assumption)|(refine g_d ?_;first|(refine d_dyn (hcl _) ?_<;>try first|omega|assumption)|(refine d_dynY (hcl _) ?_<;>try first|omega|assumption))))
      all_goals(try(exfalso;omega))
      all_goals(refine r_es hQ ?_;try with_reducible rfl)
    · have hget:=hlen
      have hh:=hlen
      have hcl:=fun m=>astretch1_c (0,0) 0 sm_zero sm_zero m
      (have FX:=And.intro hlen (And.intro hget (And.intro hh @b_shr1));repeat'(first|(refine sx ?_ ?_<;>intro h<;>first|(exfalso;omega)|skip)|(refine g_op ?_;refine g_call ?_;refine g_args ?_;(first|refine s_fn (hcl _) ?_)<;>try first|omega|assumption)|(refine g_op ?_;refine g_dyn ?_;refine g_dargs ?_;first|(refine s_fn (hcl _) ?_<;>try first|omega|assumption))|refine ny ?_|refine WA_block ?_|(refine uC7_105_5 ?_;refine⟨by kernel_rfl,?_⟩)|(refine uC7_105_8 ?_;refine⟨by kernel_rfl,?_⟩)|((first|refine grp_cons (fun _=>hcl _) ?_)<;>try first|omega|assumption)|(refine g_d ?_;refine d_args ?_;(first|refine d_fn (hcl _) ?_|refine d_fnQ (fun _=>hcl _) ?_)<;>try first|omega|assumption)|(refine g_d ?_;(first|refine d_fnY (hcl _) ?_)<;>try first|omega|assumption)|(refine g_d ?_;first|(refine d_dyn (hcl _) ?_<;>try first|omega|assumption)|(refine d_dynY (hcl _) ?_<;>try first|omega|assumption))))
      all_goals(try(exfalso;omega))
      all_goals(refine r_es hQ ?_;try with_reducible rfl)

theorem astretch_c(c:List Pt)(x:Rat)(hv:Valid c)(hx:sm x)(m:Mem):Gives Tryz.prog 79 [.agg [.lst (ptsV c)],.agg [.int .i64 (Rat.num (x)),.int .i64 ((Rat.den (x):Nat):Int)]] m (.int .i64 ((cnt c x:Int) - 1)):=by
  have hn:=cnt_le c x
  have hf:=hv.few
  refine Gives_in Tryz.func79 rfl Tryz.ntmps79 Tryz.results79 (by kernel_rfl) (by simp) rfl fun Q hQ=>?_
  (repeat'(first|(refine sx ?_ ?_<;>intro h<;>first|(exfalso;omega)|skip)|(refine g_op ?_;refine g_call ?_;refine g_args ?_;(first|refine s_fn (absearch_c c x hv hx _) ?_)<;>try first|omega|assumption)|refine ny ?_|refine WA_block ?_))
  all_goals(refine r_es hQ ?_;try with_reducible rfl)
end Go.Proofs.YtomkbpoicjabfaaGreatDoor
namespace Go.Proofs.YtomkbpoicjabfaaGreatDoor
open Go.RowKit
structure PartR where
  name:List UInt8
  driver:List UInt8
  cor:List Rk
  wt:Int
  fr:Int
structure EvR where
  name:List UInt8
  part:List UInt8
  lev:Int
  fall:Bool
structure ActR where
  dip:Int
  parts:List PartR
  evs:List EvR
  leads:List (Int×Int)
def prtV(p:PartR):List V:=[.str p.name,.str p.driver,.lst (rksV p.cor),.int .i64 p.wt,.int .i64 p.fr]
def evV(e:EvR):List V:=[.str e.name,.str e.part,.int .i64 e.lev,.bool e.fall]
def ldV(l:Int×Int):List V:=[.int .i64 l.1,.int .i64 l.2]
def prtsV(l:List PartR):List (List V):=l.map prtV
def evsV(l:List EvR):List (List V):=l.map evV
def ldsV(l:List (Int×Int)):List (List V):=l.map ldV
def actV(a:ActR):List V:=[.int .i64 a.dip,.lst (prtsV a.parts),.lst (evsV a.evs),.lst (ldsV a.leads)]
def p0:PartR:=⟨[],[],[],0,0⟩
def e0:EvR:=⟨[],[],0,false⟩
def l0:Int×Int:=(0,0)
theorem list_get{α:Type}{l:List α}{d:α}{i:Nat}(h:i<l.length):l[i]?=some (l.getD i d):=by
  rw [List.getD_eq_getElem?_getD,List.getElem?_eq_getElem h];rfl
theorem prtsV_length{l:List PartR}:(prtsV l).length=l.length:=by simp [prtsV]
theorem evsV_length{l:List EvR}:(evsV l).length=l.length:=by simp [evsV]
theorem ldsV_length{l:List (Int×Int)}:(ldsV l).length=l.length:=by simp [ldsV]
theorem prtsV_get{l:List PartR}{i:Nat}(h:i<l.length):(prtsV l)[i]?=some (prtV (l.getD i p0)):=by
  unfold prtsV;rw [List.getElem?_map,list_get h];rfl
theorem evsV_get{l:List EvR}{i:Nat}(h:i<l.length):(evsV l)[i]?=some (evV (l.getD i e0)):=by
  unfold evsV;rw [List.getElem?_map,list_get h];rfl
theorem ldsV_get{l:List (Int×Int)}{i:Nat}(h:i<l.length):(ldsV l)[i]?=some (ldV (l.getD i l0)):=by
  unfold ldsV;rw [List.getElem?_map,list_get h];rfl
/-- the number of the first one that is such, or -1 -/
def fidx{α:Type}(f:α→Bool)(l:List α):Int:=match l.findIdx? f with
  |some i=>(i:Int)
  |none=> -1
theorem fidx_at{α:Type}{f:α→Bool}{l:List α}{d:α}{i:Nat}(hi:i<l.length)(h0:∀ j,j<i→f (l.getD j d)=false)(h:f (l.getD i d)=true):fidx f l=i:=by
  have:l.findIdx? f=some i:=by
    rw [List.findIdx?_eq_some_iff_getElem]
    have hg:∀ j (hj:j<l.length),l[j]=l.getD j d:=fun j hj=>by rw [List.getD_eq_getElem?_getD,List.getElem?_eq_getElem hj];rfl
    refine⟨hi,by rw [hg i hi];exact h,fun j hj=>?_⟩
    rw [hg j (by omega),h0 j hj];simp
  unfold fidx;rw [this]
theorem fidx_no{α:Type}{f:α→Bool}{l:List α}{d:α}(h0:∀ j,j<l.length→f (l.getD j d)=false):fidx f l= -1:=by
  have:l.findIdx? f=none:=by
    rw [List.findIdx?_eq_none_iff]
    intro x hx
    obtain⟨j,hj,rfl⟩:=List.getElem_of_mem hx
    have:=h0 j hj
    rw [List.getD_eq_getElem?_getD,List.getElem?_eq_getElem hj] at this
    exact this
  unfold fidx;rw [this]
theorem fidx_cases{α:Type}(f:α→Bool)(l:List α)(d:α):fidx f l= -1∧(∀ j,j<l.length→f (l.getD j d)=false)∨∃ i,i<l.length∧fidx f l=(i:Int)∧f (l.getD i d)=true∧∀ j,j<i→f (l.getD j d)=false:=by
  have hg:∀ j (hj:j<l.length),l[j]=l.getD j d:=fun j hj=>by rw [List.getD_eq_getElem?_getD,List.getElem?_eq_getElem hj];rfl
  cases h:l.findIdx? f with
  | none=>
    refine .inl ⟨by unfold fidx;rw [h],fun j hj=>?_⟩
    rw [List.findIdx?_eq_none_iff] at h
    rw [←hg j hj]
    exact h _ (List.getElem_mem hj)
  | some i=>
    obtain⟨h1,h2,h3⟩:=List.findIdx?_eq_some_iff_getElem.1 h
    refine .inr ⟨i,h1,by unfold fidx;rw [h],by rw [←hg i h1];exact h2,fun j hj=>?_⟩
    have:=h3 j hj
    rw [hg j (by omega)] at this
    simpa using this
theorem fidx_bd{α:Type}(f:α→Bool)(l:List α): -1≤fidx f l∧fidx f l<l.length:=by
  unfold fidx
  split
  · rename_i i h
    obtain⟨h1,_⟩:=List.findIdx?_eq_some_iff_getElem.1 h
    omega
  · omega
def isP(s:List UInt8)(p:PartR):Bool:=decide (p.name=s)
def isE(s:List UInt8)(e:EvR):Bool:=decide (e.name=s)
def I64(n:Int):Prop:= -9223372036854775808≤n∧n≤9223372036854775807
theorem okfr{cs:List V}(h:OkcL [.int .i64,.int .i64] cs):∃ a b:Int,cs=[.int .i64 a,.int .i64 b]∧I64 a∧I64 b:=by
  obtain⟨a,_,rfl,ha,h⟩:=okcL_int h
  obtain⟨b,_,rfl,hb,h⟩:=okcL_int h
  obtain rfl:=okcL_nil h
  rw [i64min,i64max'] at ha hb
  exact⟨a,b,rfl,ha,hb⟩
abbrev TyFr:Ty:= .agg [.int .i64,.int .i64]
abbrev TyKn:Ty:= .agg [TyFr,TyFr]
theorem oks_rks{es:List (List V)}(h:∀ x∈es,Okc TyKn x):∃ l:List Rk,es=rksV l:=by
  have key:∀ x,Okc TyKn x→∃ a:Rk,x=rkV a∧True:=by
    intro x hx
    obtain⟨p,q,rfl,hp,hq⟩:=okcL_agg (show OkcL _ x from hx)
    obtain⟨q1,q',rfl,hq1,hq'⟩:=okcL_agg hq
    obtain rfl:=okcL_nil hq'
    obtain⟨a,b,rfl,_,_⟩:=okfr hp
    obtain⟨c,d,rfl,_,_⟩:=okfr hq1
    exact⟨((a,b),(c,d)),rfl,trivial⟩
  obtain⟨l,h1,_⟩:=oks_map key h
  exact⟨l,h1⟩
theorem okcv{cs:List V}(h:OkcL [.sl TyKn] cs):∃ l:List Rk,cs=[.lst (rksV l)]:=by
  obtain⟨c,q,rfl,hp,hq⟩:=h
  obtain rfl:=okcL_nil hq
  obtain⟨es,rfl,_,h2⟩:=hp
  obtain⟨l,rfl⟩:=oks_rks h2
  exact⟨l,rfl⟩
abbrev TyPt:Ty:= .agg [.str,.str,.agg [.sl TyKn],.int .i64,.int .i64]
abbrev TyEv:Ty:= .agg [.str,.str,.int .i64,.bool]
abbrev TyLd:Ty:= .agg [.int .i64,.int .i64]
theorem oks_parts{es:List (List V)}(h:∀ x∈es,Okc TyPt x):∃ l:List PartR,es=prtsV l:=by
  have key:∀ x,Okc TyPt x→∃ a:PartR,x=prtV a∧True:=by
    intro x hx
    obtain⟨p1,q1,rfl,⟨s,rfl,_⟩,g1⟩:=(show OkcL _ x from hx)
    obtain⟨p2,q2,rfl,⟨t,rfl,_⟩,g2⟩:=g1
    obtain⟨p3,q3,rfl,hp,g3⟩:=okcL_agg g2
    obtain⟨l,rfl⟩:=okcv hp
    obtain⟨a,_,rfl,_,g4⟩:=okcL_int g3
    obtain⟨b,_,rfl,_,g5⟩:=okcL_int g4
    obtain rfl:=okcL_nil g5
    exact⟨⟨s,t,l,a,b⟩,rfl,trivial⟩
  obtain⟨l,h1,_⟩:=oks_map key h
  exact⟨l,h1⟩
theorem oks_evs{es:List (List V)}(h:∀ x∈es,Okc TyEv x):∃ l:List EvR,es=evsV l:=by
  have key:∀ x,Okc TyEv x→∃ a:EvR,x=evV a∧True:=by
    intro x hx
    obtain⟨p1,q1,rfl,⟨s,rfl,_⟩,g1⟩:=(show OkcL _ x from hx)
    obtain⟨p2,q2,rfl,⟨t,rfl,_⟩,g2⟩:=g1
    obtain⟨a,_,rfl,_,g3⟩:=okcL_int g2
    obtain⟨p3,q3,rfl,⟨b,rfl⟩,g4⟩:=g3
    obtain rfl:=okcL_nil g4
    exact⟨⟨s,t,a,b⟩,rfl,trivial⟩
  obtain⟨l,h1,_⟩:=oks_map key h
  exact⟨l,h1⟩
theorem oks_lds{es:List (List V)}(h:∀ x∈es,Okc TyLd x):∃ l:List (Int×Int),es=ldsV l:=by
  obtain⟨l,h1,_⟩:=oks_pairs h
  exact⟨l,h1⟩
abbrev TyAc:List Ty:=[.int .i64,.sl TyPt,.sl TyEv,.sl TyLd]
theorem okact{cs:List V}(h:OkcL TyAc cs):∃ a:ActR,cs=actV a:=by
  obtain⟨d,_,rfl,_,g1⟩:=okcL_int h
  obtain⟨p1,q1,rfl,⟨es,rfl,_,h1⟩,g2⟩:=g1
  obtain⟨p2,q2,rfl,⟨vs,rfl,_,h2⟩,g3⟩:=g2
  obtain⟨p3,q3,rfl,⟨ls,rfl,_,h3⟩,g4⟩:=g3
  obtain rfl:=okcL_nil g4
  obtain⟨l,rfl⟩:=oks_parts h1
  obtain⟨e,rfl⟩:=oks_evs h2
  obtain⟨k,rfl⟩:=oks_lds h3
  exact⟨⟨d,l,e,k⟩,rfl⟩
end Go.Proofs.YtomkbpoicjabfaaGreatDoor
