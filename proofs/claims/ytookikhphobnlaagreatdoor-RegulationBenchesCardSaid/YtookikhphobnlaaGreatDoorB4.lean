/- contracts: the checks of measures, effects, names before -/
import Derived.Test.YtookikhphobnlaaGreatDoorB3
import Derived.Test.YtookikhphobnlaaGreatDoorGAB
set_option linter.unusedSimpArgs false
set_option linter.unusedVariables false
namespace Go.Proofs.YtookikhphobnlaaGreatDoor
open Go.RowKit
attribute [local irreducible] WA WOs WDs WAn qThen qBlock tput
set_option maxHeartbeats 1000000
set_option maxRecDepth 20000
set_option linter.unusedSimpArgs false
set_option linter.unusedVariables false
/-- names with their numbers -/
def nmF(k:Nat):List Txt→Mp
  |[]=>[]
  |s::r=>(s,.int .i64 (k:Int))::nmF (k+1) r
def nmM(ns:List Txt):Mp:=nmF 0 ns
theorem nmF_len:∀ (k:Nat) (ns:List Txt),(nmF k ns).length=ns.length
  |_,[]=>rfl
  |k,_::r=>by simp [nmF,nmF_len (k+1) r]
theorem nmF_snoc(s:Txt):∀ (k:Nat) (ns:List Txt),nmF k (ns++[s])=nmF k ns++[(s,.int .i64 ((k+ns.length:Nat):Int))]
  |k,[]=>by simp [nmF]
  | k,t::r=>by
    simp only [List.cons_append,nmF,nmF_snoc s (k+1) r,List.length_cons]
    have:k+1+r.length=k+(r.length+1):=by omega
    rw [this]
theorem mput_new:∀ {l:Mp} {s:Txt} {v:V},mget l s=none→mput l s v=l++[(s,v)]
  |[],_,_,_=>rfl
  | p ::r,s,v,h=>by
    unfold mget at h
    split at h
    · cases h
    · rename_i hn
      unfold mput
      rw [if_neg hn,mput_new h];rfl
theorem mget_nmF(s:Txt):∀ (k:Nat) (ns:List Txt),(mget (nmF k ns) s).isSome=ns.any (isT s)
  |_,[]=>rfl
  | k,t::r=>by
    simp only [nmF,mget,List.any_cons,isT]
    by_cases h:t=s
    · rw [if_pos h,decide_eq_true h];rfl
    · rw [if_neg h,decide_eq_false h]
      simpa [isT] using mget_nmF s (k+1) r
theorem mget_nm{ns:List Txt}{s:Txt}:(mget (nmM ns) s).isSome=decide (0≤fdx (isT s) ns):=by rw [←fdx_any];exact mget_nmF s 0 ns
theorem mget_nm_some{ns:List Txt}{s:Txt}(h:0≤fdx (isT s) ns):∃ u,mget (nmM ns) s=some u:=Option.isSome_iff_exists.1 (by rw [mget_nm];exact decide_eq_true h)
theorem mget_nm_none{ns:List Txt}{s:Txt}(h:¬ 0≤fdx (isT s) ns):mget (nmM ns) s=none:=by
  have:=mget_nm (ns:=ns) (s:=s)
  rw [decide_eq_false h] at this
  simpa using this
def addE(ns:List Txt)(s:Txt):Int:=if ¬ nameP s then 4 else if 0≤fdx (isT s) ns then 5 else 0
theorem fdx_map{α β:Type}(g:α→β)(f:β→Bool)(l:List α):fdx f (l.map g)=fdx (fun x=>f (g x)) l:=by
  unfold fdx;rw [List.findIdx?_map];rfl
theorem CallW_obj{P:Program}{f:FuncId}{fn:Func}{c:Code}{n:Nat}{rs:Array ResultVar}{vs:List V}{b:Nat}{blk0 blk':Blk}{v:V}(hf:P.funcs[f]?=some fn)(hb:fn.body=some c)(hN:fn.ntmps=n)(hr:fn.results=rs)(hg:isGo P f=true)(hn:vs.length≤n)
    (h:∀ (M:Mem),M[b]?=some blk0→∀ (Q:Exit→List (Nat×V)→Mem→Prop),(∀ e t m',(e= .normal∨e= .ret)→resV P t m' rs.toList=some v→m'=M.set b blk'→Q e t m')→WA P n c (argT 0 vs) M Q):CallW P f vs b blk0 blk' v:=by
  subst hN;subst hr
  intro M hM
  refine CallA_introD hf hb hg hn (h M hM _ ?_)
  intro e t m' he hres hm'
  refine⟨he,?_⟩
  rw [hres]
  exact⟨rfl,by rw [hm']⟩
theorem r_esM{P:Program}{e:Exit}{t:List (Nat×V)}{m M':Mem}{v v':V}{rs:List ResultVar}{Q:Exit→List (Nat×V)→Mem→Prop}(hQ:∀ e t m',(e= .normal∨e= .ret)→resV P t m' rs=some v→m'=M'→Q e t m')(h:v'=v)(hm:m=M')(he:e= .normal∨e= .ret:=by first|exact .inl rfl|exact .inr rfl|fail)(hr:resV P t m rs=some v':=by first|exact rv_|fail):Q e t m:=hQ e t m he (h ▸ hr) hm

theorem gadd_w(ns:List Txt)(s:Txt)(hs:s.length≤1000)(hl:ns.length≤1000)(b:Nat):CallW Tryz.prog 48 [.mp b,.str s] b (MapB (nmM ns)) (MapB (nmM (if addE ns s=0 then ns++[s] else ns))) (.int .i64 (addE ns s)):=by
  refine CallW_obj Tryz.func48 rfl Tryz.ntmps48 Tryz.results48 (by kernel_rfl) (by simp) fun M hM Q hQ=>?_
  unfold addE at *
  by_cases h1:nameP s
  · rw [if_neg (by simpa using h1)] at *
    (repeat'(first|(refine sx ?_ ?_<;>intro h<;>first|(exfalso;omega)|skip)|(refine g_op ?_;refine g_call ?_;refine g_args ?_;(first|refine s_fn (gisname_c s hs _) ?_)<;>try first|omega|assumption)|refine ny ?_|refine WA_block ?_))
    all_goals(try(exfalso;first|omega|contradiction))
    by_cases h2:0≤fdx (isT s) ns
    · rw [if_pos h2] at *
      obtain⟨u,hu⟩:=mget_nm_some h2
      (refine s_look (KT:=9) (E:=3) (z:= .int .i64 0) hM ?_ rfl lk_ lk_ (by kernel_rfl) (by kernel_rfl) (by kernel_rfl) rfl)
      rw [hu]
      simp only [lookV,if_true,Option.getD_some,Option.isSome_some]
      (repeat'(first|(refine sx ?_ ?_<;>intro h<;>first|(exfalso;omega)|skip)|(refine g_op ?_;refine g_call ?_;refine g_args ?_;(first|refine s_fn (gisname_c s hs _) ?_)<;>try first|omega|assumption)|refine ny ?_|refine WA_block ?_))
      all_goals(refine r_esM hQ rfl ?_)
      all_goals(rw [if_neg (by decide)];exact(set_same hM).symm)
    · rw [if_neg h2] at *
      have hu:=mget_nm_none h2
      (refine s_look (KT:=9) (E:=3) (z:= .int .i64 0) hM ?_ rfl lk_ lk_ (by kernel_rfl) (by kernel_rfl) (by kernel_rfl) rfl)
      rw [hu]
      simp only [lookV,if_true,Option.getD_none,Option.isSome_none]
      (repeat'(first|(refine sx ?_ ?_<;>intro h<;>first|(exfalso;omega)|skip)|(refine g_op ?_;refine g_call ?_;refine g_args ?_;(first|refine s_fn (gisname_c s hs _) ?_)<;>try first|omega|assumption)|refine ny ?_|refine WA_block ?_))
      refine s_mlen (KT:=9) (E:=3) hM ?_ rfl lk_ (by kernel_rfl)
      rw [show(nmM ns).length=ns.length from nmF_len 0 ns]
      (repeat'(first|(refine sx ?_ ?_<;>intro h<;>first|(exfalso;omega)|skip)|(refine g_op ?_;refine g_call ?_;refine g_args ?_;(first|refine s_fn (gisname_c s hs _) ?_)<;>try first|omega|assumption)|refine ny ?_|refine WA_block ?_))
      refine s_upd (KT:=9) (E:=3) (s:=s) (v:= .int .i64 (ns.length:Int)) hM ?_ (.inl rfl) rfl lk_ lk_ lk_ rfl (by kernel_rfl) (by kernel_rfl)
      rw [mput_new hu]
      (repeat'(first|(refine sx ?_ ?_<;>intro h<;>first|(exfalso;omega)|skip)|(refine g_op ?_;refine g_call ?_;refine g_args ?_;(first|refine s_fn (gisname_c s hs _) ?_)<;>try first|omega|assumption)|refine ny ?_|refine WA_block ?_))
      all_goals(refine r_esM hQ rfl ?_)
      all_goals(rw [if_pos rfl];unfold nmM;rw [nmF_snoc,Nat.zero_add])
  · rw [if_pos h1] at *
    (repeat'(first|(refine sx ?_ ?_<;>intro h<;>first|(exfalso;omega)|skip)|(refine g_op ?_;refine g_call ?_;refine g_args ?_;(first|refine s_fn (gisname_c s hs _) ?_)<;>try first|omega|assumption)|refine ny ?_|refine WA_block ?_))
    all_goals(try(exfalso;first|omega|contradiction))
    all_goals(refine r_esM hQ rfl ?_)
    all_goals(rw [if_neg (by decide)];exact(set_same hM).symm)
def lSta:Sta→Sta
  | .ro=> .ro
  |_=> .lent
theorem lend_get2{M:Mem}{k:Nat}{st:Sta}{ty sz:Nat}{es:List (List V)}(h:M[k]?=some (.cells st ty sz es))(X:Mem):(lend M++X)[k]?=some (.cells (lSta st) ty sz es):=by
  have hlt:k<(lend M).length:=by
    have:=(List.getElem?_eq_some_iff.1 h).1
    simpa [lend] using this
  rw [List.getElem?_append_left hlt]
  simp only [lend,List.getElem?_map,h,Option.map_some]
  cases st<;>rfl
theorem lend_obj2{M:Mem}{k:Nat}{st:Sta}{vs:List V}{φ:Nat→Obj→List Value→Prop}(h:M[k]?=some (.obj st vs φ))(X:Mem):(lend M++X)[k]?=some (.obj (lSta st) vs φ):=by
  have hlt:k<(lend M).length:=by
    have:=(List.getElem?_eq_some_iff.1 h).1
    simpa [lend] using this
  rw [List.getElem?_append_left hlt]
  simp only [lend,List.getElem?_map,h,Option.map_some]
  cases st<;>rfl

theorem gnumber1_c(a:AdR)(s:Txt)(M:Mem)(k:Nat)(st:Sta)(hk:M[k]?=some (.cells st 9 1 [[.str s]])):Gives Tryz.prog 113 [.agg (adV a),.ptr k 0 0] M (.bool (isA s a)):=by
  have hk:=lend_get2 hk
  unfold adV isA
  refine Gives_in Tryz.func113 rfl Tryz.ntmps113 Tryz.results113 (by kernel_rfl) (by simp) rfl fun Q hQ=>?_
  (have FX:=hk;repeat'(first|(refine sx ?_ ?_<;>intro h<;>first|(exfalso;omega)|skip)|refine ny ?_|refine WA_block ?_))
  all_goals((refine r_es hQ ?_;try with_reducible rfl))
  all_goals(exact congrArg V.bool (by first|rfl|(rw [decide_eq_true (by assumption)];rfl)|(rw [decide_eq_false (by assumption)];rfl)|exact(decide_eq_true (by assumption)).symm|exact(decide_eq_false (by assumption)).symm|exact(decide_eq_true (by omega)).symm|exact(decide_eq_false (by omega)).symm))

theorem gnumber_c(l:List AdR)(s:Txt)(m:Mem)(hlb:l.length≤100000):Gives Tryz.prog 88 [.lst (adsV l),.str s] m (.int .i64 (fdx (isA s) l)):=by
  refine Gives_in Tryz.func88 rfl Tryz.ntmps88 Tryz.results88 (by kernel_rfl) (by simp) rfl fun Q hQ=>?_
  (repeat'(first|(refine sx ?_ ?_<;>intro h<;>first|(exfalso;omega)|skip)|(refine g_op ?_;refine g_call ?_;refine g_args ?_;(first|refine s_fn (ix_ads l (isA s) _ _ _ hlb (fun i hi M hM=>(hM.at (at_last _ _)).elim fun st h=>gnumber1_c _ s M _ st h)) ?_)<;>try first|omega|assumption)|refine ny ?_|refine WA_block ?_))
  all_goals((refine r_es hQ ?_;try with_reducible rfl))

theorem gcheckafter_c(ads:List AdR)(l:List Txt)(m:Mem)(hlb:ads.length≤100000):Gives Tryz.prog 51 [.lst (tsV l),.lst (adsV ads)] m (.int .i64 (afErr ads l)):=by
  have hln:=tsV_length (l:=l)
  have hga:=hln
  have hti:=hln
  have hsl:=hln
  have hal:=hln
  unfold afErr
  refine Gives_in Tryz.func51 rfl Tryz.ntmps51 Tryz.results51 (by kernel_rfl) (by simp) rfl fun Q hQ=>?_
  (have FX:=And.intro hln (And.intro hga (And.intro hti (And.intro hsl hal)));repeat'(first|(refine sx ?_ ?_<;>intro h<;>first|(exfalso;omega)|skip)|(refine g_op ?_;refine g_call ?_;refine g_args ?_;(first|refine s_fn (gnumber_c ads _ _ hlb) ?_|refine s_fn (sct_ts _ _ _ ?_) ?_)<;>try first|omega|assumption)|refine ny ?_|refine WA_block ?_))
  all_goals(try(exfalso;omega))
  all_goals try
    ((refine r_es hQ ?_;try with_reducible rfl)
     refine congrArg (V.int .i64) ?_
     rw [if_pos (by omega)]
     done)
  have hl12:l.length≤12:=by omega
  rw [if_neg (by omega)] at hQ
  refine WA_while (σ:=Nat) [0,1,10,11,12] (fun i=>[.lst (tsV l),.lst (adsV ads),.lst (tsV l),.int .i64 l.length,.int .i64 i]) (fun _=>lend m++[]) (fun i=>i≤l.length∧∀ j,j<i→afErrAt ads l j=0) (fun i=>l.length - i) 0 ⟨Nat.zero_le _,fun j h=>absurd h (Nat.not_lt_zero _)⟩ tv_ rfl ?_
  rintro i ⟨hi1,hi2⟩ K hK
  simp only [zipT]
  clear FX hga hti hsl hal
  rcases Nat.lt_or_ge i l.length with hi|hi
  · have hga:=tsV_get hi
    have hti:((i:Int) - ((0:Nat):Int)).toNat=i:=by omega
    have hsl:=tsV_take l i
    have hal:=fun n h=>tsV_all (l:=l) (n:=n) h
    have hat:afErrAt ads l i=if fdx (isA (l.getD i [])) ads<0 then 6 else if 0≤fdx (isT (l.getD i [])) (l.take i) then 5 else 0:=rfl
    have hlt:(l.take i).length≤100000:=by rw [List.length_take];omega
    (have FX:=And.intro hln (And.intro hga (And.intro hti (And.intro hsl hal)));repeat'(first|(refine sx ?_ ?_<;>intro h<;>first|(exfalso;omega)|skip)|(refine g_op ?_;refine g_call ?_;refine g_args ?_;(first|refine s_fn (gnumber_c ads _ _ hlb) ?_|refine s_fn (sct_ts _ _ _ ?_) ?_)<;>try first|omega|assumption)|refine ny ?_|refine WA_block ?_))
    all_goals(try(exfalso;omega))
    all_goals try
      ((refine r_es hQ ?_;try with_reducible rfl)
       refine congrArg (V.int .i64) (fE_is hi hi2 (hat.trans ?_) (by decide)).symm
       first|(rw [if_pos (by omega)];done)|(rw [if_neg (by omega),if_pos (by omega)];done))
    all_goals(refine next_ hK (i+1) ⟨by omega,up_zero hi2 (hat.trans (by rw [if_neg (by omega),if_neg (by omega)]))⟩ (by omega))
  · obtain rfl:i=l.length:=by omega
    have hga:=hln
    have hti:=hln
    have hsl:=hln
    have hal:=hln
    (have FX:=And.intro hln (And.intro hga (And.intro hti (And.intro hsl hal)));repeat'(first|(refine sx ?_ ?_<;>intro h<;>first|(exfalso;omega)|skip)|(refine g_op ?_;refine g_call ?_;refine g_args ?_;(first|refine s_fn (gnumber_c ads _ _ hlb) ?_|refine s_fn (sct_ts _ _ _ ?_) ?_)<;>try first|omega|assumption)|refine ny ?_|refine WA_block ?_))
    all_goals(try(exfalso;omega))
    all_goals((refine r_es hQ ?_;try with_reducible rfl))
    all_goals(exact congrArg (V.int .i64) (fE_zero.2 hi2).symm)
end Go.Proofs.YtookikhphobnlaaGreatDoor
