/- contracts: the order of adjustments -/
import Derived.Test.YtookikhphobnlaaGreatDoorGAG
set_option linter.unusedSimpArgs false
set_option linter.unusedVariables false
namespace Go.Proofs.YtookikhphobnlaaGreatDoor
open Go.RowKit
attribute [local irreducible] WA WOs WDs WAn qThen qBlock tput
set_option maxHeartbeats 1000000
set_option maxRecDepth 20000
set_option linter.unusedSimpArgs false
set_option linter.unusedVariables false
def dnM(ns:List Txt):Mp:=ns.map fun s=>(s,.bool true)
theorem mget_dn(ns:List Txt)(s:Txt):(mget (dnM ns) s).getD (.bool false)= .bool (hasT ns s):=by
  induction ns with
  |nil=>rfl
  | cons t r ih=>
    simp only [dnM,List.map_cons,mget,hasT,List.any_cons,isT] at ih ⊢
    by_cases h:t=s
    · rw [if_pos h,decide_eq_true h];rfl
    · rw [if_neg h,decide_eq_false h,ih];rfl
theorem mget_dn_no{ns:List Txt}{s:Txt}(h:hasT ns s=false):mget (dnM ns) s=none:=by
  induction ns with
  |nil=>rfl
  | cons t r ih=>
    simp only [dnM,List.map_cons,mget,hasT,List.any_cons,isT,Bool.or_eq_false_iff,decide_eq_false_iff_not] at h ih ⊢
    rw [if_neg h.1]
    exact ih (by simpa [hasT,isT] using h.2)
theorem dnM_snoc(ns:List Txt)(s:Txt):dnM (ns++[s])=dnM ns++[(s,.bool true)]:=by simp [dnM]
theorem look_dn(ns:List Txt)(s:Txt):lookV false (mget (dnM ns) s) (.bool false)= .bool (hasT ns s):=mget_dn ns s

theorem go11_c(ns:List Txt)(s:Txt)(M:Mem)(k km:Nat)(st st2:Sta)(hk:M[k]?=some (.cells st 132 1 [[.mp km]]))(hm:M[km]?=some (.obj st2 [] (mapφ (dnM ns)))):Gives Tryz.prog 77 [.str s,.ptr k 0 0] M (.bool (!hasT ns s)):=by
  have hk:=lend_get2 hk
  have hm:=lend_obj2 hm
  refine Gives_in Tryz.func77 rfl Tryz.ntmps77 Tryz.results77 (by kernel_rfl) (by simp) rfl fun Q hQ=>?_
  (have FX:=hk;repeat'(first|(refine sx ?_ ?_<;>intro h<;>first|(exfalso;omega)|skip)|refine ny ?_|refine WA_block ?_))
  (refine s_look (KT:=9) (E:=4) (z:= .bool false) (hm _) ?_ rfl lk_ lk_ (by kernel_rfl) (by kernel_rfl) (by kernel_rfl) rfl)
  rw [look_dn]
  (have FX:=hk;repeat'(first|(refine sx ?_ ?_<;>intro h<;>first|(exfalso;omega)|skip)|refine ny ?_|refine WA_block ?_))
  all_goals((refine r_es hQ ?_;try with_reducible rfl))
theorem fdx_not(ns:List Txt)(l:List Txt):(!decide (0≤fdx (fun s=>!hasT ns s) l))=l.all (hasT ns):=by
  rw [←fdx_any,List.all_eq_not_any_not]

theorem go1_c(ns:List Txt)(a:AdR)(hla:a.after.length≤1000)(M:Mem)(k km:Nat)(st st2:Sta)(hk:M[k]?=some (.cells st 132 1 [[.mp km]]))(hm:M[km]?=some (.obj st2 [] (mapφ (dnM ns)))):Gives Tryz.prog 75 [.agg (adV a),.ptr k 0 0] M (.bool (rdyA ns a)):=by
  have hk0:=hk
  have hm0:=hm
  have hk:=lend_get2 hk
  have hm:=lend_obj2 hm
  have hcf:∀ m:Mem,(∃ X,m=lend M++X)→Gives Tryz.prog 76 [.lst (tsV a.after),.clo (.func 77) [] [.ptr k 0 0]] m (.bool (decide (0≤fdx (fun s=>!hasT ns s) a.after))):=by
    rintro m ⟨X,rfl⟩
    refine cf_ts a.after (fun s=>!hasT ns s) 77 [.ptr k 0 0] _ (by omega) fun i hi M' hM=>?_
    obtain⟨st3,h3⟩:=hM.1 _ _ _ _ _ (hk X)
    obtain⟨st4,h4⟩:=hM.2 _ _ _ _ (hm X)
    exact go11_c ns _ M' k km st3 st4 h3 h4
  have hr:rdyA ns a=(!hasT ns a.name && !decide (0≤fdx (fun s=>!hasT ns s) a.after)):=by rw [fdx_not];rfl
  rw [hr]
  unfold adV
  obtain⟨nm,ef,le,mo,pa,af⟩:=a
  dsimp only at hcf ⊢
  clear hr
  refine Gives_in Tryz.func75 rfl Tryz.ntmps75 Tryz.results75 (by kernel_rfl) (by simp) rfl fun Q hQ=>?_
  (have FX:=hk;repeat'(first|(refine sx ?_ ?_<;>intro h<;>first|(exfalso;omega)|skip)|(refine g_op ?_;refine g_call ?_;refine g_args ?_;(first|refine s_fn (hcf _ ⟨_,rfl⟩) ?_)<;>try first|omega|assumption)|refine ny ?_|refine WA_block ?_))
  (refine s_look (KT:=9) (E:=4) (z:= .bool false) (hm _) ?_ rfl lk_ lk_ (by kernel_rfl) (by kernel_rfl) (by kernel_rfl) rfl)
  rw [look_dn]
  cases hn:hasT ns nm with
  | true=>
    (have FX:=hk;repeat'(first|(refine sx ?_ ?_<;>intro h<;>first|(exfalso;omega)|skip)|(refine g_op ?_;refine g_call ?_;refine g_args ?_;(first|refine s_fn (hcf _ ⟨_,rfl⟩) ?_)<;>try first|omega|assumption)|refine ny ?_|refine WA_block ?_))
    all_goals((refine r_es hQ ?_;try with_reducible rfl))
    all_goals(rw [hn];rfl)
  | false=>
    (have FX:=hk;repeat'(first|(refine sx ?_ ?_<;>intro h<;>first|(exfalso;omega)|skip)|(refine g_op ?_;refine g_call ?_;refine g_args ?_;(first|refine s_fn (hcf _ ⟨_,rfl⟩) ?_)<;>try first|omega|assumption)|refine ny ?_|refine WA_block ?_))
    all_goals((refine r_es hQ ?_;try with_reducible rfl))
    all_goals(rw [hn];first|(rw [decide_eq_true (by assumption)];rfl)|(rw [decide_eq_false (by assumption)];rfl))
theorem goix_c(ads:List AdR)(ns:List Txt)(hla:ads.length≤1000)(hlb:∀ i,i<ads.length→(ads.getD i adz).after.length≤1000)(m:Mem)(k:Nat){km:Nat}{st st2:Sta}(hk:m[k]?=some (.cells st 132 1 [[.mp km]]):=by first|exact ev_|fail)(hm:m[km]?=some (.obj st2 [] (mapφ (dnM ns))):=by first|exact ev_|fail):
    Gives Tryz.prog 74 [.lst (adsV ads),.clo (.func 75) [] [.ptr k 0 0]] m (.int .i64 (fdx (rdyA ns) ads)):=by
  refine ix_ads ads (rdyA ns) 75 [.ptr k 0 0] m (by omega) fun i hi M' hM=>?_
  obtain⟨st3,h3⟩:=hM.1 _ _ _ _ _ hk
  obtain⟨st4,h4⟩:=hM.2 _ _ _ _ hm
  exact go1_c ns _ (hlb i hi) M' k km st3 st4 h3 h4
def nuV(l:List Nat):List (List V):=l.map fun(n:Nat)=>[V.int .i64 (n:Int)]
theorem nuV_length{l:List Nat}:(nuV l).length=l.length:=by simp [nuV]
theorem nuV_get{l:List Nat}{i:Nat}(h:i<l.length):(nuV l)[i]?=some [V.int .i64 ((l.getD i 0:Nat):Int)]:=by
  unfold nuV;rw [List.getElem?_map,lst_get (d:=0) h];rfl
theorem nuV_plain(l:List Nat):plainLL (nuV l)=true:=plainLL_of fun e he=>by obtain⟨x,_,rfl⟩:=List.mem_map.1 he;rfl
theorem nuV_snoc(l:List Nat)(n:Nat):nuV (l++[n])=nuV l++[[V.int .i64 (n:Int)]]:=by simp [nuV]
def nuSt(k:Nat):List Nat→TV
  |[]=> .v .nilsl
  |_::r=> .sl k (r.length+1)
def nuE:List Nat→List TB
  |[]=>[]
  |p::r=>[.cells .own 3 1 ((nuV (p::r)).map (List.map TV.v))]
def goE(b:BnR)(out:List Nat):List TB:= .cells .own 28 2 [[.v (.lst (mssV b.ms)),.v (.lst (adsV b.ads))]]:: .obj .own [] (mapφ (dnM (outN b.ads out))):: .cells .own 132 1 [[.mp 1]]::nuE out
def goS(out:List Nat):List TV:=[.ptr 0 0 0,nuSt 3 out,.ptr 2 0 0]
theorem tvs_ok(k:Nat)(l:List (List V)):(l.map (List.map TV.v)).all (List.all · (TV.okT k))=true:=by
  simp [TV.okT]
theorem goE_ok{b:BnR}{out:List Nat}:(goE b out).all (TB.ok (goE b out).length)=true:=by
  unfold goE
  cases out with
  |nil=>simp [TB.ok,TV.okT,nuE]
  |cons p r=>simp only [nuE,List.all_cons,TB.ok,TV.okT,List.all_nil,Bool.and_true,Bool.and_self,tvs_ok,List.length_cons,List.length_nil];decide
theorem goS_ok{b:BnR}{out:List Nat}:(goS out).all (TV.okT (goE b out).length)=true:=by
  unfold goE goS
  cases out with
  |nil=>simp [TV.okT,nuE,nuSt]
  |cons p r=>simp [TV.okT,nuE,nuSt]
theorem wk_nl(es:List (List V))(h:es=[]):WkV .nilsl (.lst es):=by subst h;exact wk_nil
theorem uB7_40_6{N:Nat}{l:List Oper}{t:List (Nat×V)}{m:Mem}{Q:Exit→List (Nat×V)→Mem→Prop}(h:RgN Tryz.prog N l t m Q (fun i=>if i==7 then .w else if i==0 || i==2 || i==6 then .q else .p) [.one 0,.one 1,.one 2,.one 3,.one 4,.one 5,.one 6,.one 7]):WA Tryz.prog N (.region 6 l.toArray true) t m Q:=d_rgN h
theorem gorder_c(b:BnR)(hla:b.ads.length≤1000)(hlb:∀ i,i<b.ads.length→(b.ads.getD i adz).after.length≤1000)(m:Mem):Gives Tryz.prog 40 [.agg (bnV b)] m (.lst (nuV (ordB b.ads))):=by
  have hln:=adsV_length (l:=b.ads)
  have hga:=hln
  have hll:=hln
  have hlt:=hln
  have hix:=hln
  suffices key:CallA Tryz.prog 40 [.agg (bnV b)] m (fun v' mo=>v'=oV (nuV (ordB b.ads))∧mo=none) from Gives_weak key (wk_oV _)
  unfold bnV
  refine CallA_in Tryz.func40 rfl Tryz.ntmps40 Tryz.results40 (by kernel_rfl) (by simp) fun Q hQ=>?_
  (have FX:=And.intro hln (And.intro hga (And.intro hll (And.intro hlt hix)));repeat'(first|(refine sx ?_ ?_<;>intro h<;>first|(exfalso;omega)|skip)|(refine g_op ?_;refine g_call ?_;refine g_args ?_;(first|refine s_fn (goix_c b.ads _ hla hlb _ _) ?_)<;>try first|omega|assumption)|refine ny ?_|refine WA_block ?_|(refine uB7_40_6 ?_;refine⟨by kernel_rfl,?_⟩)|((first|refine grp_cons (fun _=>goix_c b.ads _ hla hlb _ _) ?_)<;>try first|omega|assumption)|(refine g_d ?_;refine d_args ?_;(first|refine d_fn (goix_c b.ads _ hla hlb _ _) ?_|refine d_fnQ (fun _=>goix_c b.ads _ hla hlb _ _) ?_)<;>try first|omega|assumption)|(refine g_d ?_;(first|refine d_fnY (goix_c b.ads _ hla hlb _ _) ?_)<;>try first|omega|assumption)))
  refine s_mk ?_
  (have FX:=And.intro hln (And.intro hga (And.intro hll (And.intro hlt hix)));repeat'(first|(refine sx ?_ ?_<;>intro h<;>first|(exfalso;omega)|skip)|(refine g_op ?_;refine g_call ?_;refine g_args ?_;(first|refine s_fn (goix_c b.ads _ hla hlb _ _) ?_)<;>try first|omega|assumption)|refine ny ?_|refine WA_block ?_|(refine uB7_40_6 ?_;refine⟨by kernel_rfl,?_⟩)|((first|refine grp_cons (fun _=>goix_c b.ads _ hla hlb _ _) ?_)<;>try first|omega|assumption)|(refine g_d ?_;refine d_args ?_;(first|refine d_fn (goix_c b.ads _ hla hlb _ _) ?_|refine d_fnQ (fun _=>goix_c b.ads _ hla hlb _ _) ?_)<;>try first|omega|assumption)|(refine g_d ?_;(first|refine d_fnY (goix_c b.ads _ hla hlb _ _) ?_)<;>try first|omega|assumption)))
  refine WA_whileJ (σ:=Nat×List Nat) (L:=lend m) [1,3,4] (fun s=>goS s.2) (fun s=>goE b s.2) (fun s=>ordF b.ads s.1 s.2=ordB b.ads∧leftN b.ads s.2<s.1∧s.2.length+leftN b.ads s.2≤b.ads.length) (fun s=>s.1) (b.ads.length+1,[]) [0,1,2] ⟨rfl,by have:=leftN_le b.ads [];dsimp only;omega,by have:=leftN_le b.ads [];dsimp only [List.length_nil];omega⟩ ?_ rfl rfl (by decide) (by decide) (fun _ _=>goS_ok (b:=b)) (fun _ _=>goE_ok) ?_
  · exact tv_
  rintro⟨f,out⟩ ⟨hf,hlf,hol⟩ B ⟨D,hB⟩ K hK
  dsimp only at hf hlf hol
  dsimp only
  clear FX hga hll hlt hix
  obtain⟨f,rfl⟩:∃ f',f=f'+1:=⟨f - 1,by omega⟩
  have hn0:nxtI b.ads out=fdx (rdyA (outN b.ads out)) b.ads:=rfl
  unfold ordF at hf
  rw [hn0] at hf
  rcases fdx_cases (rdyA (outN b.ads out)) b.ads adz with ⟨h1,_⟩|⟨i,hi,h1,h2,_⟩
  · rw [h1,if_pos (by decide)] at hf
    rw [←hf] at hQ
    have hga:=h1
    have hix:=h1
    have hll:=hln
    have hlt:=hln
    clear hK hn0
    cases out with
    | nil=>
      have e0:oV (nuV [])=V.nilsl:=rfl
      rw [e0] at hQ
      simp only [goS,goE,nuSt,nuE]
      simp only [List.map_cons,List.map_nil,TB.inst,TV.inst,tv_map,zipT,List.cons_append,List.nil_append,Nat.add_zero]
      (have FX:=And.intro hln (And.intro hga (And.intro hll (And.intro hlt hix)));repeat'(first|(refine sx ?_ ?_<;>intro h<;>first|(exfalso;omega)|skip)|(refine g_op ?_;refine g_call ?_;refine g_args ?_;(first|refine s_fn (goix_c b.ads _ hla hlb _ _) ?_)<;>try first|omega|assumption)|refine ny ?_|refine WA_block ?_|(refine uB7_40_6 ?_;refine⟨by kernel_rfl,?_⟩)|((first|refine grp_cons (fun _=>goix_c b.ads _ hla hlb _ _) ?_)<;>try first|omega|assumption)|(refine g_d ?_;refine d_args ?_;(first|refine d_fn (goix_c b.ads _ hla hlb _ _) ?_|refine d_fnQ (fun _=>goix_c b.ads _ hla hlb _ _) ?_)<;>try first|omega|assumption)|(refine g_d ?_;(first|refine d_fnY (goix_c b.ads _ hla hlb _ _) ?_)<;>try first|omega|assumption)))
      all_goals(try(exfalso;omega))
      all_goals(refine r_esA hQ (.inl ⟨rfl,rfl,rfl⟩))
    | cons p r=>
      have hrl:(nuV (p::r)).length=r.length+1:=nuV_length
      have e0:oV (nuV (p::r))= .lst (nuV (p::r)):=rfl
      rw [e0] at hQ
      simp only [goS,goE,nuSt,nuE]
      simp only [List.map_cons,List.map_nil,TB.inst,TV.inst,tv_map,zipT,List.cons_append,List.nil_append,Nat.add_zero]
      (have FX:=And.intro hln (And.intro hga (And.intro hll (And.intro hlt hix)));repeat'(first|(refine sx ?_ ?_<;>intro h<;>first|(exfalso;omega)|skip)|(refine g_op ?_;refine g_call ?_;refine g_args ?_;(first|refine s_fn (goix_c b.ads _ hla hlb _ _) ?_)<;>try first|omega|assumption)|refine ny ?_|refine WA_block ?_|(refine uB7_40_6 ?_;refine⟨by kernel_rfl,?_⟩)|((first|refine grp_cons (fun _=>goix_c b.ads _ hla hlb _ _) ?_)<;>try first|omega|assumption)|(refine g_d ?_;refine d_args ?_;(first|refine d_fn (goix_c b.ads _ hla hlb _ _) ?_|refine d_fnQ (fun _=>goix_c b.ads _ hla hlb _ _) ?_)<;>try first|omega|assumption)|(refine g_d ?_;(first|refine d_fnY (goix_c b.ads _ hla hlb _ _) ?_)<;>try first|omega|assumption)))
      all_goals(try(exfalso;omega))
      all_goals(refine r_esA hQ ?_)
      all_goals(refine fin_sl (D:=D) (j:=3) hB rfl (by rw [hrl];exact Nat.le_refl _) (by rw [List.take_of_length_le (by rw [hrl];exact Nat.le_refl _)];exact nuV_plain _) ⟨?_,rfl⟩)
      all_goals(rw [List.take_of_length_le (by rw [hrl];exact Nat.le_refl _)])
  · rw [h1,if_neg (by omega),Int.toNat_natCast] at hf
    have hga:=adsV_get hi
    have hix:=h1
    have hle:=leftN_lt hi h2
    have hnx:=hK (f,out++[i])
    dsimp only at hnx
    have hno:hasT (outN b.ads out) (b.ads.getD i adz).name=false:=by
      unfold rdyA at h2
      simp only [Bool.and_eq_true,Bool.not_eq_true'] at h2
      exact h2.1
    have hon:outN b.ads (out++[i])=outN b.ads out++[(b.ads.getD i adz).name]:=outN_snoc _ _ _
    have hdn:dnM (outN b.ads (out++[i]))=mput (dnM (outN b.ads out)) (b.ads.getD i adz).name (.bool true):=by
      rw [mput_new (mget_dn_no hno),hon,dnM_snoc]
    have hny:=fun(_:Unit)=>hnx
    clear hnx hK hon h2 hno
    generalize b.ads.getD i adz=x at *
    obtain⟨nm,ef,le,mo,pa,af⟩:=x
    unfold adV at hga
    dsimp only at hga hdn
    have hlf2:leftN b.ads (out++[i])<f:=by omega
    have hol2:(out++[i]).length+leftN b.ads (out++[i])≤b.ads.length:=by rw [List.length_append,List.length_singleton];omega
    cases out with
    | nil=>
      have hll:=h1
      have hlt:=h1
      simp only [goS,goE,nuSt,nuE]
      simp only [List.map_cons,List.map_nil,TB.inst,TV.inst,tv_map,zipT,List.cons_append,List.nil_append,Nat.add_zero]
      (have FX:=And.intro hln (And.intro hga (And.intro hll (And.intro hlt hix)));repeat'(first|(refine sx ?_ ?_<;>intro h<;>first|(exfalso;omega)|skip)|(refine g_op ?_;refine g_call ?_;refine g_args ?_;(first|refine s_fn (goix_c b.ads _ hla hlb _ _) ?_)<;>try first|omega|assumption)|refine ny ?_|refine WA_block ?_|(refine uB7_40_6 ?_;refine⟨by kernel_rfl,?_⟩)|((first|refine grp_cons (fun _=>goix_c b.ads _ hla hlb _ _) ?_)<;>try first|omega|assumption)|(refine g_d ?_;refine d_args ?_;(first|refine d_fn (goix_c b.ads _ hla hlb _ _) ?_|refine d_fnQ (fun _=>goix_c b.ads _ hla hlb _ _) ?_)<;>try first|omega|assumption)|(refine g_d ?_;(first|refine d_fnY (goix_c b.ads _ hla hlb _ _) ?_)<;>try first|omega|assumption)))
      all_goals(try(exfalso;omega))
      (refine g_d ?_;refine d_upd (KT:=9) (E:=4) (s:=nm) (v:= .bool true) hdn.symm ?_ (by kernel_rfl) (by kernel_rfl))
      (have FX:=And.intro hln (And.intro hga (And.intro hll (And.intro hlt hix)));repeat'(first|(refine sx ?_ ?_<;>intro h<;>first|(exfalso;omega)|skip)|(refine g_op ?_;refine g_call ?_;refine g_args ?_;(first|refine s_fn (goix_c b.ads _ hla hlb _ _) ?_)<;>try first|omega|assumption)|refine ny ?_|refine WA_block ?_|(refine uB7_40_6 ?_;refine⟨by kernel_rfl,?_⟩)|((first|refine grp_cons (fun _=>goix_c b.ads _ hla hlb _ _) ?_)<;>try first|omega|assumption)|(refine g_d ?_;refine d_args ?_;(first|refine d_fn (goix_c b.ads _ hla hlb _ _) ?_|refine d_fnQ (fun _=>goix_c b.ads _ hla hlb _ _) ?_)<;>try first|omega|assumption)|(refine g_d ?_;(first|refine d_fnY (goix_c b.ads _ hla hlb _ _) ?_)<;>try first|omega|assumption)))
      all_goals((refine nextU_ hny (()) [0,1,2,4] (⟨hf,hlf2,hol2⟩) (by omega) ?_ (ht:=?_);(focus (simp only [goE,nuE,nuV,List.map_cons,List.map_nil,TB.inst,TV.inst,tv_map,List.cons_append,List.nil_append];first|rfl|(simp [ptsV,ptV];done)|(simp [hpsV,hpV];done)|(simp [frsV,frV];done)|(simp [txV];done)|(simp [prtsV,prtV];done)));(simp only [goS,nuSt,List.map_cons,List.map_nil,TV.inst,List.getD_cons_zero,List.getD_cons_succ];exact tv_)))
    | cons p r=>
      have hll:(nuV (p::r)).length=r.length+1:=nuV_length
      have hlt:(nuV (p::r)).take (r.length+1)=nuV (p::r):=by rw [List.take_of_length_le (by rw [hll];exact Nat.le_refl _)]
      simp only [List.length_cons] at hol
      have hns:nuV (p::(r++[i]))=nuV (p::r)++[[V.int .i64 (i:Int)]]:=nuV_snoc (p::r) i
      simp only [goS,goE,nuSt,nuE]
      simp only [List.map_cons,List.map_nil,TB.inst,TV.inst,tv_map,zipT,List.cons_append,List.nil_append,Nat.add_zero]
      (have FX:=And.intro hln (And.intro hga (And.intro hll (And.intro hlt hix)));repeat'(first|(refine sx ?_ ?_<;>intro h<;>first|(exfalso;omega)|skip)|(refine g_op ?_;refine g_call ?_;refine g_args ?_;(first|refine s_fn (goix_c b.ads _ hla hlb _ _) ?_)<;>try first|omega|assumption)|refine ny ?_|refine WA_block ?_|(refine uB7_40_6 ?_;refine⟨by kernel_rfl,?_⟩)|((first|refine grp_cons (fun _=>goix_c b.ads _ hla hlb _ _) ?_)<;>try first|omega|assumption)|(refine g_d ?_;refine d_args ?_;(first|refine d_fn (goix_c b.ads _ hla hlb _ _) ?_|refine d_fnQ (fun _=>goix_c b.ads _ hla hlb _ _) ?_)<;>try first|omega|assumption)|(refine g_d ?_;(first|refine d_fnY (goix_c b.ads _ hla hlb _ _) ?_)<;>try first|omega|assumption)))
      all_goals(try(exfalso;omega))
      (refine g_d ?_;refine d_upd (KT:=9) (E:=4) (s:=nm) (v:= .bool true) hdn.symm ?_ (by kernel_rfl) (by kernel_rfl))
      (have FX:=And.intro hln (And.intro hga (And.intro hll (And.intro hlt hix)));repeat'(first|(refine sx ?_ ?_<;>intro h<;>first|(exfalso;omega)|skip)|(refine g_op ?_;refine g_call ?_;refine g_args ?_;(first|refine s_fn (goix_c b.ads _ hla hlb _ _) ?_)<;>try first|omega|assumption)|refine ny ?_|refine WA_block ?_|(refine uB7_40_6 ?_;refine⟨by kernel_rfl,?_⟩)|((first|refine grp_cons (fun _=>goix_c b.ads _ hla hlb _ _) ?_)<;>try first|omega|assumption)|(refine g_d ?_;refine d_args ?_;(first|refine d_fn (goix_c b.ads _ hla hlb _ _) ?_|refine d_fnQ (fun _=>goix_c b.ads _ hla hlb _ _) ?_)<;>try first|omega|assumption)|(refine g_d ?_;(first|refine d_fnY (goix_c b.ads _ hla hlb _ _) ?_)<;>try first|omega|assumption)))
      all_goals((refine nextU_ hny (()) [0,1,2,5] (⟨hf,hlf2,hol2⟩) (by omega) ?_ (ht:=?_);(focus (simp only [goE,nuE,hns,List.map_cons,List.map_nil,TB.inst,TV.inst,tv_map,List.cons_append,List.nil_append];first|rfl|(simp [ptsV,ptV];done)|(simp [hpsV,hpV];done)|(simp [frsV,frV];done)|(simp [txV];done)|(simp [prtsV,prtV];done)));(simp only [goS,nuSt,List.cons_append,List.length_append,List.length_cons,List.length_nil,Nat.zero_add,List.map_cons,List.map_nil,TV.inst,List.getD_cons_zero,List.getD_cons_succ];exact tv_)))
end Go.Proofs.YtookikhphobnlaaGreatDoor
