import Derived.Test.YtnablpehkeicmaaGreatGAF
set_option linter.unusedSimpArgs false
set_option linter.unusedVariables false
/- contracts: copies, passes, effort -/
namespace Go.Proofs.YtnablpehkeicmaaGreat
open Go.RowKit
attribute [local irreducible] WA WOs WDs WAn qThen qBlock tput
set_option maxHeartbeats 1000000
set_option maxRecDepth 20000
set_option linter.unusedSimpArgs false
set_option linter.unusedVariables false
theorem Gives_of{P:Program}{f:FuncId}{vs:List V}{m:Mem}{v':V}{R:V→Option Mem→Prop}(h:CallA P f vs m R)(hR:∀ v mo,R v mo→mo=none∧WkV v v'):Gives P f vs m v':=by
  refine⟨h.1,fun w ρ xs hM hA=>(h.2 w ρ xs hM hA).mono ?_⟩
  rintro e w' ⟨v,mo,x,rfl,h1,h2⟩
  obtain⟨rfl,hw⟩:=hR v mo h1
  rcases h2 with ⟨_,hb,rv⟩|⟨m',ρ',e,_⟩
  · exact⟨v',none,x,rfl,⟨rfl,rfl⟩,.inl ⟨rfl,hb,hw _ _ _ _ rv⟩⟩
  · cases e
theorem nsV_cons(a:Int)(r:List Int):nsV (a::r)=[V.int .i64 a]::nsV r:=rfl

theorem gclone_v(l:List Int)(hl:l.length≤100000)(m:Mem):Gives Tryz.prog 26 [.lst (nsV l)] m (.lst (nsV l)):=by
  cases l with
  | nil=>
    have hla:(nsV ([]:List Int)).length=0:=rfl
    have hal:∀ n,n=1→(nsV ([]:List Int)).all (fun e=>e.length==n)=true:=fun n h=>nsV_all h
    suffices key:CallA Tryz.prog 26 [.lst []] m (fun v mo=>(v= .nilsl∨v= .lst [])∧mo=none) from by
      refine Gives_of key ?_
      rintro v mo ⟨h1,rfl⟩
      refine⟨rfl,?_⟩
      rcases h1 with rfl|rfl
      · exact wk_nil
      · exact WkV.refl _
    refine CallA_in Tryz.func26 rfl Tryz.ntmps26 Tryz.results26 (by kernel_rfl) (by simp) fun Q hQ=>?_
    (have FX:=And.intro hla hal;repeat'(first|(refine sx ?_ ?_<;>intro h<;>first|(exfalso;omega)|skip)|refine ny ?_|refine WA_block ?_))
    refine s_nl0 ?_ ?_ rfl lk_ lk_ ⟨3,by kernel_rfl⟩
    · (have FX:=And.intro hla hal;repeat'(first|(refine sx ?_ ?_<;>intro h<;>first|(exfalso;omega)|skip)|refine ny ?_|refine WA_block ?_))
      all_goals(refine r_esA hQ (.inl ⟨rfl,.inl rfl,rfl⟩))
    · (have FX:=And.intro hla hal;repeat'(first|(refine sx ?_ ?_<;>intro h<;>first|(exfalso;omega)|skip)|refine ny ?_|refine WA_block ?_))
      all_goals(refine r_esA hQ (fin_sl (D:=[]) (B:=lend m) (j:=1) (k:=0) (es:=[]) (by simp) rfl (Nat.le_refl _) rfl ⟨.inr rfl,rfl⟩))
  | cons a r=>
    have hla:(nsV (a::r)).length=r.length+1:=by rw [nsV_length];rfl
    have hal:∀ n,n=1→(nsV (a::r)).all (fun e=>e.length==n)=true:=fun n h=>nsV_all h
    have hp:=nsV_plain (a::r)
    simp only [List.length_cons] at hl
    rw [nsV_cons] at*
    refine CallA_in Tryz.func26 rfl Tryz.ntmps26 Tryz.results26 (by kernel_rfl) (by simp) fun Q hQ=>?_
    (have FX:=And.intro hla hal;repeat'(first|(refine sx ?_ ?_<;>intro h<;>first|(exfalso;omega)|skip)|refine ny ?_|refine WA_block ?_))
    refine s_nl1 ?_ rfl lk_ lk_ (by kernel_rfl)
    (have FX:=And.intro hla hal;repeat'(first|(refine sx ?_ ?_<;>intro h<;>first|(exfalso;omega)|skip)|refine ny ?_|refine WA_block ?_))
    all_goals(try(exfalso;omega))
    all_goals(refine r_esA hQ (fin_sl (D:=[]) (B:=lend m) (j:=1) (by simp) rfl (by rw [hla];exact Nat.le_refl _) (by rw [List.take_of_length_le (by rw [hla];exact Nat.le_refl _)];exact hp) ⟨?_,rfl⟩))
    all_goals(rw [List.take_of_length_le (by rw [hla];exact Nat.le_refl _)])
/-- .. handed over -/
theorem gclone_o(a:Int)(r:List Int)(hl:r.length≤100000)(m:Mem):CallA Tryz.prog 26 [.lst (nsV (a::r))] m fun v mo=>v= .sl (m.length+1) (r.length+1)∧mo=some (m++[.dead,.cells .own 3 1 (nsV (a::r))]):=by
  have hla:(nsV (a::r)).length=r.length+1:=by rw [nsV_length];rfl
  have hal:∀ n,n=1→(nsV (a::r)).all (fun e=>e.length==n)=true:=fun n h=>nsV_all h
  rw [nsV_cons] at*
  refine CallA_inO Tryz.func26 rfl Tryz.ntmps26 Tryz.results26 (by kernel_rfl) (by simp) fun Q hQ=>?_
  (have FX:=And.intro hla hal;repeat'(first|(refine sx ?_ ?_<;>intro h<;>first|(exfalso;omega)|skip)|refine ny ?_|refine WA_block ?_))
  refine s_nl1 ?_ rfl lk_ lk_ (by kernel_rfl)
  (have FX:=And.intro hla hal;repeat'(first|(refine sx ?_ ?_<;>intro h<;>first|(exfalso;omega)|skip)|refine ny ?_|refine WA_block ?_))
  all_goals(try(exfalso;omega))
  all_goals(refine hQ _ _ _ (by first|exact .inl rfl|exact .inr rfl) (.sl ((lend m).length+1) (r.length+1)) ?_ ⟨_,rfl,?_,rfl⟩)
  · simp (disch:=omega) only [resV,resVs,resOne,tupV,↓ev_move,↓ev_assign,↓ev_pick,↓ev_alloc,↓ev_box,↓ev_load,↓ev_store,↓ev_binOp,↓ev_unOp,↓ev_extract,↓ev_fieldAddr,↓ev_field,↓ev_indexAddr,↓ev_index,↓ev_makeFunc,↓ev_build,↓ev_makeSlice,↓ev_buildSlice,↓ev_convert,↓ev_len,↓ev_max,↓ev_min,↓ev_append,↓ev_slice,maxLen_eq,b_aeq,b_ane,planEq,leafEq,←Bool.decide_and,b_add,b_sub,b_mul,b_quo,b_rem,b_and,b_or,b_xor,b_eql,b_neq,b_lss,b_leq,b_gtr,b_geq,b_sadd,b_seql,b_sneq,u_not,u_neg,okO_some,okR_eq,↓evO_tmp,↓evO_const,↓evO_func,ofC_int,ofC_bool,ofC_nilsl,ofC_nilptr,ofC_nilfn,ofC_nilmap,ofC_nilif,ofC_str,tput_some,tput_none,i64w,u64w,Int.one_mul,Int.tdiv_eq_ediv_of_nonneg,ne_eq,not_false_eq_true,not_true_eq_false,Int.reduceEq,↓tg_c,tg_n,↓reduceIte,Nat.reduceEqDiff,true_and,and_true,evMax,evMin,reduceCtorEq,Nat.succ_ne_zero,Nat.zero_ne_one,Nat.one_ne_zero,Bool.not_true,Bool.not_false,argT,Nat.reduceAdd,pickT,List.map_cons,List.map_nil,Nat.reduceMul,Nat.reduceSub,Nat.reduceLT,Nat.reduceLeDiff,Nat.lt_irrefl,Int.reduceToNat,Int.reduceLT,Int.reduceLE,Int.reduceNeg,Int.reduceAdd,Int.reduceMul,Int.toNat_zero,Int.toNat_one,decide_true,decide_false,and_self,List.length_cons,List.length_nil,List.getElem?_cons_zero,List.getElem?_cons_succ,List.drop_zero,List.drop_succ_cons,List.take_zero,List.take_succ_cons,List.take_nil,List.drop_nil,List.cons_append,List.nil_append,List.set_cons_zero,List.set_cons_succ,List.all_cons,List.all_nil,Bool.and_true,Bool.and_self,Option.map_some,List.flatten_cons,List.flatten_nil,↓mg,↓ms,↓mg0,↓ms0,ma,ma2,ml,V.one,cellsV,partV,evLoad,evStore,ldB,wrB,evStrIdx,↓ev_nilCheck,evFA,evF,evIA,evI,evBuild,fillV,setAt,evSlice,evStrSlice,bound,chunks,evLen,evAppend,elsV,beq_self_eq_true,Nat.reduceBEq,evMake,evBuildSl,repL,List.replicate_succ,List.replicate_zero,List.range_succ,List.range_zero,Option.map_none,Int.toNat_natCast,Nat.zero_add,Nat.add_zero,Nat.zero_mul,Nat.one_mul,Int.le_refl,Nat.le_refl,agT104,agT110,agT111,agT113,agT115,agT117,agT128,agT156,agT163,agT22,agT23,agT25,agT3,agT32,agT33,agT34,agT4,agT48,agT5,agT51,agT52,agT54,agT56,agT66,agT67,agT71,agT76,agT77,agT78,agT80,agT86,agT9,arT104,arT110,arT111,arT113,arT115,arT117,arT152,arT22,arT23,arT25,arT26,arT32,arT33,arT51,arT52,arT54,arT56,arT66,arT67,arT69,arT71,arT76,arT77,arT78,arT80,arT86,arT9,eqT33,eqT4,eqT9,fdT104f0,fdT104f1,fdT110f0,fdT110f1,fdT113f0,fdT115f0,fdT115f1,fdT115f2,fdT115f3,fdT115f4,fdT117f0,fdT117f1,fdT117f2,fdT117f3,fdT156f0,fdT156f1,fdT163f0,fdT25f0,fdT25f1,fdT32f0,fdT32f1,fdT32f2,fdT32f3,fdT54f0,fdT54f1,fdT54f2,fdT54f3,fdT54f4,fdT54f5,fdT56f0,fdT56f1,fdT69f0,fdT69f1,fdT69f2,fdT69f3,fdT71f0,fdT71f1,fdT80f0,fdT80f1,fdT80f2,fdT80f3,fdT86f0,fdT86f1,intT141,intT152,intT167,intT3,intT9,kdT33,kdT4,kdT9,slT111,slT122,slT152,slT22,slT23,slT26,slT3,slT33,slT51,slT52,slT66,slT67,slT76,slT77,slT78,slT9,smT110,smT115,smT117,smT156,smT3,smT32,smT33,smT5,smT54,smT66,smT71,smT86,smT9,stT104,stT110,stT113,stT115,stT117,stT25,stT32,stT54,stT56,stT69,stT71,stT80,stT86,strT111,strT122,strT152,strT22,strT23,strT26,strT3,strT33,strT51,strT52,strT66,strT67,strT76,strT77,strT78,strT9,szT104,szT110,szT111,szT113,szT115,szT117,szT128,szT156,szT163,szT22,szT23,szT25,szT3,szT32,szT33,szT34,szT4,szT48,szT5,szT51,szT52,szT54,szT56,szT66,szT67,szT69,szT71,szT76,szT77,szT78,szT80,szT86,szT9,zeT104,zeT110,zeT113,zeT115,zeT117,zeT128,zeT156,zeT163,zeT25,zeT3,zeT32,zeT33,zeT34,zeT4,zeT48,zeT5,zeT54,zeT56,zeT66,zeT69,zeT71,zeT80,zeT86,zeT9,FX]
  · rw [lend_len]
/-- .. of an own slice -/
theorem gclone_s(l:List Int)(hl:l.length≤100000)(m:Mem)(k:Nat){st:Sta}(hk:m[k]?=some (.cells st 3 1 (nsV l)):=by first|exact ev_|fail):Gives Tryz.prog 26 [.sl k l.length] m (.lst (nsV l)):=by
  have hla:(nsV l).length=l.length:=nsV_length
  have hal:∀ n,n=1→(nsV l).all (fun e=>e.length==n)=true:=fun n h=>nsV_all h
  have hkl:=lend_get2 hk
  have htk:(nsV l).take l.length=nsV l:=List.take_of_length_le (by rw [hla];exact Nat.le_refl _)
  have hp:=nsV_plain l
  refine CallA_in Tryz.func26 rfl Tryz.ntmps26 Tryz.results26 (by kernel_rfl) (by simp) fun Q hQ=>?_
  (have FX:=fx4 hla hal hkl htk;repeat'(first|(refine sx ?_ ?_<;>intro h<;>first|(exfalso;omega)|skip)|refine ny ?_|refine WA_block ?_))
  refine s_nl2 ?_ rfl lk_ lk_ (by kernel_rfl)
  (have FX:=fx4 hla hal hkl htk;repeat'(first|(refine sx ?_ ?_<;>intro h<;>first|(exfalso;omega)|skip)|refine ny ?_|refine WA_block ?_))
  all_goals(try(exfalso;omega))
  all_goals(refine r_esA hQ (fin_sl (D:=[]) (B:=lend m) (j:=1) (by simp) rfl (by rw [hla];exact Nat.le_refl _) (by rw [htk];exact hp) ⟨by rw [htk],rfl⟩))
def pasA(s p:Int):Int:=((s.natAbs:Int)+p - 1) / p
def pasK(ads:List AdR)(l:List Int):Nat→Int
  |0=>0
  |k+1=>if pasA (l.getD k 0) (ads.getD k adz).pass>pasK ads l k then pasA (l.getD k 0) (ads.getD k adz).pass else pasK ads l k
def sumA(l:List Int):Nat→Int
  |0=>0
  |k+1=>sumA l k+((l.getD k 0).natAbs:Int)
theorem pasA_bd{s p:Int}(h1: -1000≤s∧s≤1000)(h2:1≤p∧p≤1000):0≤pasA s p∧pasA s p≤2000:=by
  unfold pasA
  have h0:0≤(s.natAbs:Int)+p - 1:=by omega
  refine⟨Int.ediv_nonneg h0 (by omega),Int.le_trans (Int.ediv_le_self _ h0) (by omega)⟩
theorem pasK_bd{ads:List AdR}{l:List Int}(hs:∀ k,k<ads.length→ -1000≤l.getD k 0∧l.getD k 0≤1000)(hp:∀ k,k<ads.length→1≤(ads.getD k adz).pass∧(ads.getD k adz).pass≤1000):∀ k,k≤ads.length→0≤pasK ads l k∧pasK ads l k≤2000
  |0,_=>by simp [pasK]
  | k+1,hk=>by
    have ih:=pasK_bd hs hp k (by omega)
    have h:=pasA_bd (hs k (by omega)) (hp k (by omega))
    simp only [pasK]
    split<;>omega
theorem sumA_bd{l:List Int}{n:Nat}(hs:∀ k,k<n→ -1000≤l.getD k 0∧l.getD k 0≤1000):∀ k,k≤n→0≤sumA l k∧sumA l k≤1000*(k:Int)
  |0,_=>by simp [sumA]
  | k+1,hk=>by
    have ih:=sumA_bd hs k (by omega)
    have h:=hs k (by omega)
    simp only [sumA]
    omega

theorem gpasses_c(b:BnR)(hb:Bnd b)(l:List Int)(hl:l.length=b.ads.length)(hs:∀ k,k<b.ads.length→ -1000≤l.getD k 0∧l.getD k 0≤1000)(m:Mem):Gives Tryz.prog 45 [.bp (bxC b) 0,.lst (nsV l)] m (.int .i64 (pasK b.ads l b.ads.length)):=by
  have hln:=nsV_length (l:=l)
  have hla:=adsV_length (l:=b.ads)
  have hga:=hla
  have hgb:=hla
  have hsz:=hla
  have hfa:=hb.fa
  unfold bxC
  generalize nuV (ordB b.ads)=O
  generalize nsV (mnsB b.ms b.ads)=MN
  generalize rwV (rowsB b.ms b.ads)=RW
  refine Gives_in Tryz.func45 rfl Tryz.ntmps45 Tryz.results45 (by kernel_rfl) (by simp) rfl fun Q hQ=>?_
  (have FX:=fx4 hln hla hga hgb;repeat'(first|(refine sx ?_ ?_<;>intro h<;>first|(exfalso;omega)|skip)|(refine na ?_;(first|refine nb hsz ?_)<;>try first|omega|assumption)|refine ny ?_|refine WA_block ?_))
  refine WA_while (σ:=Nat) [0,5,9,10,11] (fun k=>[.bp [.lst (mssV b.ms),.lst (adsV b.ads),.lst O,.lst RW,.lst MN] 0,.int .i64 (pasK b.ads l k),.lst (nsV l),.int .i64 l.length,.int .i64 k]) (fun _=>lend m++[]) (fun k=>k≤b.ads.length) (fun k=>b.ads.length - k) 0 (Nat.zero_le _) tv_ rfl ?_
  rintro k hk1 L hL
  simp only [zipT]
  clear FX hga hgb hsz
  have hbd:=pasK_bd hs hb.pa k hk1
  rcases Nat.lt_or_ge k b.ads.length with hk|hk
  · have hga:=nsV_get (l:=l) (i:=k) (by omega)
    have hgb:=adsV_get hk
    have hsk:=hs k hk
    have hpk:=hb.pa k hk
    have hpa:=pasA_bd hsk hpk
    have hsu:pasK b.ads l (k+1)=if pasA (l.getD k 0) (b.ads.getD k adz).pass>pasK b.ads l k then pasA (l.getD k 0) (b.ads.getD k adz).pass else pasK b.ads l k:=rfl
    have hpd:(((l.getD k 0).natAbs:Int)+(b.ads.getD k adz).pass - 1) / (b.ads.getD k adz).pass=pasA (l.getD k 0) (b.ads.getD k adz).pass:=rfl
    have hsz:=fun m=>gsize_c (l.getD k 0) (by omega) (by omega) m
    generalize b.ads.getD k adz=x at*
    obtain⟨nm,ef,le,mo,pa,af⟩:=x
    unfold adV at hga hgb
    dsimp only at hga hgb hsu hpa hpk hpd
    generalize l.getD k 0=s at*
    generalize hpq:pasA s pa=pq at*
    generalize pasK b.ads l k=pk at*
    have hwr:IntKind.i64.wrap pq=pq:=i64w (by omega) (by omega)
    (have FX:=fx4 hln hla hga hgb;repeat'(first|(refine sx ?_ ?_<;>intro h<;>first|(exfalso;omega)|skip)|(refine na ?_;(first|refine nb hsz ?_)<;>try first|omega|assumption)|refine ny ?_|refine WA_block ?_))
    all_goals(try(exfalso;omega))
    all_goals(refine next_ hL (k+1) hk (by omega) (by rw [hsu];simp only [hpd,hwr];exact tv_))
  · obtain rfl:k=b.ads.length:=by omega
    have hga:=hla
    have hgb:=hla
    have hsz:=hla
    (have FX:=fx4 hln hla hga hgb;repeat'(first|(refine sx ?_ ?_<;>intro h<;>first|(exfalso;omega)|skip)|(refine na ?_;(first|refine nb hsz ?_)<;>try first|omega|assumption)|refine ny ?_|refine WA_block ?_))
    all_goals(try(exfalso;omega))
    all_goals((refine r_es hQ ?_;try with_reducible rfl))
end Go.Proofs.YtnablpehkeicmaaGreat
namespace Go.Proofs.YtnablpehkeicmaaGreat
open Go.RowKit
theorem getD_set(l:List Int)(k i:Nat)(v:Int):(l.set k v).getD i 0=if i=k∧k<l.length then v else l.getD i 0:=by
  rw [List.getD_eq_getElem?_getD,List.getElem?_set,List.getD_eq_getElem?_getD]
  by_cases h:k=i
  · subst h
    by_cases h2:k<l.length
    · rw [if_pos rfl,if_pos h2,if_pos ⟨rfl,h2⟩];rfl
    · rw [if_pos rfl,if_neg h2,if_neg (fun h=>h2 h.2),List.getElem?_eq_none (by omega)]
  · rw [if_neg h,if_neg (fun h2=>h h2.1.symm)]
/-- back from a place, as long as the most steps are there: the least ones instead -/
def crL(ads:List AdR):Nat→List Int→List Int×Option Nat
  |0,l=>(l,none)
  |k+1,l=>if l.getD k 0=(ads.getD k adz).most then crL ads k (l.set k (ads.getD k adz).least) else (l,some k)
theorem crL_succ(ads:List AdR)(k:Nat)(l:List Int):crL ads (k+1) l=if l.getD k 0=(ads.getD k adz).most then crL ads k (l.set k (ads.getD k adz).least) else (l,some k):=rfl
/-- the next steps -/
def nxA(ads:List AdR)(l:List Int):Option (List Int):=match crL ads ads.length l with
  |(l',some k)=>some (l'.set k (l'.getD k 0+1))
  |(_,none)=>none
def stOk(ads:List AdR)(l:List Int):Prop:=l.length=ads.length∧∀ i,i<ads.length→(ads.getD i adz).least≤l.getD i 0∧l.getD i 0≤(ads.getD i adz).most
theorem stErr_iff{ads:List AdR}{l:List Int}:stErr ads l=0↔stOk ads l:=by
  refine⟨fun h=>stErr_ok h,fun h=>?_⟩
  unfold stErr
  rw [if_neg (by have:=h.1;omega),fE_zero]
  intro i hi
  unfold stErrAt
  rw [if_pos (h.2 i hi)]
theorem crL_some {ads:List AdR}:∀ {k:Nat} {l l':List Int} {j:Nat},k≤l.length→crL ads k l=(l',some j)→j<k∧l'.length=l.length∧l.getD j 0≠(ads.getD j adz).most∧(∀ i,i≤j→l'.getD i 0=l.getD i 0)∧(∀ i,j<i→i<k→l.getD i 0=(ads.getD i adz).most∧l'.getD i 0=(ads.getD i adz).least)∧∀ i,k≤i→l'.getD i 0=l.getD i 0
  |0,l,l',j,_,h=>by simp [crL] at h
  | k + 1,l,l',j,hk,h=>by
    unfold crL at h
    split at h
    · rename_i hm
      obtain⟨h1,h2,h3,h4,h5,h6⟩:=crL_some (by simp;omega) h
      have hs:=fun i=>getD_set l k i (ads.getD k adz).least
      refine⟨by omega,by rw [h2];simp,?_,fun i hi=>?_,fun i hi hik=>?_,fun i hi=>?_⟩
      · rw [hs,if_neg (by omega)] at h3;exact h3
      · rw [h4 i hi,hs,if_neg (by omega)]
      · rcases Nat.lt_or_ge i k with q|q
        · obtain⟨g1,g2⟩:=h5 i hi q
          rw [hs,if_neg (by omega)] at g1
          exact⟨g1,g2⟩
        · obtain rfl:i=k:=by omega
          refine⟨hm,?_⟩
          rw [h6 i (Nat.le_refl _),hs,if_pos ⟨rfl,by omega⟩]
      · rw [h6 i (by omega),hs,if_neg (by omega)]
    · rename_i hm
      injection h with e1 e2
      injection e2 with e2
      subst e1;subst e2
      exact⟨by omega,rfl,hm,fun _ _=>rfl,fun i h1 h2=>by omega,fun _ _=>rfl⟩
theorem nxA_ok{ads:List AdR}{l l2:List Int}(hl:stOk ads l)(hw:∀ i,i<ads.length→(ads.getD i adz).least≤(ads.getD i adz).most)(h:nxA ads l=some l2):stOk ads l2:=by
  unfold nxA at h
  split at h
  · rename_i l' k he
    injection h with h
    subst h
    obtain⟨h1,h2,h3,h4,h5,h6⟩:=crL_some (by rw [hl.1];exact Nat.le_refl _) he
    refine⟨by simp [h2,hl.1],fun i hi=>?_⟩
    rw [getD_set]
    have hb:=hl.2 i hi
    have hbw:=hw i hi
    split
    · rename_i hc
      obtain⟨rfl,_⟩:=hc
      rw [h4 i (Nat.le_refl _)]
      omega
    · rename_i hc
      rcases Nat.lt_trichotomy i k with q|q|q
      · rw [h4 i (by omega)];exact hb
      · exact absurd ⟨q,by rw [h2,hl.1];omega⟩ hc
      · rw [(h5 i q hi).2];omega
  · cases h
/-- how many steps are still to come -/
def rkK(ads:List AdR)(l:List Int):Nat→Nat
  |0=>0
  |k+1=>rkK ads l k*(((ads.getD k adz).most - (ads.getD k adz).least).toNat+1)+((ads.getD k adz).most - l.getD k 0).toNat
theorem rkK_same{ads:List AdR}{l l2:List Int}:∀ {k:Nat},(∀ i,i<k→l2.getD i 0=l.getD i 0)→rkK ads l2 k=rkK ads l k
  |0,_=>rfl
  |k+1,h=>by simp only [rkK];rw [rkK_same (k:=k) fun i hi=>h i (by omega),h k (by omega)]
theorem nxA_rank {ads:List AdR} {l l2:List Int} (hl:stOk ads l) (hw:∀ i,i<ads.length→(ads.getD i adz).least≤(ads.getD i adz).most) (h:nxA ads l=some l2):rkK ads l2 ads.length<rkK ads l ads.length:=by
  unfold nxA at h
  split at h
  · rename_i l' k he
    injection h with h
    subst h
    obtain⟨h1,h2,h3,h4,h5,h6⟩:=crL_some (by rw [hl.1];exact Nat.le_refl _) he
    have hg:∀ i,(l'.set k (l'.getD k 0+1)).getD i 0=if i=k then l.getD k 0+1 else l'.getD i 0:=fun i=>by
      rw [getD_set]
      by_cases hc:i=k
      · rw [if_pos ⟨hc,by rw [h2,hl.1];exact h1⟩,if_pos hc,h4 k (Nat.le_refl _)]
      · rw [if_neg (fun h=>hc h.1),if_neg hc]
    have key:∀ d,k+1+d≤ads.length→rkK ads (l'.set k (l'.getD k 0+1)) (k+1+d)+1≤rkK ads l (k+1+d):=by
      intro d
      induction d with
      | zero=>
        intro _
        have hb:=hl.2 k h1
        show rkK ads _ (k+1)+1≤rkK ads l (k+1)
        simp only [rkK]
        rw [rkK_same (l:=l) (k:=k) fun i hi=>by rw [hg,if_neg (by omega),h4 i (by omega)],hg,if_pos rfl]
        omega
      | succ d ih=>
        intro hd
        have ih:=ih (by omega)
        obtain⟨g1,g2⟩:=h5 (k+1+d) (by omega) (by omega)
        have hwk:=hw (k+1+d) (by omega)
        show rkK ads _ (k+1+d+1)+1≤rkK ads l (k+1+d+1)
        simp only [rkK]
        rw [hg (k+1+d),if_neg (by omega),g2,g1]
        generalize rkK ads (l'.set k (l'.getD k 0+1)) (k+1+d)=A at*
        generalize rkK ads l (k+1+d)=B at*
        generalize ((ads.getD (k+1+d) adz).most - (ads.getD (k+1+d) adz).least).toNat=w at*
        have:=Nat.mul_le_mul_right (w+1) ih
        rw [Nat.add_mul] at this
        omega
    have:=key (ads.length - (k+1)) (by omega)
    rw [show k+1+(ads.length - (k+1))=ads.length by omega] at this
    omega
  · cases h
def lstL(ads:List AdR):List Int:=ads.map AdR.least
theorem lstL_get{ads:List AdR}{i:Nat}(h:i<ads.length):(lstL ads).getD i 0=(ads.getD i adz).least:=by
  unfold lstL
  rw [List.getD_eq_getElem?_getD,List.getElem?_map,lst_get (d:=adz) h];rfl
theorem lstL_ok{ads:List AdR}(hw:∀ i,i<ads.length→(ads.getD i adz).least≤(ads.getD i adz).most):stOk ads (lstL ads):=
  ⟨by simp [lstL],fun i hi=>by rw [lstL_get hi];exact⟨Int.le_refl _,hw i hi⟩⟩
/-- .. of which the first ones are there, 0 behind them -/
def filL(ads:List AdR)(i:Nat):List Int:=(List.range ads.length).map fun k=>if k<i then (ads.getD k adz).least else 0
theorem filL_length(ads:List AdR)(i:Nat):(filL ads i).length=ads.length:=by simp [filL]
theorem filL_zero(ads:List AdR):nsV (filL ads 0)=List.replicate ads.length [V.int .i64 0]:=by
  unfold nsV filL
  rw [List.map_map]
  refine List.ext_getElem (by simp) fun i h1 h2=>?_
  simp
theorem filL_all(ads:List AdR):filL ads ads.length=lstL ads:=by
  unfold filL lstL
  refine List.ext_getElem (by simp) fun i h1 h2=>?_
  have hi:i<ads.length:=by simpa using h1
  simp only [List.getElem_map,List.getElem_range,if_pos hi]
  rw [List.getD_eq_getElem?_getD,List.getElem?_eq_getElem hi];rfl
theorem filL_succ{ads:List AdR}{i:Nat}(hi:i<ads.length):filL ads (i+1)=(filL ads i).set i (ads.getD i adz).least:=by
  refine List.ext_getElem (by simp [filL]) fun j h1 h2=>?_
  rw [List.getElem_set]
  simp only [filL,List.getElem_map,List.getElem_range]
  by_cases h:i=j
  · subst h;rw [if_pos rfl,if_pos (by omega)]
  · rw [if_neg h]
    by_cases h3:j<i
    · rw [if_pos (by omega),if_pos h3]
    · rw [if_neg (by omega),if_neg h3]
/-- the best steps up to now -/
structure Bst where
  f:Bool
  l:List Int
  p:Int
  q:Int
def orI(a b:Int):Int:=if a≠0 then a else b
def updB(b:BnR)(l:List Int)(s:Bst):Bst:=if (s.f=true∧0≤orI (cmpI (pasK b.ads l b.ads.length) s.p) (cmpI (sumA l b.ads.length) s.q))∨brkP b l b.ms.length≠[] then s else ⟨true,l,pasK b.ads l b.ads.length,sumA l b.ads.length⟩
def fwF (b:BnR):Nat→List Int→Bst→Bst
  |0,_,s=>s
  | n+1,l,s=>match nxA b.ads l with
    |none=>updB b l s
    |some l'=>fwF b n l' (updB b l s)
/-- .. of all -/
def fwB(b:BnR):Bst:=fwF b (rkK b.ads (lstL b.ads) b.ads.length+1) (lstL b.ads) ⟨false,[],0,0⟩
def trK(ads:List AdR):Nat→Int
  |0=>1
  |k+1=>trK ads k*((ads.getD k adz).most - (ads.getD k adz).least+1)
end Go.Proofs.YtnablpehkeicmaaGreat
namespace Go.Proofs.YtnablpehkeicmaaGreat
open Go.RowKit
attribute [local irreducible] WA WOs WDs WAn qThen qBlock tput
set_option maxHeartbeats 1000000
set_option maxRecDepth 20000
set_option linter.unusedSimpArgs false
set_option linter.unusedVariables false

theorem cor_c(a b:Int)(m:Mem)(k:Nat){st:Sta}(hk:m[k]?=some (.cells st 3 1 [[.int .i64 a],[.int .i64 b]]):=by first|exact ev_|fail):Gives Tryz.prog 23 [.sl k 2] m (.int .i64 (if a≠0 then a else b)):=by
  have hkl:=lend_get2 hk
  refine Gives_in Tryz.func23 rfl Tryz.ntmps23 Tryz.results23 (by kernel_rfl) (by simp) rfl fun Q hQ=>?_
  (have FX:=hkl;repeat'(first|(refine sx ?_ ?_<;>intro h<;>first|(exfalso;omega)|skip)|refine ny ?_|refine WA_block ?_))
  refine WA_rounds 3 ?_
  (have FX:=hkl;repeat'(first|(refine sx ?_ ?_<;>intro h<;>first|(exfalso;omega)|skip)|refine ny ?_|refine WA_block ?_))
  all_goals(try(exfalso;omega))
  all_goals((refine r_es hQ ?_;try with_reducible rfl))
  all_goals(refine congrArg (V.int .i64) ?_;first|(rw [if_pos (by omega)];done)|(rw [if_neg (by omega)];done)|(rw [if_neg (by omega)];omega))
theorem uB15_22_5{N:Nat}{l:List Oper}{t:List (Nat×V)}{m:Mem}{Q:Exit→List (Nat×V)→Mem→Prop}(h:RgN Tryz.prog N l t m Q (fun i=>if i==6 then .w else if i==1 || i==3 then .q else .p) [.one 0,.one 1,.one 2,.one 3,.one 4,.one 5,.one 6]):WA Tryz.prog N (.region 5 l.toArray true) t m Q:=d_rgN h
theorem geffort_c(b:BnR)(hb:Bnd b)(l:List Int)(hl:l.length=b.ads.length)(hs:∀ k,k<b.ads.length→ -1000≤l.getD k 0∧l.getD k 0≤1000)(m:Mem):Gives Tryz.prog 22 [.bp (bxC b) 0,.lst (nsV l)] m (.agg [.int .i64 (pasK b.ads l b.ads.length),.int .i64 (sumA l b.ads.length)]):=by
  have hln:=nsV_length (l:=l)
  have hga:=hln
  have hsz:=hln
  have hfa:=hb.fa
  refine Gives_in Tryz.func22 rfl Tryz.ntmps22 Tryz.results22 (by kernel_rfl) (by simp) rfl fun Q hQ=>?_
  (have FX:=And.intro hln hga;repeat'(first|(refine sx ?_ ?_<;>intro h<;>first|(exfalso;omega)|skip)|(refine na ?_;(first|refine nb (gpasses_c b hb l hl hs) ?_|refine nb hsz ?_)<;>try first|omega|assumption)|refine ny ?_|refine WA_block ?_|(refine uB15_22_5 ?_;refine⟨by kernel_rfl,?_⟩)|(refine g_d ?_;(first|refine d_fnY (gpasses_c b hb l hl hs _) ?_|refine d_fnY (hsz _) ?_)<;>try first|omega|assumption)))
  refine WA_whileK (σ:=Nat) (L:=m) [4,5,12,13,14] (fun k=>[.ptr (lend m).length 0 0,.ptr ((lend m).length+1) 0 0,.lst (nsV l),.int .i64 l.length,.int .i64 k]) (fun k=>[.cells .own 56 2 [[.int .i64 0,.int .i64 0]],.cells .own 56 2 [[.int .i64 (pasK b.ads l b.ads.length),.int .i64 (sumA l k)]]]) 2 (fun k=>k≤b.ads.length) (fun k=>b.ads.length - k) 0 (Nat.zero_le _) tv_ rfl (fun _=>rfl) (by intro s s' _ _;simp [conB,conS,V.keeps,V.plain,Blk.flat,flatL,plainL,V.flat]) (by intro s s' _ _;simp [conB,conS,V.keeps,V.plain,Blk.flat,flatL,plainL,V.flat]) ?_
  rintro k hk1 K hK
  simp only [zipT]
  clear FX hga hsz
  have hbd:=sumA_bd hs k hk1
  rcases Nat.lt_or_ge k b.ads.length with hk|hk
  · have hga:=nsV_get (l:=l) (i:=k) (by omega)
    have hsk:=hs k hk
    have hsz:=fun m=>gsize_c (l.getD k 0) (by omega) (by omega) m
    have hsu:sumA l (k+1)=sumA l k+((l.getD k 0).natAbs:Int):=rfl
    generalize l.getD k 0=s at*
    generalize sumA l k=sk at*
    (have FX:=And.intro hln hga;repeat'(first|(refine sx ?_ ?_<;>intro h<;>first|(exfalso;omega)|skip)|(refine na ?_;(first|refine nb (gpasses_c b hb l hl hs) ?_|refine nb hsz ?_)<;>try first|omega|assumption)|refine ny ?_|refine WA_block ?_|(refine uB15_22_5 ?_;refine⟨by kernel_rfl,?_⟩)|(refine g_d ?_;(first|refine d_fnY (gpasses_c b hb l hl hs _) ?_|refine d_fnY (hsz _) ?_)<;>try first|omega|assumption)))
    all_goals(try(exfalso;omega))
    all_goals(refine nextL_ hK (k+1) hk (by omega) (hm:=by rw [hsu];rfl))
  · obtain rfl:k=b.ads.length:=by omega
    have hga:=hln
    have hsz:=hln
    (have FX:=And.intro hln hga;repeat'(first|(refine sx ?_ ?_<;>intro h<;>first|(exfalso;omega)|skip)|(refine na ?_;(first|refine nb (gpasses_c b hb l hl hs) ?_|refine nb hsz ?_)<;>try first|omega|assumption)|refine ny ?_|refine WA_block ?_|(refine uB15_22_5 ?_;refine⟨by kernel_rfl,?_⟩)|(refine g_d ?_;(first|refine d_fnY (gpasses_c b hb l hl hs _) ?_|refine d_fnY (hsz _) ?_)<;>try first|omega|assumption)))
    all_goals(try(exfalso;omega))
    all_goals((refine r_es hQ ?_;try with_reducible rfl))
end Go.Proofs.YtnablpehkeicmaaGreat
