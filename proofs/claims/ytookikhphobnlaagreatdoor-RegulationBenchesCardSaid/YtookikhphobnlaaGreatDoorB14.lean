/- contracts: copies, passes, effort -/
import Derived.Test.YtookikhphobnlaaGreatDoorGAI
set_option linter.unusedSimpArgs false
set_option linter.unusedVariables false
namespace Go.Proofs.YtookikhphobnlaaGreatDoor
open Go.RowKit
attribute [local irreducible] WA WOs WDs WAn qThen qBlock tput
set_option maxHeartbeats 1000000
set_option maxRecDepth 20000
set_option linter.unusedSimpArgs false
set_option linter.unusedVariables false
theorem Gives_of{P:Program}{f:FuncId}{vs:List V}{m:Mem}{v':V}{R:V→Option Mem→Prop}(h:CallA P f vs m R)(hR:∀ v mo,R v mo→mo=none∧WkV v v'):Gives P f vs m v':=by
  refine⟨h.1,fun w ρ xs hM hA=>(h.2 w ρ xs hM hA).mono ?_⟩
  rintro e w' ⟨v,mo,x,rfl,h1,h2⟩
  obtain⟨rfl,hw⟩:=hR v mo h1
  rcases h2 with ⟨_,hb,rv⟩|⟨m',ρ',e,_⟩
  · exact⟨v',none,x,rfl,⟨rfl,rfl⟩,.inl ⟨rfl,hb,hw _ _ _ _ rv⟩⟩
  · cases e
theorem nsV_cons(a:Int)(r:List Int):nsV (a::r)=[V.int .i64 a]::nsV r:=rfl

theorem gclone_v(l:List Int)(hl:l.length≤100000)(m:Mem):Gives Tryz.prog 62 [.lst (nsV l)] m (.lst (nsV l)):=by
  cases l with
  | nil=>
    have hla:(nsV ([]:List Int)).length=0:=rfl
    have hal:∀ n,n=1→(nsV ([]:List Int)).all (fun e=>e.length==n)=true:=fun n h=>nsV_all h
    suffices key:CallA Tryz.prog 62 [.lst []] m (fun v mo=>(v= .nilsl∨v= .lst [])∧mo=none) from by
      refine Gives_of key ?_
      rintro v mo ⟨h1,rfl⟩
      refine⟨rfl,?_⟩
      rcases h1 with rfl|rfl
      · exact wk_nil
      · exact WkV.refl _
    refine CallA_in Tryz.func62 rfl Tryz.ntmps62 Tryz.results62 (by kernel_rfl) (by simp) fun Q hQ=>?_
    (have FX:=And.intro hla hal;repeat'(first|(refine sx ?_ ?_<;>intro h<;>first|(exfalso;omega)|skip)|refine ny ?_|refine WA_block ?_))
    refine s_nl0 ?_ ?_ rfl lk_ lk_ ⟨3,by kernel_rfl⟩
    · (have FX:=And.intro hla hal;repeat'(first|(refine sx ?_ ?_<;>intro h<;>first|(exfalso;omega)|skip)|refine ny ?_|refine WA_block ?_))
      all_goals(refine r_esA hQ (.inl ⟨rfl,.inl rfl,rfl⟩))
    · (have FX:=And.intro hla hal;repeat'(first|(refine sx ?_ ?_<;>intro h<;>first|(exfalso;omega)|skip)|refine ny ?_|refine WA_block ?_))
      all_goals(refine r_esA hQ (fin_sl (D:=[]) (B:=lend m) (j:=1) (k:=0) (es:=[]) (by simp) rfl (Nat.le_refl _) rfl ⟨.inr rfl,rfl⟩))
  | cons a r=>
    have hla:(nsV (a::r)).length=r.length+1:=by rw [nsV_length];rfl
    have hal:∀ n,n=1→(nsV (a::r)).all (fun e=>e.length==n)=true:=fun n h=>nsV_all h
    have hp:=nsV_plain (a::r)
    simp only [List.length_cons] at hl
    rw [nsV_cons] at *
    refine CallA_in Tryz.func62 rfl Tryz.ntmps62 Tryz.results62 (by kernel_rfl) (by simp) fun Q hQ=>?_
    (have FX:=And.intro hla hal;repeat'(first|(refine sx ?_ ?_<;>intro h<;>first|(exfalso;omega)|skip)|refine ny ?_|refine WA_block ?_))
    refine s_nl1 ?_ rfl lk_ lk_ (by kernel_rfl)
    (have FX:=And.intro hla hal;repeat'(first|(refine sx ?_ ?_<;>intro h<;>first|(exfalso;omega)|skip)|refine ny ?_|refine WA_block ?_))
    all_goals(try(exfalso;omega))
    all_goals(refine r_esA hQ (fin_sl (D:=[]) (B:=lend m) (j:=1) (by simp) rfl (by rw [hla];exact Nat.le_refl _) (by rw [List.take_of_length_le (by rw [hla];exact Nat.le_refl _)];exact hp) ⟨?_,rfl⟩))
    all_goals(rw [List.take_of_length_le (by rw [hla];exact Nat.le_refl _)])
/-- .. handed over -/
theorem gclone_o(a:Int)(r:List Int)(hl:r.length≤100000)(m:Mem):CallA Tryz.prog 62 [.lst (nsV (a::r))] m fun v mo=>v= .sl (m.length+1) (r.length+1)∧mo=some (m++[.dead,.cells .own 3 1 (nsV (a::r))]):=by
  have hla:(nsV (a::r)).length=r.length+1:=by rw [nsV_length];rfl
  have hal:∀ n,n=1→(nsV (a::r)).all (fun e=>e.length==n)=true:=fun n h=>nsV_all h
  rw [nsV_cons] at *
  refine CallA_inO Tryz.func62 rfl Tryz.ntmps62 Tryz.results62 (by kernel_rfl) (by simp) fun Q hQ=>?_
  (have FX:=And.intro hla hal;repeat'(first|(refine sx ?_ ?_<;>intro h<;>first|(exfalso;omega)|skip)|refine ny ?_|refine WA_block ?_))
  refine s_nl1 ?_ rfl lk_ lk_ (by kernel_rfl)
  (have FX:=And.intro hla hal;repeat'(first|(refine sx ?_ ?_<;>intro h<;>first|(exfalso;omega)|skip)|refine ny ?_|refine WA_block ?_))
  all_goals(try(exfalso;omega))
  all_goals(refine hQ _ _ _ (by first|exact .inl rfl|exact .inr rfl) (.sl ((lend m).length+1) (r.length+1)) ?_ ⟨_,rfl,?_,rfl⟩)
  · simp (disch:=omega) only [resV,resVs,resOne,tupV,↓ev_move,↓ev_assign,↓ev_pick,↓ev_alloc,↓ev_box,↓ev_load,↓ev_store,↓ev_binOp,↓ev_unOp,↓ev_extract,↓ev_fieldAddr,↓ev_field,↓ev_indexAddr,↓ev_index,↓ev_makeFunc,↓ev_build,↓ev_makeSlice,↓ev_buildSlice,↓ev_convert,↓ev_len,↓ev_max,↓ev_min,↓ev_append,↓ev_slice,maxLen_eq,b_aeq,b_ane,planEq,leafEq,←Bool.decide_and,b_add,b_sub,b_mul,b_quo,b_rem,b_and,b_or,b_xor,b_eql,b_neq,b_lss,b_leq,b_gtr,b_geq,b_sadd,b_seql,b_sneq,u_not,u_neg,okO_some,okR_eq,↓evO_tmp,↓evO_const,↓evO_func,↓evO_glb,gval,ofC_int,ofC_bool,ofC_nilsl,ofC_nilptr,ofC_nilfn,ofC_nilmap,ofC_nilif,ofC_str,tput_some,tput_none,i64w,u64w,Int.one_mul,Int.tdiv_eq_ediv_of_nonneg,ne_eq,not_false_eq_true,not_true_eq_false,Int.reduceEq,↓tg_c,tg_n,↓reduceIte,Nat.reduceEqDiff,true_and,and_true,evMax,evMin,reduceCtorEq,Nat.succ_ne_zero,Nat.zero_ne_one,Nat.one_ne_zero,Bool.not_true,Bool.not_false,argT,Nat.reduceAdd,pickT,List.map_cons,List.map_nil,Nat.reduceMul,Nat.reduceSub,Nat.reduceLT,Nat.reduceLeDiff,Nat.lt_irrefl,Int.reduceToNat,Int.reduceLT,Int.reduceLE,Int.reduceNeg,Int.reduceAdd,Int.reduceMul,Int.toNat_zero,Int.toNat_one,decide_true,decide_false,and_self,List.length_cons,List.length_nil,List.getElem?_cons_zero,List.getElem?_cons_succ,List.drop_zero,List.drop_succ_cons,List.take_zero,List.take_succ_cons,List.take_nil,List.drop_nil,List.cons_append,List.nil_append,List.set_cons_zero,List.set_cons_succ,List.all_cons,List.all_nil,Bool.and_true,Bool.and_self,Option.map_some,List.flatten_cons,List.flatten_nil,↓mg,↓ms,↓mg0,↓ms0,ma,ma2,ml,V.one,cellsV,partV,evLoad,evStore,ldB,wrB,evStrIdx,↓ev_nilCheck,evFA,evF,evIA,evI,evBuild,fillV,setAt,evSlice,evStrSlice,bound,chunks,evLen,evAppend,elsV,beq_self_eq_true,Nat.reduceBEq,evMake,evBuildSl,repL,List.replicate_succ,List.replicate_zero,List.range_succ,List.range_zero,Option.map_none,Int.toNat_natCast,Nat.zero_add,Nat.add_zero,Nat.zero_mul,Nat.one_mul,Int.le_refl,Nat.le_refl,agT111,agT117,agT132,agT174,agT198,agT23,agT25,agT26,agT28,agT29,agT3,agT4,agT43,agT5,agT58,agT69,agT71,agT75,agT76,agT78,agT83,agT9,agT91,agT92,agT97,arT117,arT145,arT163,arT173,arT185,arT188,arT190,arT195,arT196,arT198,arT199,arT203,arT204,arT23,arT25,arT26,arT28,arT43,arT58,arT69,arT71,arT75,arT76,arT78,arT83,arT9,arT92,eqT23,eqT43,eqT75,eqT83,eqT9,eqT91,eqT97,fdT117f0,fdT117f1,fdT145f0,fdT145f1,fdT145f2,fdT145f3,fdT185f0,fdT185f1,fdT185f2,fdT195f0,fdT198f0,fdT198f1,fdT23f0,fdT23f1,fdT28f0,fdT28f1,fdT75f0,fdT75f1,fdT75f2,fdT75f3,fdT78f0,fdT78f1,fdT78f2,fdT78f3,fdT78f4,fdT78f5,fdT83f0,fdT83f1,fdT94f0,fdT94f1,intT158,intT174,intT182,intT189,intT2,intT21,intT3,intT5,intT9,intT91,intT92,kdT23,kdT43,kdT75,kdT83,kdT9,kdT91,kdT97,slT103,slT136,slT163,slT173,slT188,slT190,slT196,slT199,slT203,slT204,slT25,slT26,slT3,slT43,slT58,slT69,slT71,slT76,slT9,slT92,smT3,smT43,smT5,smT75,smT78,smT83,smT9,stT117,stT145,stT163,stT185,stT188,stT195,stT198,stT199,stT203,stT204,stT23,stT28,stT75,stT78,stT83,strT103,strT136,strT173,strT190,strT25,strT26,strT3,strT43,strT58,strT69,strT76,strT9,strT92,szT111,szT117,szT132,szT145,szT163,szT174,szT185,szT188,szT195,szT198,szT199,szT203,szT204,szT23,szT25,szT26,szT28,szT29,szT3,szT4,szT43,szT5,szT58,szT69,szT71,szT75,szT76,szT78,szT83,szT9,szT91,szT92,szT97,zeT111,zeT117,zeT132,zeT145,zeT163,zeT173,zeT185,zeT188,zeT195,zeT198,zeT199,zeT203,zeT23,zeT28,zeT29,zeT3,zeT4,zeT43,zeT5,zeT71,zeT75,zeT78,zeT83,zeT9,zeT94,FX]
  · rw [lend_len]
/-- .. of an own slice -/
theorem gclone_s(l:List Int)(hl:l.length≤100000)(m:Mem)(k:Nat){st:Sta}(hk:m[k]?=some (.cells st 3 1 (nsV l)):=by first|exact ev_|fail):Gives Tryz.prog 62 [.sl k l.length] m (.lst (nsV l)):=by
  have hla:(nsV l).length=l.length:=nsV_length
  have hal:∀ n,n=1→(nsV l).all (fun e=>e.length==n)=true:=fun n h=>nsV_all h
  have hkl:=lend_get2 hk
  have htk:(nsV l).take l.length=nsV l:=List.take_of_length_le (by rw [hla];exact Nat.le_refl _)
  have hp:=nsV_plain l
  refine CallA_in Tryz.func62 rfl Tryz.ntmps62 Tryz.results62 (by kernel_rfl) (by simp) fun Q hQ=>?_
  (have FX:=And.intro hla (And.intro hal (And.intro hkl htk));repeat'(first|(refine sx ?_ ?_<;>intro h<;>first|(exfalso;omega)|skip)|refine ny ?_|refine WA_block ?_))
  refine s_nl2 ?_ rfl lk_ lk_ (by kernel_rfl)
  (have FX:=And.intro hla (And.intro hal (And.intro hkl htk));repeat'(first|(refine sx ?_ ?_<;>intro h<;>first|(exfalso;omega)|skip)|refine ny ?_|refine WA_block ?_))
  all_goals(try(exfalso;omega))
  all_goals(refine r_esA hQ (fin_sl (D:=[]) (B:=lend m) (j:=1) (by simp) rfl (by rw [hla];exact Nat.le_refl _) (by rw [htk];exact hp) ⟨by rw [htk],rfl⟩))
def pasA(s p:Int):Int:=((s.natAbs:Int)+p - 1) / p
def pasK(ads:List AdR)(l:List Int):Nat→Int
  |0=>0
  |k+1=>if pasA (l.getD k 0) (ads.getD k adz).pass>pasK ads l k then pasA (l.getD k 0) (ads.getD k adz).pass else pasK ads l k
def sumA(l:List Int):Nat→Int
  |0=>0
  |k+1=>sumA l k+((l.getD k 0).natAbs:Int)
theorem pasA_bd{s p:Int}(h1: -1000≤s∧s≤1000)(h2:1≤p∧p≤1000):0≤pasA s p∧pasA s p≤2000:=by
  unfold pasA
  have h0:0≤(s.natAbs:Int)+p - 1:=by omega
  refine⟨Int.ediv_nonneg h0 (by omega),Int.le_trans (Int.ediv_le_self _ h0) (by omega)⟩
theorem pasK_bd{ads:List AdR}{l:List Int}(hs:∀ k,k<ads.length→ -1000≤l.getD k 0∧l.getD k 0≤1000)(hp:∀ k,k<ads.length→1≤(ads.getD k adz).pass∧(ads.getD k adz).pass≤1000):∀ k,k≤ads.length→0≤pasK ads l k∧pasK ads l k≤2000
  |0,_=>by simp [pasK]
  | k+1,hk=>by
    have ih:=pasK_bd hs hp k (by omega)
    have h:=pasA_bd (hs k (by omega)) (hp k (by omega))
    simp only [pasK]
    split<;>omega
theorem sumA_bd{l:List Int}{n:Nat}(hs:∀ k,k<n→ -1000≤l.getD k 0∧l.getD k 0≤1000):∀ k,k≤n→0≤sumA l k∧sumA l k≤1000 * (k:Int)
  |0,_=>by simp [sumA]
  | k+1,hk=>by
    have ih:=sumA_bd hs k (by omega)
    have h:=hs k (by omega)
    simp only [sumA]
    omega

theorem gpasses_c(b:BnR)(hb:Bnd b)(l:List Int)(hl:l.length=b.ads.length)(hs:∀ k,k<b.ads.length→ -1000≤l.getD k 0∧l.getD k 0≤1000)(m:Mem):Gives Tryz.prog 93 [.bp (bxC b) 0,.lst (nsV l)] m (.int .i64 (pasK b.ads l b.ads.length)):=by
  have hln:=nsV_length (l:=l)
  have hla:=adsV_length (l:=b.ads)
  have hga:=hla
  have hgb:=hla
  have hsz:=hla
  have hfa:=hb.fa
  unfold bxC
  generalize nuV (ordB b.ads)=O
  generalize nsV (mnsB b.ms b.ads)=MN
  generalize rwV (rowsB b.ms b.ads)=RW
  refine Gives_in Tryz.func93 rfl Tryz.ntmps93 Tryz.results93 (by kernel_rfl) (by simp) rfl fun Q hQ=>?_
  (have FX:=And.intro hln (And.intro hla (And.intro hga hgb));repeat'(first|(refine sx ?_ ?_<;>intro h<;>first|(exfalso;omega)|skip)|(refine g_op ?_;refine g_call ?_;refine g_args ?_;(first|refine s_fn (hsz _) ?_)<;>try first|omega|assumption)|refine ny ?_|refine WA_block ?_))
  refine WA_while (σ:=Nat) [0,5,9,10,11] (fun k=>[.bp [.lst (mssV b.ms),.lst (adsV b.ads),.lst O,.lst RW,.lst MN] 0,.int .i64 (pasK b.ads l k),.lst (nsV l),.int .i64 l.length,.int .i64 k]) (fun _=>lend m++[]) (fun k=>k≤b.ads.length) (fun k=>b.ads.length - k) 0 (Nat.zero_le _) tv_ rfl ?_
  rintro k hk1 L hL
  simp only [zipT]
  clear FX hga hgb hsz
  have hbd:=pasK_bd hs hb.pa k hk1
  rcases Nat.lt_or_ge k b.ads.length with hk|hk
  · have hga:=nsV_get (l:=l) (i:=k) (by omega)
    have hgb:=adsV_get hk
    have hsk:=hs k hk
    have hpk:=hb.pa k hk
    have hpa:=pasA_bd hsk hpk
    have hsu:pasK b.ads l (k+1)=if pasA (l.getD k 0) (b.ads.getD k adz).pass>pasK b.ads l k then pasA (l.getD k 0) (b.ads.getD k adz).pass else pasK b.ads l k:=rfl
    have hpd:(((l.getD k 0).natAbs:Int)+(b.ads.getD k adz).pass - 1) / (b.ads.getD k adz).pass=pasA (l.getD k 0) (b.ads.getD k adz).pass:=rfl
    have hsz:=fun m=>gsize_c (l.getD k 0) (by omega) (by omega) m
    generalize b.ads.getD k adz=x at *
    obtain⟨nm,ef,le,mo,pa,af⟩:=x
    unfold adV at hga hgb
    dsimp only at hga hgb hsu hpa hpk hpd
    generalize l.getD k 0=s at *
    generalize hpq:pasA s pa=pq at *
    generalize pasK b.ads l k=pk at *
    have hwr:IntKind.i64.wrap pq=pq:=i64w (by omega) (by omega)
    (have FX:=And.intro hln (And.intro hla (And.intro hga hgb));repeat'(first|(refine sx ?_ ?_<;>intro h<;>first|(exfalso;omega)|skip)|(refine g_op ?_;refine g_call ?_;refine g_args ?_;(first|refine s_fn (hsz _) ?_)<;>try first|omega|assumption)|refine ny ?_|refine WA_block ?_))
    all_goals(try(exfalso;omega))
    all_goals(refine next_ hL (k+1) hk (by omega) (by rw [hsu];simp only [hpd,hwr];exact tv_))
  · obtain rfl:k=b.ads.length:=by omega
    have hga:=hla
    have hgb:=hla
    have hsz:=hla
    (have FX:=And.intro hln (And.intro hla (And.intro hga hgb));repeat'(first|(refine sx ?_ ?_<;>intro h<;>first|(exfalso;omega)|skip)|(refine g_op ?_;refine g_call ?_;refine g_args ?_;(first|refine s_fn (hsz _) ?_)<;>try first|omega|assumption)|refine ny ?_|refine WA_block ?_))
    all_goals(try(exfalso;omega))
    all_goals((refine r_es hQ ?_;try with_reducible rfl))
end Go.Proofs.YtookikhphobnlaaGreatDoor
