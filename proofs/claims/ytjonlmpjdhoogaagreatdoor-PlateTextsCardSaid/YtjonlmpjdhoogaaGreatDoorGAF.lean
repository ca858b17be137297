import Derived.Test.YtjonlmpjdhoogaaGreatDoorProg
import Derived.Test.YtjonlmpjdhoogaaGreatDoorYC
import Derived.Test.YtjonlmpjdhoogaaGreatDoorGAE
set_option linter.unusedSimpArgs false
set_option linter.unusedVariables false
namespace Go.Proofs.YtjonlmpjdhoogaaGreatDoor
open Go.RowKit
attribute [local irreducible] WA WOs WDs WAn qThen qBlock tput
set_option maxHeartbeats 1000000
set_option maxRecDepth 20000
set_option linter.unusedSimpArgs false
set_option linter.unusedVariables false
def chkB:Option Int→List Int→Int
  |_,[]=>0
  |p,x::r=>if ¬ (-20000≤x∧x≤20000) then 2 else if (p.elim false fun q=>decide (x≤q))=true then 9 else chkB (some x) r
def barsErr(xs:List Int):Int:=if xs.length<2∨20<xs.length then 10 else chkB none xs
def prevAt(xs:List Int):Nat→Option Int
  |0=>none
  |k+1=>xs[k]?
theorem drop_cons{xs:List Int}{i:Nat}(h:i<xs.length):xs.drop i=xs[i]::xs.drop (i+1):=List.drop_eq_getElem_cons h

theorem checkbars_c(xs:List Int)(hlen':xs.length≤1000000)(m:Mem):Gives Tryz.prog 39 [.lst (intsV xs)] m (.int .i64 (barsErr xs)):=by
  have hlen:=intsV_length (xs:=xs)
  have hget:=hlen
  have hget':=hlen
  have hi1:=hlen
  by_cases hb:xs.length<2∨20<xs.length
  · unfold barsErr
    rw [if_pos hb]
    refine Gives_in Tryz.func39 rfl Tryz.ntmps39 Tryz.results39 (by kernel_rfl) (by simp) rfl fun Q hQ=>?_
    (have FX:=And.intro hlen (And.intro hget (And.intro hget' hi1));repeat'(first|(refine sx ?_ ?_<;>intro h<;>first|(exfalso;omega)|skip)|(refine g_op ?_;refine g_call ?_;refine g_args ?_;(first|refine s_fn (pwithin_c _ _ ?_ ?_ _) ?_)<;>try first|omega|assumption)|refine ny ?_|refine WA_block ?_))
    all_goals(refine r_es hQ ?_;try with_reducible rfl)
  unfold barsErr
  rw [if_neg hb]
  generalize hE:chkB none xs=E
  refine Gives_in Tryz.func39 rfl Tryz.ntmps39 Tryz.results39 (by kernel_rfl) (by simp) rfl fun Q hQ=>?_
  (have FX:=And.intro hlen (And.intro hget (And.intro hget' hi1));repeat'(first|(refine sx ?_ ?_<;>intro h<;>first|(exfalso;omega)|skip)|(refine g_op ?_;refine g_call ?_;refine g_args ?_;(first|refine s_fn (pwithin_c _ _ ?_ ?_ _) ?_)<;>try first|omega|assumption)|refine ny ?_|refine WA_block ?_))
  refine WA_while (σ:=Nat) [0,13,14,15] (fun i=>[.lst (intsV xs),.lst (intsV xs),.int .i64 xs.length,.int .i64 i]) (fun _=>lend m++[]) (fun i=>i≤xs.length∧chkB (prevAt xs i) (xs.drop i)=E) (fun i=>xs.length - i) 0 ⟨Nat.zero_le _,hE⟩ tv_ rfl ?_
  rintro i ⟨hi1',hi2⟩ L hL
  rcases Nat.lt_or_ge i xs.length with hi|hi
  · have hget:=intsV_get hi
    rw [drop_cons hi] at hi2
    cases i with
    | zero=>
      simp only [prevAt,chkB] at hi2
      simp only [zipT]
      (have FX:=And.intro hlen (And.intro hget (And.intro hget' hi1));repeat'(first|(refine sx ?_ ?_<;>intro h<;>first|(exfalso;omega)|skip)|(refine g_op ?_;refine g_call ?_;refine g_args ?_;(first|refine s_fn (pwithin_c _ _ ?_ ?_ _) ?_)<;>try first|omega|assumption)|refine ny ?_|refine WA_block ?_))
      all_goals first|((refine r_es hQ ?_;try with_reducible rfl);rw [←hi2];simp [*];done)|(refine next_ hL 1 ⟨hi,?_⟩ (by omega);rw [←hi2];simp [prevAt, *];done)
    | succ k=>
      have hk:k<xs.length:=by omega
      have hget':=intsV_get hk
      have hi1:(((k+1:Nat):Int) - 1).toNat=k:=by omega
      simp only [prevAt,chkB,List.getElem?_eq_getElem hk] at hi2
      simp only [zipT]
      (have FX:=And.intro hlen (And.intro hget (And.intro hget' hi1));repeat'(first|(refine sx ?_ ?_<;>intro h<;>first|(exfalso;omega)|skip)|(refine g_op ?_;refine g_call ?_;refine g_args ?_;(first|refine s_fn (pwithin_c _ _ ?_ ?_ _) ?_)<;>try first|omega|assumption)|refine ny ?_|refine WA_block ?_))
      all_goals first|((refine r_es hQ ?_;try with_reducible rfl);rw [←hi2];simp [*];done)|(refine next_ hL (k+1+1) ⟨hi,?_⟩ (by omega);rw [←hi2];simp [prevAt, *];done)
  · simp only [zipT]
    (have FX:=And.intro hlen (And.intro hget (And.intro hget' hi1));repeat'(first|(refine sx ?_ ?_<;>intro h<;>first|(exfalso;omega)|skip)|(refine g_op ?_;refine g_call ?_;refine g_args ?_;(first|refine s_fn (pwithin_c _ _ ?_ ?_ _) ?_)<;>try first|omega|assumption)|refine ny ?_|refine WA_block ?_))
    (refine r_es hQ ?_;try with_reducible rfl)
    rw [List.drop_eq_nil_of_le hi] at hi2
    rw [←hi2]
    cases i<;>rfl
def ldsV(ls:List (Int×Int)):List (List V):=ls.map fun p=>[V.int .i64 p.1,V.int .i64 p.2]
theorem ldsV_get{ls:List (Int×Int)}{i:Nat}(h:i<ls.length):(ldsV ls)[i]?=some [.int .i64 ls[i].1,.int .i64 ls[i].2]:=by simp [ldsV,h]
theorem ldsV_length{ls:List (Int×Int)}:(ldsV ls).length=ls.length:=by simp [ldsV]
theorem ldsV_plain:∀ ls:List (Int×Int),plainLL (ldsV ls)=true
  |[]=>rfl
  | p::ls=>by
    have:=ldsV_plain ls
    simpa [ldsV,plainLL,plainL,V.plain] using this
def loadOk(lo hi:Int)(p:Int×Int):Prop:=(lo≤p.1∧p.1≤hi)∧(-1000000≤p.2∧p.2≤1000000)
instance(lo hi:Int)(p:Int×Int):Decidable (loadOk lo hi p):=by unfold loadOk;exact inferInstance
def loadsErr(lo hi:Int)(ls:List (Int×Int)):Int:=if 100<ls.length then 8 else if ∀ p∈ls,loadOk lo hi p then 0 else 2

theorem checkloads_c(ls:List (Int×Int))(lo hi:Int)(hl:ls.length≤1000000)(m:Mem):Gives Tryz.prog 40 [.lst (ldsV ls),.int .i64 lo,.int .i64 hi] m (.int .i64 (loadsErr lo hi ls)):=by
  have hlen:=ldsV_length (ls:=ls)
  have hget:=hlen
  unfold loadsErr
  by_cases hb:100<ls.length
  · rw [if_pos hb]
    refine Gives_in Tryz.func40 rfl Tryz.ntmps40 Tryz.results40 (by kernel_rfl) (by simp) rfl fun Q hQ=>?_
    (have FX:=And.intro hlen hget;repeat'(first|(refine sx ?_ ?_<;>intro h<;>first|(exfalso;omega)|skip)|(refine g_op ?_;refine g_call ?_;refine g_args ?_;(first|refine s_fn (pwithin_c _ _ ?_ ?_ _) ?_)<;>try first|omega|assumption)|refine ny ?_|refine WA_block ?_))
    all_goals(refine r_es hQ ?_;try with_reducible rfl)
  rw [if_neg hb]
  generalize hE:(if ∀ p∈ls,loadOk lo hi p then (0:Int) else 2)=E
  refine Gives_in Tryz.func40 rfl Tryz.ntmps40 Tryz.results40 (by kernel_rfl) (by simp) rfl fun Q hQ=>?_
  (have FX:=And.intro hlen hget;repeat'(first|(refine sx ?_ ?_<;>intro h<;>first|(exfalso;omega)|skip)|(refine g_op ?_;refine g_call ?_;refine g_args ?_;(first|refine s_fn (pwithin_c _ _ ?_ ?_ _) ?_)<;>try first|omega|assumption)|refine ny ?_|refine WA_block ?_))
  refine WA_whileL (σ:=Nat) (L:=m) [1,2,12,13,14] (fun i=>[.int .i64 lo,.int .i64 hi,.lst (ldsV ls),.int .i64 ls.length,.int .i64 i]) (fun _=>[]) 0 (fun i=>i≤ls.length∧∀ j (h:j<ls.length),j<i→loadOk lo hi ls[j]) (fun i=>ls.length - i) 0 ⟨Nat.zero_le _,fun j h1 h2=>absurd h2 (Nat.not_lt_zero _)⟩ tv_ rfl (fun _=>rfl) ?_ (fun _=>rfl) ?_
  · intro s v hv
    simp only [List.mem_cons,List.not_mem_nil,or_false] at hv
    rcases hv with rfl|rfl|rfl|rfl|rfl
    all_goals first|rfl|exact ldsV_plain ls
  rintro i ⟨hi1,hi2⟩ K2 hL
  rcases Nat.lt_or_ge i ls.length with hi'|hi'
  · have hget:=ldsV_get hi'
    simp only [zipT]
    (have FX:=And.intro hlen hget;repeat'(first|(refine sx ?_ ?_<;>intro h<;>first|(exfalso;omega)|skip)|(refine g_op ?_;refine g_call ?_;refine g_args ?_;(first|refine s_fn (pwithin_c _ _ ?_ ?_ _) ?_)<;>try first|omega|assumption)|refine ny ?_|refine WA_block ?_))
    all_goals first
      |((refine r_es hQ ?_;try with_reducible rfl);rw [←hE,if_neg];intro h0;have h1:=h0 _ (List.getElem_mem hi');unfold loadOk at h1;omega)
      |(refine nextL_ hL (i+1) ⟨hi',fun j h1 h2=>?_⟩ (by omega);rcases Nat.lt_or_ge j i with q|q;exact hi2 j h1 q;(have:j=i:=by omega);subst this;unfold loadOk;omega)
  · simp only [zipT]
    (have FX:=And.intro hlen hget;repeat'(first|(refine sx ?_ ?_<;>intro h<;>first|(exfalso;omega)|skip)|(refine g_op ?_;refine g_call ?_;refine g_args ?_;(first|refine s_fn (pwithin_c _ _ ?_ ?_ _) ?_)<;>try first|omega|assumption)|refine ny ?_|refine WA_block ?_))
    (refine r_es hQ ?_;try with_reducible rfl)
    rw [←hE,if_pos]
    intro p hp
    obtain⟨j,hj,rfl⟩:=List.getElem_of_mem hp
    exact hi2 j hj (by omega)
theorem b_shr1{P:Program}{m:Mem}{T:TypeId}{j:IntKind}{a:Int}:evB P m .shr T (.int .u64 a) (.int j 1)=some (True,.int .u64 (a / 2),m):=by
  rw [b_shr]
  have h1:(min (Int.toNat 1) IntKind.u64.bits)=1:=rfl
  rw [h1]
  have h2:a.fdiv (2 ^ 1)=a / 2:=by rw [Int.fdiv_eq_ediv_of_nonneg];rfl;decide
  rw [h2]
  simp

theorem bsearch_c(xs:List Int)(x:Int)(hl:xs.length≤1000000)(hs:∀ i j (hi:i<xs.length) (hj:j<xs.length),i<j→xs[i]<xs[j])(m:Mem):
    CallA Tryz.prog 41 [.lst (intsV xs),.int .i64 x] m (fun v mo=>mo=none∧∃ (k:Nat) (b:Bool),v= .tup [.int .i64 k,.bool b]∧k≤xs.length∧(∀ j (h:j<xs.length),j<k→xs[j]<x)∧(∀ j (h:j<xs.length),k≤j→x≤xs[j])):=by
  have hlen:=intsV_length (xs:=xs)
  have hget:=hlen
  have hh:=hlen
  refine CallA_in Tryz.func41 rfl Tryz.ntmps41 Tryz.results41 (by kernel_rfl) (by simp) fun Q hQ=>?_
  (have FX:=And.intro hlen (And.intro hget (And.intro hh @b_shr1));repeat'(first|(refine sx ?_ ?_<;>intro h<;>first|(exfalso;omega)|skip)|(refine g_op ?_;refine g_call ?_;refine g_args ?_;(first|refine s_fn (less_c _ _ _) ?_|refine s_fn (nan2_c _ _) ?_)<;>try first|omega|assumption)|refine ny ?_|refine WA_block ?_))
  refine WA_while (σ:=Nat×Nat) [0,1,6,7,8] (fun s=>[.lst (intsV xs),.int .i64 x,.int .i64 xs.length,.int .i64 s.1,.int .i64 s.2]) (fun _=>lend m++[]) (fun s=>s.1≤s.2∧s.2≤xs.length∧(∀ j (h:j<xs.length),j<s.1→xs[j]<x)∧(∀ j (h:j<xs.length),s.2≤j→x≤xs[j])) (fun s=>s.2 - s.1) (0,xs.length) ⟨Nat.zero_le _,Nat.le_refl _,fun j h1 h2=>absurd h2 (Nat.not_lt_zero _),fun j h1 h2=>absurd h1 (by dsimp only at h2;omega)⟩ tv_ rfl ?_
  rintro⟨i,j⟩ ⟨i1,i2,i3,i4⟩ L hL
  dsimp only at i1 i2 i3 i4
  rcases Nat.lt_or_ge i j with hij|hij
  · have hm:(i+j) / 2<xs.length:=by omega
    have hget:=intsV_get hm
    have hh:(((i:Int)+(j:Int)) / 2).toNat=(i+j) / 2:=by omega
    simp only [zipT]
    (have FX:=And.intro hlen (And.intro hget (And.intro hh @b_shr1));repeat'(first|(refine sx ?_ ?_<;>intro h<;>first|(exfalso;omega)|skip)|(refine g_op ?_;refine g_call ?_;refine g_args ?_;(first|refine s_fn (less_c _ _ _) ?_|refine s_fn (nan2_c _ _) ?_)<;>try first|omega|assumption)|refine ny ?_|refine WA_block ?_))
    all_goals first
      |(refine next_ hL ((i+j) / 2+1,j) ⟨by dsimp only;omega,i2,fun k h1 h2=>?_,i4⟩ (by dsimp only;omega);dsimp only at h2;rcases Nat.lt_or_ge k ((i+j) / 2) with q|q;(have:=hs _ _ h1 hm q;omega);(have hk:k=(i+j) / 2:=by omega);subst hk;assumption)
      |(refine next_ hL (i,(i+j) / 2) ⟨by dsimp only;omega,by dsimp only;omega,i3,fun k h1 h2=>?_⟩ (by dsimp only;omega);dsimp only at h2;rcases Nat.lt_or_ge ((i+j) / 2) k with q|q;(have:=hs _ _ hm h1 q;omega);(have hk:k=(i+j) / 2:=by omega);subst hk;omega)
  · simp only [zipT]
    rcases Nat.lt_or_ge i xs.length with hi|hi
    · have hget:=intsV_get hi
      have hh:((i:Int)).toNat=i:=by omega
      (have FX:=And.intro hlen (And.intro hget (And.intro hh @b_shr1));repeat'(first|(refine sx ?_ ?_<;>intro h<;>first|(exfalso;omega)|skip)|(refine g_op ?_;refine g_call ?_;refine g_args ?_;(first|refine s_fn (less_c _ _ _) ?_|refine s_fn (nan2_c _ _) ?_)<;>try first|omega|assumption)|refine ny ?_|refine WA_block ?_))
      all_goals first|(refine hQ _ _ _ (by first|exact .inl rfl|exact .inr rfl) (.tup [.int .i64 i,.bool true]) ?_ (.inl ⟨rfl,rfl,i,true,rfl,by omega,i3,fun k h1 h2=>i4 k h1 (by omega)⟩);simp only [resV,resVs,resOne,tupV,↓ev_move,↓ev_assign,↓ev_pick,↓ev_alloc,↓ev_box,↓ev_load,↓ev_store,↓ev_binOp,↓ev_unOp,↓ev_extract,↓ev_fieldAddr,↓ev_field,↓ev_indexAddr,↓ev_index,↓ev_makeFunc,↓ev_build,↓ev_makeSlice,↓ev_buildSlice,↓ev_convert,↓ev_len,↓ev_max,↓ev_min,↓ev_append,↓ev_slice,maxLen_eq,b_aeq,b_ane,planEq,leafEq,←Bool.decide_and,b_add,b_sub,b_mul,b_quo,b_rem,b_and,b_or,b_xor,b_eql,b_neq,b_lss,b_leq,b_gtr,b_geq,b_sadd,b_seql,b_sneq,u_not,u_neg,okO_some,okR_eq,↓evO_tmp,↓evO_const,↓evO_func,↓evO_glb,gval,↓ev_s2a,evS2A,List.headD_cons,ofC_int,ofC_bool,ofC_nilsl,ofC_nilptr,ofC_nilfn,ofC_nilmap,ofC_nilif,ofC_str,tput_some,tput_none,i64w,u64w,Int.one_mul,Int.tdiv_eq_ediv_of_nonneg,ne_eq,not_false_eq_true,not_true_eq_false,Int.reduceEq,↓tg_c,tg_n,↓reduceIte,Nat.reduceEqDiff,true_and,and_true,evMax,evMin,reduceCtorEq,Nat.succ_ne_zero,Nat.zero_ne_one,Nat.one_ne_zero,Bool.not_true,Bool.not_false,argT,Nat.reduceAdd,pickT,List.map_cons,List.map_nil,Nat.reduceMul,Nat.reduceSub,Nat.reduceLT,Nat.reduceLeDiff,Nat.lt_irrefl,Int.reduceToNat,Int.reduceLT,Int.reduceLE,Int.reduceNeg,Int.reduceAdd,Int.reduceMul,Int.toNat_zero,Int.toNat_one,decide_true,decide_false,and_self,List.length_cons,List.length_nil,List.getElem?_cons_zero,List.getElem?_cons_succ,List.drop_zero,List.drop_succ_cons,List.take_zero,List.take_succ_cons,List.take_nil,List.drop_nil,List.cons_append,List.nil_append,List.set_cons_zero,List.set_cons_succ,List.all_cons,List.all_nil,Bool.and_true,Bool.and_self,Option.map_some,List.flatten_cons,List.flatten_nil,↓mg,↓ms,↓mg0,↓ms0,ma,ma2,ml,V.one,cellsV,partV,evLoad,evStore,ldB,wrB,evStrIdx,↓ev_nilCheck,evFA,evF,evIA,evI,evBuild,fillV,setAt,evSlice,evStrSlice,bound,chunks,evLen,evAppend,elsV,beq_self_eq_true,Nat.reduceBEq,evMake,evBuildSl,repL,List.replicate_succ,List.replicate_zero,List.range_succ,List.range_zero,Option.map_none,Int.toNat_natCast,Nat.zero_add,Nat.add_zero,Nat.zero_mul,Nat.one_mul,Int.le_refl,Nat.le_refl];done)|(refine hQ _ _ _ (by first|exact .inl rfl|exact .inr rfl) (.tup [.int .i64 i,.bool false]) ?_ (.inl ⟨rfl,rfl,i,false,rfl,by omega,i3,fun k h1 h2=>i4 k h1 (by omega)⟩);simp only [resV,resVs,resOne,tupV,↓ev_move,↓ev_assign,↓ev_pick,↓ev_alloc,↓ev_box,↓ev_load,↓ev_store,↓ev_binOp,↓ev_unOp,↓ev_extract,↓ev_fieldAddr,↓ev_field,↓ev_indexAddr,↓ev_index,↓ev_makeFunc,↓ev_build,↓ev_makeSlice,↓ev_buildSlice,↓ev_convert,↓ev_len,↓ev_max,↓ev_min,↓ev_append,↓ev_slice,maxLen_eq,b_aeq,b_ane,planEq,leafEq,←Bool.decide_and,b_add,b_sub,b_mul,b_quo,b_rem,b_and,b_or,b_xor,b_eql,b_neq,b_lss,b_leq,b_gtr,b_geq,b_sadd,b_seql,b_sneq,u_not,u_neg,okO_some,okR_eq,↓evO_tmp,↓evO_const,↓evO_func,↓evO_glb,gval,↓ev_s2a,evS2A,List.headD_cons,ofC_int,ofC_bool,ofC_nilsl,ofC_nilptr,ofC_nilfn,ofC_nilmap,ofC_nilif,ofC_str,tput_some,tput_none,i64w,u64w,Int.one_mul,Int.tdiv_eq_ediv_of_nonneg,ne_eq,not_false_eq_true,not_true_eq_false,Int.reduceEq,↓tg_c,tg_n,↓reduceIte,Nat.reduceEqDiff,true_and,and_true,evMax,evMin,reduceCtorEq,Nat.succ_ne_zero,Nat.zero_ne_one,Nat.one_ne_zero,Bool.not_true,Bool.not_false,argT,Nat.reduceAdd,pickT,List.map_cons,List.map_nil,Nat.reduceMul,Nat.reduceSub,Nat.reduceLT,Nat.reduceLeDiff,Nat.lt_irrefl,Int.reduceToNat,Int.reduceLT,Int.reduceLE,Int.reduceNeg,Int.reduceAdd,Int.reduceMul,Int.toNat_zero,Int.toNat_one,decide_true,decide_false,and_self,List.length_cons,List.length_nil,List.getElem?_cons_zero,List.getElem?_cons_succ,List.drop_zero,List.drop_succ_cons,List.take_zero,List.take_succ_cons,List.take_nil,List.drop_nil,List.cons_append,List.nil_append,List.set_cons_zero,List.set_cons_succ,List.all_cons,List.all_nil,Bool.and_true,Bool.and_self,Option.map_some,List.flatten_cons,List.flatten_nil,↓mg,↓ms,↓mg0,↓ms0,ma,ma2,ml,V.one,cellsV,partV,evLoad,evStore,ldB,wrB,evStrIdx,↓ev_nilCheck,evFA,evF,evIA,evI,evBuild,fillV,setAt,evSlice,evStrSlice,bound,chunks,evLen,evAppend,elsV,beq_self_eq_true,Nat.reduceBEq,evMake,evBuildSl,repL,List.replicate_succ,List.replicate_zero,List.range_succ,List.range_zero,Option.map_none,Int.toNat_natCast,Nat.zero_add,Nat.add_zero,Nat.zero_mul,Nat.one_mul,Int.le_refl,Nat.le_refl];done)
    · (have FX:=And.intro hlen (And.intro hget (And.intro hh @b_shr1));repeat'(first|(refine sx ?_ ?_<;>intro h<;>first|(exfalso;omega)|skip)|(refine g_op ?_;refine g_call ?_;refine g_args ?_;(first|refine s_fn (less_c _ _ _) ?_|refine s_fn (nan2_c _ _) ?_)<;>try first|omega|assumption)|refine ny ?_|refine WA_block ?_))
      all_goals first|(refine hQ _ _ _ (by first|exact .inl rfl|exact .inr rfl) (.tup [.int .i64 i,.bool true]) ?_ (.inl ⟨rfl,rfl,i,true,rfl,by omega,i3,fun k h1 h2=>i4 k h1 (by omega)⟩);simp only [resV,resVs,resOne,tupV,↓ev_move,↓ev_assign,↓ev_pick,↓ev_alloc,↓ev_box,↓ev_load,↓ev_store,↓ev_binOp,↓ev_unOp,↓ev_extract,↓ev_fieldAddr,↓ev_field,↓ev_indexAddr,↓ev_index,↓ev_makeFunc,↓ev_build,↓ev_makeSlice,↓ev_buildSlice,↓ev_convert,↓ev_len,↓ev_max,↓ev_min,↓ev_append,↓ev_slice,maxLen_eq,b_aeq,b_ane,planEq,leafEq,←Bool.decide_and,b_add,b_sub,b_mul,b_quo,b_rem,b_and,b_or,b_xor,b_eql,b_neq,b_lss,b_leq,b_gtr,b_geq,b_sadd,b_seql,b_sneq,u_not,u_neg,okO_some,okR_eq,↓evO_tmp,↓evO_const,↓evO_func,↓evO_glb,gval,↓ev_s2a,evS2A,List.headD_cons,ofC_int,ofC_bool,ofC_nilsl,ofC_nilptr,ofC_nilfn,ofC_nilmap,ofC_nilif,ofC_str,tput_some,tput_none,i64w,u64w,Int.one_mul,Int.tdiv_eq_ediv_of_nonneg,ne_eq,not_false_eq_true,not_true_eq_false,Int.reduceEq,↓tg_c,tg_n,↓reduceIte,Nat.reduceEqDiff,true_and,and_true,evMax,evMin,reduceCtorEq,Nat.succ_ne_zero,Nat.zero_ne_one,Nat.one_ne_zero,Bool.not_true,Bool.not_false,argT,Nat.reduceAdd,pickT,List.map_cons,List.map_nil,Nat.reduceMul,Nat.reduceSub,Nat.reduceLT,Nat.reduceLeDiff,Nat.lt_irrefl,Int.reduceToNat,Int.reduceLT,Int.reduceLE,Int.reduceNeg,Int.reduceAdd,Int.reduceMul,Int.toNat_zero,Int.toNat_one,decide_true,decide_false,and_self,List.length_cons,List.length_nil,List.getElem?_cons_zero,List.getElem?_cons_succ,List.drop_zero,List.drop_succ_cons,List.take_zero,List.take_succ_cons,List.take_nil,List.drop_nil,List.cons_append,List.nil_append,List.set_cons_zero,List.set_cons_succ,List.all_cons,List.all_nil,Bool.and_true,Bool.and_self,Option.map_some,List.flatten_cons,List.flatten_nil,↓mg,↓ms,↓mg0,↓ms0,ma,ma2,ml,V.one,cellsV,partV,evLoad,evStore,ldB,wrB,evStrIdx,↓ev_nilCheck,evFA,evF,evIA,evI,evBuild,fillV,setAt,evSlice,evStrSlice,bound,chunks,evLen,evAppend,elsV,beq_self_eq_true,Nat.reduceBEq,evMake,evBuildSl,repL,List.replicate_succ,List.replicate_zero,List.range_succ,List.range_zero,Option.map_none,Int.toNat_natCast,Nat.zero_add,Nat.add_zero,Nat.zero_mul,Nat.one_mul,Int.le_refl,Nat.le_refl];done)|(refine hQ _ _ _ (by first|exact .inl rfl|exact .inr rfl) (.tup [.int .i64 i,.bool false]) ?_ (.inl ⟨rfl,rfl,i,false,rfl,by omega,i3,fun k h1 h2=>i4 k h1 (by omega)⟩);simp only [resV,resVs,resOne,tupV,↓ev_move,↓ev_assign,↓ev_pick,↓ev_alloc,↓ev_box,↓ev_load,↓ev_store,↓ev_binOp,↓ev_unOp,↓ev_extract,↓ev_fieldAddr,↓ev_field,↓ev_indexAddr,↓ev_index,↓ev_makeFunc,↓ev_build,↓ev_makeSlice,↓ev_buildSlice,↓ev_convert,↓ev_len,↓ev_max,↓ev_min,↓ev_append,↓ev_slice,maxLen_eq,b_aeq,b_ane,planEq,leafEq,←Bool.decide_and,b_add,b_sub,b_mul,b_quo,b_rem,b_and,b_or,b_xor,b_eql,b_neq,b_lss,b_leq,b_gtr,b_geq,b_sadd,b_seql,b_sneq,u_not,u_neg,okO_some,okR_eq,↓evO_tmp,↓evO_const,↓evO_func,↓evO_glb,gval,↓ev_s2a,evS2A,List.headD_cons,ofC_int,ofC_bool,ofC_nilsl,ofC_nilptr,ofC_nilfn,ofC_nilmap,ofC_nilif,ofC_str,tput_some,tput_none,i64w,u64w,Int.one_mul,Int.tdiv_eq_ediv_of_nonneg,ne_eq,not_false_eq_true,not_true_eq_false,Int.reduceEq,↓tg_c,tg_n,↓reduceIte,Nat.reduceEqDiff,true_and,and_true,evMax,evMin,reduceCtorEq,Nat.succ_ne_zero,Nat.zero_ne_one,Nat.one_ne_zero,Bool.not_true,Bool.not_false,argT,Nat.reduceAdd,pickT,List.map_cons,List.map_nil,Nat.reduceMul,Nat.reduceSub,Nat.reduceLT,Nat.reduceLeDiff,Nat.lt_irrefl,Int.reduceToNat,Int.reduceLT,Int.reduceLE,Int.reduceNeg,Int.reduceAdd,Int.reduceMul,Int.toNat_zero,Int.toNat_one,decide_true,decide_false,and_self,List.length_cons,List.length_nil,List.getElem?_cons_zero,List.getElem?_cons_succ,List.drop_zero,List.drop_succ_cons,List.take_zero,List.take_succ_cons,List.take_nil,List.drop_nil,List.cons_append,List.nil_append,List.set_cons_zero,List.set_cons_succ,List.all_cons,List.all_nil,Bool.and_true,Bool.and_self,Option.map_some,List.flatten_cons,List.flatten_nil,↓mg,↓ms,↓mg0,↓ms0,ma,ma2,ml,V.one,cellsV,partV,evLoad,evStore,ldB,wrB,evStrIdx,↓ev_nilCheck,evFA,evF,evIA,evI,evBuild,fillV,setAt,evSlice,evStrSlice,bound,chunks,evLen,evAppend,elsV,beq_self_eq_true,Nat.reduceBEq,evMake,evBuildSl,repL,List.replicate_succ,List.replicate_zero,List.range_succ,List.range_zero,Option.map_none,Int.toNat_natCast,Nat.zero_add,Nat.add_zero,Nat.zero_mul,Nat.one_mul,Int.le_refl,Nat.le_refl];done)
end Go.Proofs.YtjonlmpjdhoogaaGreatDoor
