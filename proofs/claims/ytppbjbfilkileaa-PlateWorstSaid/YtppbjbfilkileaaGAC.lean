import Derived.Test.YtppbjbfilkileaaProg
import Derived.Test.YtppbjbfilkileaaYC
import Derived.Test.YtppbjbfilkileaaGAB
import Derived.Test.YtppbjbfilkileaaYA
set_option linter.unusedSimpArgs false
set_option linter.unusedVariables false
namespace Go.Proofs.Ytppbjbfilkileaa
open Go.RowKit
attribute [local irreducible] WA WOs WDs WAn qThen qBlock tput
set_option maxHeartbeats 1000000
set_option maxRecDepth 20000
set_option linter.unusedSimpArgs false
set_option linter.unusedVariables false
theorem b_shr1{P:Program}{m:Mem}{T:TypeId}{j:IntKind}{a:Int}:evB P m .shr T (.int .u64 a) (.int j 1)=some (True,.int .u64 (a / 2),m):=by
  rw [b_shr]
  have h1:(min (Int.toNat 1) IntKind.u64.bits)=1:=rfl
  rw [h1]
  have h2:a.fdiv (2 ^ 1)=a / 2:=by rw [Int.fdiv_eq_ediv_of_nonneg];rfl;decide
  rw [h2]
  simp

theorem bsearch_c(xs:List Int)(x:Int)(hl:xs.length≤1000000)(hs:∀ i j (hi:i<xs.length) (hj:j<xs.length),i<j→xs[i]<xs[j])(m:Mem):
    CallA Try.prog 40 [.lst (intsV xs),.int .i64 x] m (fun v mo=>mo=none∧∃ (k:Nat) (b:Bool),v= .tup [.int .i64 k,.bool b]∧k≤xs.length∧(∀ j (h:j<xs.length),j<k→xs[j]<x)∧(∀ j (h:j<xs.length),k≤j→x≤xs[j])):=by
  have hlen:=intsV_length (xs:=xs)
  have hget:=hlen
  have hh:=hlen
  refine CallA_in Try.func40 rfl Try.ntmps40 Try.results40 (by kernel_rfl) (by simp) fun Q hQ=>?_
  (have FX:=And.intro hlen (And.intro hget (And.intro hh @b_shr1));repeat'(first|(refine sx ?_ ?_<;>intro h<;>first|(exfalso;omega)|skip)|(refine g_op ?_;refine g_call ?_;refine g_args ?_;(first|refine s_fn (less_c _ _ _) ?_|refine s_fn (nan2_c _ _) ?_)<;>try first|omega|assumption)|refine ny ?_|refine WA_block ?_))
  refine WA_while (σ:=Nat×Nat) [0,1,6,7,8] (fun s=>[.lst (intsV xs),.int .i64 x,.int .i64 xs.length,.int .i64 s.1,.int .i64 s.2]) (fun _=>lend m++[]) (fun s=>s.1≤s.2∧s.2≤xs.length∧(∀ j (h:j<xs.length),j<s.1→xs[j]<x)∧(∀ j (h:j<xs.length),s.2≤j→x≤xs[j])) (fun s=>s.2 - s.1) (0,xs.length) ⟨Nat.zero_le _,Nat.le_refl _,fun j h1 h2=>absurd h2 (Nat.not_lt_zero _),fun j h1 h2=>absurd h1 (by dsimp only at h2;omega)⟩ tv_ rfl ?_
  rintro⟨i,j⟩ ⟨i1,i2,i3,i4⟩ L hL
  dsimp only at i1 i2 i3 i4
  rcases Nat.lt_or_ge i j with hij|hij
  · have hm:(i+j) / 2<xs.length:=by omega
    have hget:=intsV_get hm
    have hh:(((i:Int)+(j:Int)) / 2).toNat=(i+j) / 2:=by omega
    simp only [zipT]
    (have FX:=And.intro hlen (And.intro hget (And.intro hh @b_shr1));repeat'(first|(refine sx ?_ ?_<;>intro h<;>first|(exfalso;omega)|skip)|(refine g_op ?_;refine g_call ?_;refine g_args ?_;(first|refine s_fn (less_c _ _ _) ?_|refine s_fn (nan2_c _ _) ?_)<;>try first|omega|assumption)|refine ny ?_|refine WA_block ?_))
    all_goals first
      |(refine next_ hL ((i+j) / 2+1,j) ⟨by dsimp only;omega,i2,fun k h1 h2=>?_,i4⟩ (by dsimp only;omega);dsimp only at h2;rcases Nat.lt_or_ge k ((i+j) / 2) with q|q;(have:=hs _ _ h1 hm q;omega);(have hk:k=(i+j) / 2:=by omega);subst hk;assumption)
      |(refine next_ hL (i,(i+j) / 2) ⟨by dsimp only;omega,by dsimp only;omega,i3,fun k h1 h2=>?_⟩ (by dsimp only;omega);dsimp only at h2;rcases Nat.lt_or_ge ((i+j) / 2) k with q|q;(have:=hs _ _ hm h1 q;omega);(have hk:k=(i+j) / 2:=by omega);subst hk;omega)
  · simp only [zipT]
    rcases Nat.lt_or_ge i xs.length with hi|hi
    · have hget:=intsV_get hi
      have hh:((i:Int)).toNat=i:=by omega
      (have FX:=And.intro hlen (And.intro hget (And.intro hh @b_shr1));repeat'(first|(refine sx ?_ ?_<;>intro h<;>first|(exfalso;omega)|skip)|(refine g_op ?_;refine g_call ?_;refine g_args ?_;(first|refine s_fn (less_c _ _ _) ?_|refine s_fn (nan2_c _ _) ?_)<;>try first|omega|assumption)|refine ny ?_|refine WA_block ?_))
      all_goals first|(refine hQ _ _ _ (by first|exact .inl rfl|exact .inr rfl) (.tup [.int .i64 i,.bool true]) ?_ (.inl ⟨rfl,rfl,i,true,rfl,by omega,i3,fun k h1 h2=>i4 k h1 (by omega)⟩);simp only [resV,resVs,resOne,tupV,↓ev_move,↓ev_assign,↓ev_pick,↓ev_alloc,↓ev_box,↓ev_load,↓ev_store,↓ev_binOp,↓ev_unOp,↓ev_extract,↓ev_fieldAddr,↓ev_field,↓ev_indexAddr,↓ev_index,↓ev_makeFunc,↓ev_build,↓ev_makeSlice,↓ev_buildSlice,↓ev_convert,↓ev_len,↓ev_max,↓ev_min,↓ev_append,↓ev_slice,maxLen_eq,b_aeq,b_ane,planEq,leafEq,←Bool.decide_and,b_add,b_sub,b_mul,b_quo,b_rem,b_and,b_or,b_xor,b_eql,b_neq,b_lss,b_leq,b_gtr,b_geq,b_sadd,b_seql,b_sneq,u_not,u_neg,okO_some,okR_eq,↓evO_tmp,↓evO_const,↓evO_func,ofC_int,ofC_bool,ofC_nilsl,ofC_nilptr,ofC_nilfn,ofC_nilmap,ofC_nilif,ofC_str,tput_some,tput_none,i64w,u64w,Int.one_mul,Int.tdiv_eq_ediv_of_nonneg,ne_eq,not_false_eq_true,not_true_eq_false,Int.reduceEq,↓tg_c,tg_n,↓reduceIte,Nat.reduceEqDiff,true_and,and_true,evMax,evMin,reduceCtorEq,Nat.succ_ne_zero,Nat.zero_ne_one,Nat.one_ne_zero,Bool.not_true,Bool.not_false,argT,Nat.reduceAdd,pickT,List.map_cons,List.map_nil,Nat.reduceMul,Nat.reduceSub,Nat.reduceLT,Nat.reduceLeDiff,Nat.lt_irrefl,Int.reduceToNat,Int.reduceLT,Int.reduceLE,Int.reduceNeg,Int.reduceAdd,Int.reduceMul,Int.toNat_zero,Int.toNat_one,decide_true,decide_false,and_self,List.length_cons,List.length_nil,List.getElem?_cons_zero,List.getElem?_cons_succ,List.drop_zero,List.drop_succ_cons,List.take_zero,List.take_succ_cons,List.take_nil,List.drop_nil,List.cons_append,List.nil_append,List.set_cons_zero,List.set_cons_succ,List.all_cons,List.all_nil,Bool.and_true,Bool.and_self,Option.map_some,List.flatten_cons,List.flatten_nil,↓mg,↓ms,↓mg0,↓ms0,ma,ma2,ml,V.one,cellsV,partV,evLoad,evStore,ldB,wrB,evStrIdx,↓ev_nilCheck,evFA,evF,evIA,evI,evBuild,fillV,setAt,evSlice,evStrSlice,bound,chunks,evLen,evAppend,elsV,beq_self_eq_true,Nat.reduceBEq,evMake,evBuildSl,repL,List.replicate_succ,List.replicate_zero,List.range_succ,List.range_zero,Option.map_none,Int.toNat_natCast,Nat.zero_add,Nat.add_zero,Nat.zero_mul,Nat.one_mul,Int.le_refl,Nat.le_refl];done)|(refine hQ _ _ _ (by first|exact .inl rfl|exact .inr rfl) (.tup [.int .i64 i,.bool false]) ?_ (.inl ⟨rfl,rfl,i,false,rfl,by omega,i3,fun k h1 h2=>i4 k h1 (by omega)⟩);simp only [resV,resVs,resOne,tupV,↓ev_move,↓ev_assign,↓ev_pick,↓ev_alloc,↓ev_box,↓ev_load,↓ev_store,↓ev_binOp,↓ev_unOp,↓ev_extract,↓ev_fieldAddr,↓ev_field,↓ev_indexAddr,↓ev_index,↓ev_makeFunc,↓ev_build,↓ev_makeSlice,↓ev_buildSlice,↓ev_convert,↓ev_len,↓ev_max,↓ev_min,↓ev_append,↓ev_slice,maxLen_eq,b_aeq,b_ane,planEq,leafEq,←Bool.decide_and,b_add,b_sub,b_mul,b_quo,b_rem,b_and,b_or,b_xor,b_eql,b_neq,b_lss,b_leq,b_gtr,b_geq,b_sadd,b_seql,b_sneq,u_not,u_neg,okO_some,okR_eq,↓evO_tmp,↓evO_const,↓evO_func,ofC_int,ofC_bool,ofC_nilsl,ofC_nilptr,ofC_nilfn,ofC_nilmap,ofC_nilif,ofC_str,tput_some,tput_none,i64w,u64w,Int.one_mul,Int.tdiv_eq_ediv_of_nonneg,ne_eq,not_false_eq_true,not_true_eq_false,Int.reduceEq,↓tg_c,tg_n,↓reduceIte,Nat.reduceEqDiff,true_and,and_true,evMax,evMin,reduceCtorEq,Nat.succ_ne_zero,Nat.zero_ne_one,Nat.one_ne_zero,Bool.not_true,Bool.not_false,argT,Nat.reduceAdd,pickT,List.map_cons,List.map_nil,Nat.reduceMul,Nat.reduceSub,Nat.reduceLT,Nat.reduceLeDiff,Nat.lt_irrefl,Int.reduceToNat,Int.reduceLT,Int.reduceLE,Int.reduceNeg,Int.reduceAdd,Int.reduceMul,Int.toNat_zero,Int.toNat_one,decide_true,decide_false,and_self,List.length_cons,List.length_nil,List.getElem?_cons_zero,List.getElem?_cons_succ,List.drop_zero,List.drop_succ_cons,List.take_zero,List.take_succ_cons,List.take_nil,List.drop_nil,List.cons_append,List.nil_append,List.set_cons_zero,List.set_cons_succ,List.all_cons,List.all_nil,Bool.and_true,Bool.and_self,Option.map_some,List.flatten_cons,List.flatten_nil,↓mg,↓ms,↓mg0,↓ms0,ma,ma2,ml,V.one,cellsV,partV,evLoad,evStore,ldB,wrB,evStrIdx,↓ev_nilCheck,evFA,evF,evIA,evI,evBuild,fillV,setAt,evSlice,evStrSlice,bound,chunks,evLen,evAppend,elsV,beq_self_eq_true,Nat.reduceBEq,evMake,evBuildSl,repL,List.replicate_succ,List.replicate_zero,List.range_succ,List.range_zero,Option.map_none,Int.toNat_natCast,Nat.zero_add,Nat.add_zero,Nat.zero_mul,Nat.one_mul,Int.le_refl,Nat.le_refl];done)
    · (have FX:=And.intro hlen (And.intro hget (And.intro hh @b_shr1));repeat'(first|(refine sx ?_ ?_<;>intro h<;>first|(exfalso;omega)|skip)|(refine g_op ?_;refine g_call ?_;refine g_args ?_;(first|refine s_fn (less_c _ _ _) ?_|refine s_fn (nan2_c _ _) ?_)<;>try first|omega|assumption)|refine ny ?_|refine WA_block ?_))
      all_goals first|(refine hQ _ _ _ (by first|exact .inl rfl|exact .inr rfl) (.tup [.int .i64 i,.bool true]) ?_ (.inl ⟨rfl,rfl,i,true,rfl,by omega,i3,fun k h1 h2=>i4 k h1 (by omega)⟩);simp only [resV,resVs,resOne,tupV,↓ev_move,↓ev_assign,↓ev_pick,↓ev_alloc,↓ev_box,↓ev_load,↓ev_store,↓ev_binOp,↓ev_unOp,↓ev_extract,↓ev_fieldAddr,↓ev_field,↓ev_indexAddr,↓ev_index,↓ev_makeFunc,↓ev_build,↓ev_makeSlice,↓ev_buildSlice,↓ev_convert,↓ev_len,↓ev_max,↓ev_min,↓ev_append,↓ev_slice,maxLen_eq,b_aeq,b_ane,planEq,leafEq,←Bool.decide_and,b_add,b_sub,b_mul,b_quo,b_rem,b_and,b_or,b_xor,b_eql,b_neq,b_lss,b_leq,b_gtr,b_geq,b_sadd,b_seql,b_sneq,u_not,u_neg,okO_some,okR_eq,↓evO_tmp,↓evO_const,↓evO_func,ofC_int,ofC_bool,ofC_nilsl,ofC_nilptr,ofC_nilfn,ofC_nilmap,ofC_nilif,ofC_str,tput_some,tput_none,i64w,u64w,Int.one_mul,Int.tdiv_eq_ediv_of_nonneg,ne_eq,not_false_eq_true,not_true_eq_false,Int.reduceEq,↓tg_c,tg_n,↓reduceIte,Nat.reduceEqDiff,true_and,and_true,evMax,evMin,reduceCtorEq,Nat.succ_ne_zero,Nat.zero_ne_one,Nat.one_ne_zero,Bool.not_true,Bool.not_false,argT,Nat.reduceAdd,pickT,List.map_cons,List.map_nil,Nat.reduceMul,Nat.reduceSub,Nat.reduceLT,Nat.reduceLeDiff,Nat.lt_irrefl,Int.reduceToNat,Int.reduceLT,Int.reduceLE,Int.reduceNeg,Int.reduceAdd,Int.reduceMul,Int.toNat_zero,Int.toNat_one,decide_true,decide_false,and_self,List.length_cons,List.length_nil,List.getElem?_cons_zero,List.getElem?_cons_succ,List.drop_zero,List.drop_succ_cons,List.take_zero,List.take_succ_cons,List.take_nil,List.drop_nil,List.cons_append,List.nil_append,List.set_cons_zero,List.set_cons_succ,List.all_cons,List.all_nil,Bool.and_true,Bool.and_self,Option.map_some,List.flatten_cons,List.flatten_nil,↓mg,↓ms,↓mg0,↓ms0,ma,ma2,ml,V.one,cellsV,partV,evLoad,evStore,ldB,wrB,evStrIdx,↓ev_nilCheck,evFA,evF,evIA,evI,evBuild,fillV,setAt,evSlice,evStrSlice,bound,chunks,evLen,evAppend,elsV,beq_self_eq_true,Nat.reduceBEq,evMake,evBuildSl,repL,List.replicate_succ,List.replicate_zero,List.range_succ,List.range_zero,Option.map_none,Int.toNat_natCast,Nat.zero_add,Nat.add_zero,Nat.zero_mul,Nat.one_mul,Int.le_refl,Nat.le_refl];done)|(refine hQ _ _ _ (by first|exact .inl rfl|exact .inr rfl) (.tup [.int .i64 i,.bool false]) ?_ (.inl ⟨rfl,rfl,i,false,rfl,by omega,i3,fun k h1 h2=>i4 k h1 (by omega)⟩);simp only [resV,resVs,resOne,tupV,↓ev_move,↓ev_assign,↓ev_pick,↓ev_alloc,↓ev_box,↓ev_load,↓ev_store,↓ev_binOp,↓ev_unOp,↓ev_extract,↓ev_fieldAddr,↓ev_field,↓ev_indexAddr,↓ev_index,↓ev_makeFunc,↓ev_build,↓ev_makeSlice,↓ev_buildSlice,↓ev_convert,↓ev_len,↓ev_max,↓ev_min,↓ev_append,↓ev_slice,maxLen_eq,b_aeq,b_ane,planEq,leafEq,←Bool.decide_and,b_add,b_sub,b_mul,b_quo,b_rem,b_and,b_or,b_xor,b_eql,b_neq,b_lss,b_leq,b_gtr,b_geq,b_sadd,b_seql,b_sneq,u_not,u_neg,okO_some,okR_eq,↓evO_tmp,↓evO_const,↓evO_func,ofC_int,ofC_bool,ofC_nilsl,ofC_nilptr,ofC_nilfn,ofC_nilmap,ofC_nilif,ofC_str,tput_some,tput_none,i64w,u64w,Int.one_mul,Int.tdiv_eq_ediv_of_nonneg,ne_eq,not_false_eq_true,not_true_eq_false,Int.reduceEq,↓tg_c,tg_n,↓reduceIte,Nat.reduceEqDiff,true_and,and_true,evMax,evMin,reduceCtorEq,Nat.succ_ne_zero,Nat.zero_ne_one,Nat.one_ne_zero,Bool.not_true,Bool.not_false,argT,Nat.reduceAdd,pickT,List.map_cons,List.map_nil,Nat.reduceMul,Nat.reduceSub,Nat.reduceLT,Nat.reduceLeDiff,Nat.lt_irrefl,Int.reduceToNat,Int.reduceLT,Int.reduceLE,Int.reduceNeg,Int.reduceAdd,Int.reduceMul,Int.toNat_zero,Int.toNat_one,decide_true,decide_false,and_self,List.length_cons,List.length_nil,List.getElem?_cons_zero,List.getElem?_cons_succ,List.drop_zero,List.drop_succ_cons,List.take_zero,List.take_succ_cons,List.take_nil,List.drop_nil,List.cons_append,List.nil_append,List.set_cons_zero,List.set_cons_succ,List.all_cons,List.all_nil,Bool.and_true,Bool.and_self,Option.map_some,List.flatten_cons,List.flatten_nil,↓mg,↓ms,↓mg0,↓ms0,ma,ma2,ml,V.one,cellsV,partV,evLoad,evStore,ldB,wrB,evStrIdx,↓ev_nilCheck,evFA,evF,evIA,evI,evBuild,fillV,setAt,evSlice,evStrSlice,bound,chunks,evLen,evAppend,elsV,beq_self_eq_true,Nat.reduceBEq,evMake,evBuildSl,repL,List.replicate_succ,List.replicate_zero,List.range_succ,List.range_zero,Option.map_none,Int.toNat_natCast,Nat.zero_add,Nat.add_zero,Nat.zero_mul,Nat.one_mul,Int.le_refl,Nat.le_refl];done)
end Go.Proofs.Ytppbjbfilkileaa
namespace Go.Proofs.Ytppbjbfilkileaa
def lowF(a b:Int):Int×Int:=(a.tdiv (Int.gcd a b),b / (Int.gcd a b:Int))
def cnt(xs:List Int)(x:Int):Nat:=(xs.filter fun y=>decide (y≤x)).length
def seg(xs:List Int)(x:Int):Nat:=min (cnt xs x - 1) (xs.length - 2)
theorem cnt_eq{xs:List Int}{x:Int}{k:Nat}(hk:k≤xs.length)(h1:∀ j (h:j<xs.length),j<k→xs[j]<x+1)(h2:∀ j (h:j<xs.length),k≤j→x+1≤xs[j]):cnt xs x=k:=by
  have e:xs=xs.take k++xs.drop k:=(List.take_append_drop k xs).symm
  unfold cnt
  rw [e,List.filter_append,List.length_append]
  have e1:(xs.take k).filter (fun y=>decide (y≤x))=xs.take k:=by
    rw [List.filter_eq_self]
    intro a ha
    obtain⟨j,hj,rfl⟩:=List.getElem_of_mem ha
    rw [List.length_take] at hj
    rw [List.getElem_take]
    have:=h1 j (by omega) (by omega)
    simp;omega
  have e2:(xs.drop k).filter (fun y=>decide (y≤x))=[]:=by
    rw [List.filter_eq_nil_iff]
    intro a ha
    obtain⟨j,hj,rfl⟩:=List.getElem_of_mem ha
    rw [List.length_drop] at hj
    rw [List.getElem_drop]
    have:=h2 (k+j) (by omega) (by omega)
    simp;omega
  rw [e1,e2,List.length_take]
  simp;omega
/-- one load laid on the bars beside it -/
def ldStep(xs:List Int)(s:List Int×List Int)(p:Int×Int):List Int×List Int:=
  (s.1.set (seg xs p.1) (s.1.getD (seg xs p.1) 0+p.2 * (xs.getD (seg xs p.1+1) 0 - p.1)),s.2.set (seg xs p.1+1) (s.2.getD (seg xs p.1+1) 0+p.2 * (p.1 - xs.getD (seg xs p.1) 0)))
def laid(xs:List Int)(ls:List (Int×Int)):List Int×List Int:=ls.foldl (ldStep xs) (List.replicate xs.length 0,List.replicate xs.length 0)
def befW(xs:List Int)(i:Nat):Int:=if 0<i then xs.getD i 0 - xs.getD (i - 1) 0 else 1
def behW(xs:List Int)(i:Nat):Int:=if i<xs.length - 1 then xs.getD (i+1) 0 - xs.getD i 0 else 1
def distrAt(xs:List Int)(s:List Int×List Int)(i:Nat):Int×Int:=lowF (s.2.getD i 0 * behW xs i+s.1.getD i 0 * befW xs i) (befW xs i * behW xs i)
def distr(xs:List Int)(ls:List (Int×Int)):List (Int×Int):=(List.range xs.length).map (distrAt xs (laid xs ls))
structure BarsOk(xs:List Int):Prop where
  two:2≤xs.length
  few:xs.length≤20
  bd:∀ j (h:j<xs.length), -20000≤xs[j]∧xs[j]≤20000
  up:∀ i j (hi:i<xs.length) (hj:j<xs.length),i<j→xs[i]<xs[j]
theorem getD_get{α:Type}{xs:List α}{i:Nat}{d:α}(h:i<xs.length):xs.getD i d=xs[i]:=by
  rw [List.getD_eq_getElem?_getD,List.getElem?_eq_getElem h];rfl
theorem seg_lt{xs:List Int}(h:2≤xs.length)(x:Int):seg xs x+1<xs.length:=by unfold seg;omega
structure LaidBd(xs:List Int)(s:List Int×List Int)(M:Int):Prop where
  l1:s.1.length=xs.length
  l2:s.2.length=xs.length
  b1:∀ i, -M≤s.1.getD i 0∧s.1.getD i 0≤M
  b2:∀ i, -M≤s.2.getD i 0∧s.2.getD i 0≤M
theorem mulW{w d:Int}(h1: -1000000≤w∧w≤1000000)(h2: -40000≤d∧d≤40000): -40000000000≤w * d∧w * d≤40000000000:=by
  have e:(w * d).natAbs=w.natAbs * d.natAbs:=Int.natAbs_mul w d
  have:w.natAbs * d.natAbs≤1000000 * 40000:=Nat.mul_le_mul (by omega) (by omega)
  omega
theorem getD_set{xs:List Int}{i j:Nat}{v:Int}:(xs.set i v).getD j 0=if i=j∧i<xs.length then v else xs.getD j 0:=by
  rw [List.getD_eq_getElem?_getD,List.getD_eq_getElem?_getD,List.getElem?_set]
  by_cases h:i=j
  · subst h
    by_cases h2:i<xs.length
    · simp [h2]
    · simp [h2]
  · simp [h]
theorem getD_bd{xs:List Int}(hx:BarsOk xs)(i:Nat): -20000≤xs.getD i 0∧xs.getD i 0≤20000:=by
  rcases Nat.lt_or_ge i xs.length with h|h
  · rw [getD_get h];exact hx.bd i h
  · rw [List.getD_eq_getElem?_getD,List.getElem?_eq_none h];simp
theorem laidBd_step{xs:List Int}{s:List Int×List Int}{M:Int}(hx:BarsOk xs)(h:LaidBd xs s M)(h0:0≤M){p:Int×Int}(hp: -20000≤p.1∧p.1≤20000)(hw: -1000000≤p.2∧p.2≤1000000):LaidBd xs (ldStep xs s p) (M+40000000000):=by
  have g1:=getD_bd hx (seg xs p.1)
  have g2:=getD_bd hx (seg xs p.1+1)
  have m1:=mulW hw (d:=xs.getD (seg xs p.1+1) 0 - p.1) (by omega)
  have m2:=mulW hw (d:=p.1 - xs.getD (seg xs p.1) 0) (by omega)
  refine⟨by simp [ldStep,h.l1],by simp [ldStep,h.l2],fun i=>?_,fun i=>?_⟩
  · have a1:=h.b1 i
    have a2:=h.b1 (seg xs p.1)
    simp only [ldStep,getD_set]
    split<;>omega
  · have a1:=h.b2 i
    have a2:=h.b2 (seg xs p.1+1)
    simp only [ldStep,getD_set]
    split<;>omega
theorem laidBd_start(xs:List Int):LaidBd xs (List.replicate xs.length 0,List.replicate xs.length 0) 0:=by
  refine⟨by simp,by simp,fun i=>?_,fun i=>?_⟩<;>(simp only [List.getD_eq_getElem?_getD,List.getElem?_replicate];split<;>simp)
theorem mulBig{a b:Int}(h1: -4000000000000≤a∧a≤4000000000000)(h2:1≤b∧b≤40000): -160000000000000000≤a * b∧a * b≤160000000000000000:=by
  have e:(a * b).natAbs=a.natAbs * b.natAbs:=Int.natAbs_mul a b
  have:a.natAbs * b.natAbs≤4000000000000 * 40000:=Nat.mul_le_mul (by omega) (by omega)
  omega
theorem mulDen{a b:Int}(h1:1≤a∧a≤40000)(h2:1≤b∧b≤40000):1≤a * b∧a * b≤1600000000:=by
  have e:(a * b).natAbs=a.natAbs * b.natAbs:=Int.natAbs_mul a b
  have h3:a.natAbs * b.natAbs≤40000 * 40000:=Nat.mul_le_mul (by omega) (by omega)
  have h4:1 * 1≤a.natAbs * b.natAbs:=Nat.mul_le_mul (by omega) (by omega)
  have h5:0≤a * b:=Int.mul_nonneg (by omega) (by omega)
  omega
theorem bef_bd{xs:List Int}(hx:BarsOk xs){i:Nat}(hi:i<xs.length):1≤befW xs i∧befW xs i≤40000:=by
  unfold befW
  split
  · rename_i h
    rw [getD_get hi,getD_get (by omega:i - 1<xs.length)]
    have:=hx.up (i - 1) i (by omega) hi (by omega)
    have:=hx.bd i hi
    have:=hx.bd (i - 1) (by omega)
    omega
  · omega
theorem beh_bd{xs:List Int}(hx:BarsOk xs){i:Nat}(hi:i<xs.length):1≤behW xs i∧behW xs i≤40000:=by
  unfold behW
  split
  · rename_i h
    rw [getD_get hi,getD_get (by omega:i+1<xs.length)]
    have:=hx.up i (i+1) hi (by omega) (by omega)
    have:=hx.bd i hi
    have:=hx.bd (i+1) (by omega)
    omega
  · omega
theorem mulT{x y:Int}(h1: -20000≤x∧x≤20000)(h2:1≤y∧y≤300000): -6000000000≤x * y∧x * y≤6000000000:=by
  have e:(x * y).natAbs=x.natAbs * y.natAbs:=Int.natAbs_mul x y
  have:x.natAbs * y.natAbs≤20000 * 300000:=Nat.mul_le_mul (by omega) (by omega)
  omega
theorem mulT3{a b:Int}(h1:1≤a∧a≤300000)(h2:1≤b∧b≤300000):1≤a * b∧a * b≤90000000000:=by
  have e:(a * b).natAbs=a.natAbs * b.natAbs:=Int.natAbs_mul a b
  have h3:a.natAbs * b.natAbs≤300000 * 300000:=Nat.mul_le_mul (by omega) (by omega)
  have h4:1 * 1≤a.natAbs * b.natAbs:=Nat.mul_le_mul (by omega) (by omega)
  have h5:0≤a * b:=Int.mul_nonneg (by omega) (by omega)
  omega
theorem mulT4{x y:Int}(h1:0≤x∧x≤10000000)(h2: -12000000000≤y∧y≤12000000000): -120000000000000000≤x * y∧x * y≤120000000000000000:=by
  have e:(x * y).natAbs=x.natAbs * y.natAbs:=Int.natAbs_mul x y
  have:x.natAbs * y.natAbs≤10000000 * 12000000000:=Nat.mul_le_mul (by omega) (by omega)
  omega
end Go.Proofs.Ytppbjbfilkileaa
