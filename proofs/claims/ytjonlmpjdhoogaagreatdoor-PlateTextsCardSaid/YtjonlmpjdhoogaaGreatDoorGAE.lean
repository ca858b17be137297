import Derived.Test.YtjonlmpjdhoogaaGreatDoorProg
import Derived.Test.YtjonlmpjdhoogaaGreatDoorYC
import Derived.Test.YtjonlmpjdhoogaaGreatDoorGAD
set_option linter.unusedSimpArgs false
set_option linter.unusedVariables false
namespace Go.Proofs.YtjonlmpjdhoogaaGreatDoor
open Go.RowKit
attribute [local irreducible] WA WOs WDs WAn qThen qBlock tput
set_option maxHeartbeats 1000000
set_option maxRecDepth 20000
set_option linter.unusedSimpArgs false
set_option linter.unusedVariables false

theorem proot_c(n r:Int)(h0:0≤n)(h1:n≤1000000000000000000)(hr:IsRoot n r)(m:Mem):Gives Tryz.prog 35 [.int .i64 n] m (.agg [.int .i64 r,.int .i64 (if r * r=n then r else r+1)]):=by
  have hr0:=hr.1
  have hr1:=hr.2.1
  have hr3:0≤r * r:=Int.mul_nonneg hr0 hr0
  have hr2:r≤r * r∨r=0:=by
    rcases Int.lt_or_le 0 r with h|h
    · left
      have h5:(1:Int)≤r:=h
      have:=Int.mul_le_mul_of_nonneg_left h5 hr0
      omega
    · right;omega
  refine Gives_in Tryz.func35 rfl Tryz.ntmps35 Tryz.results35 (by kernel_rfl) (by simp) rfl fun Q hQ=>?_
  (repeat'(first|(refine sx ?_ ?_<;>intro h<;>first|(exfalso;omega)|skip)|(refine g_op ?_;refine g_call ?_;refine g_args ?_;(first|refine s_fn (root_c _ r ?_ ?_ hr _) ?_)<;>try first|omega|assumption)|refine ny ?_|refine WA_block ?_))
  all_goals((refine r_es hQ ?_;try with_reducible rfl);simp [*])
def intsV(xs:List Int):List (List V):=xs.map fun x=>[V.int .i64 x]
theorem intsV_get{xs:List Int}{i:Nat}(h:i<xs.length):(intsV xs)[i]?=some [.int .i64 xs[i]]:=by simp [intsV,h]
theorem intsV_length{xs:List Int}:(intsV xs).length=xs.length:=by simp [intsV]

theorem index_c (xs:List Int) (g:FuncId) (fs cs:List V) (p:Int→Prop) [DecidablePred p] (hl:xs.length≤1000000) (m:Mem) (hp:∀ x∈xs,Gives Tryz.prog g (fs++[.int .i64 x]++cs) (lend m++[]) (.bool (decide (p x)))):
    CallA Tryz.prog 75 [.lst (intsV xs),.clo (.func g) fs cs] m (fun v mo=>mo=none∧∃ k:Int,v= .int .i64 k∧(0≤k↔∃ x∈xs,p x)):=by
  have hget:=intsV_length (xs:=xs)
  refine CallA_in Tryz.func75 rfl Tryz.ntmps75 Tryz.results75 (by kernel_rfl) (by simp) fun Q hQ=>?_
  (have FX:=And.intro hget @intsV_length;repeat'(first|(refine sx ?_ ?_<;>intro h<;>first|(exfalso;omega)|skip)|(refine g_op ?_;refine g_dyn ?_;refine g_dargs ?_;first|(refine s_fn (hp _ ?_) ?_<;>try first|omega|assumption))|refine ny ?_|refine WA_block ?_))
  refine WA_while (σ:=Nat) [0,1,7,8] (fun i=>[.lst (intsV xs),.clo (.func g) fs cs,.int .i64 xs.length,.int .i64 i]) (fun _=>lend m++[]) (fun i=>i≤xs.length∧∀ j (h:j<xs.length),j<i→¬ p xs[j]) (fun i=>xs.length - i) 0 ⟨Nat.zero_le _,fun j h1 h2=>absurd h2 (Nat.not_lt_zero _)⟩ tv_ rfl ?_
  rintro i ⟨hi1,hi2⟩ L hL
  rcases Nat.lt_or_ge i xs.length with hi|hi
  · have hget:=intsV_get hi
    have hmem:xs[i]∈xs:=List.getElem_mem hi
    simp only [zipT]
    (have FX:=And.intro hget @intsV_length;repeat'(first|(refine sx ?_ ?_<;>intro h<;>first|(exfalso;omega)|skip)|(refine g_op ?_;refine g_dyn ?_;refine g_dargs ?_;first|(refine s_fn (hp _ ?_) ?_<;>try first|omega|assumption))|refine ny ?_|refine WA_block ?_))
    · refine hQ _ _ _ (by first|exact .inl rfl|exact .inr rfl) _ (by simp only [resV,resVs,resOne,tupV,↓ev_move,↓ev_assign,↓ev_pick,↓ev_alloc,↓ev_box,↓ev_load,↓ev_store,↓ev_binOp,↓ev_unOp,↓ev_extract,↓ev_fieldAddr,↓ev_field,↓ev_indexAddr,↓ev_index,↓ev_makeFunc,↓ev_build,↓ev_makeSlice,↓ev_buildSlice,↓ev_convert,↓ev_len,↓ev_max,↓ev_min,↓ev_append,↓ev_slice,maxLen_eq,b_aeq,b_ane,planEq,leafEq,←Bool.decide_and,b_add,b_sub,b_mul,b_quo,b_rem,b_and,b_or,b_xor,b_eql,b_neq,b_lss,b_leq,b_gtr,b_geq,b_sadd,b_seql,b_sneq,u_not,u_neg,okO_some,okR_eq,↓evO_tmp,↓evO_const,↓evO_func,↓evO_glb,gval,↓ev_s2a,evS2A,List.headD_cons,ofC_int,ofC_bool,ofC_nilsl,ofC_nilptr,ofC_nilfn,ofC_nilmap,ofC_nilif,ofC_str,tput_some,tput_none,i64w,u64w,Int.one_mul,Int.tdiv_eq_ediv_of_nonneg,ne_eq,not_false_eq_true,not_true_eq_false,Int.reduceEq,↓tg_c,tg_n,↓reduceIte,Nat.reduceEqDiff,true_and,and_true,evMax,evMin,reduceCtorEq,Nat.succ_ne_zero,Nat.zero_ne_one,Nat.one_ne_zero,Bool.not_true,Bool.not_false,argT,Nat.reduceAdd,pickT,List.map_cons,List.map_nil,Nat.reduceMul,Nat.reduceSub,Nat.reduceLT,Nat.reduceLeDiff,Nat.lt_irrefl,Int.reduceToNat,Int.reduceLT,Int.reduceLE,Int.reduceNeg,Int.reduceAdd,Int.reduceMul,Int.toNat_zero,Int.toNat_one,decide_true,decide_false,and_self,List.length_cons,List.length_nil,List.getElem?_cons_zero,List.getElem?_cons_succ,List.drop_zero,List.drop_succ_cons,List.take_zero,List.take_succ_cons,List.take_nil,List.drop_nil,List.cons_append,List.nil_append,List.set_cons_zero,List.set_cons_succ,List.all_cons,List.all_nil,Bool.and_true,Bool.and_self,Option.map_some,List.flatten_cons,List.flatten_nil,↓mg,↓ms,↓mg0,↓ms0,ma,ma2,ml,V.one,cellsV,partV,evLoad,evStore,ldB,wrB,evStrIdx,↓ev_nilCheck,evFA,evF,evIA,evI,evBuild,fillV,setAt,evSlice,evStrSlice,bound,chunks,evLen,evAppend,elsV,beq_self_eq_true,Nat.reduceBEq,evMake,evBuildSl,repL,List.replicate_succ,List.replicate_zero,List.range_succ,List.range_zero,Option.map_none,Int.toNat_natCast,Nat.zero_add,Nat.add_zero,Nat.zero_mul,Nat.one_mul,Int.le_refl,Nat.le_refl]) (.inl ⟨rfl,rfl,i,rfl,fun _=>⟨_,hmem,by assumption⟩,fun _=>by omega⟩)
    · refine next_ hL (i+1) ⟨hi,fun j h1 h2=>?_⟩ (by omega)
      rcases Nat.lt_or_ge j i with q|q
      · exact hi2 j h1 q
      · have:j=i:=by omega
        subst this;assumption
  · simp only [zipT]
    (have FX:=And.intro hget @intsV_length;repeat'(first|(refine sx ?_ ?_<;>intro h<;>first|(exfalso;omega)|skip)|(refine g_op ?_;refine g_dyn ?_;refine g_dargs ?_;first|(refine s_fn (hp _ ?_) ?_<;>try first|omega|assumption))|refine ny ?_|refine WA_block ?_))
    refine hQ _ _ _ (by first|exact .inl rfl|exact .inr rfl) _ (by simp only [resV,resVs,resOne,tupV,↓ev_move,↓ev_assign,↓ev_pick,↓ev_alloc,↓ev_box,↓ev_load,↓ev_store,↓ev_binOp,↓ev_unOp,↓ev_extract,↓ev_fieldAddr,↓ev_field,↓ev_indexAddr,↓ev_index,↓ev_makeFunc,↓ev_build,↓ev_makeSlice,↓ev_buildSlice,↓ev_convert,↓ev_len,↓ev_max,↓ev_min,↓ev_append,↓ev_slice,maxLen_eq,b_aeq,b_ane,planEq,leafEq,←Bool.decide_and,b_add,b_sub,b_mul,b_quo,b_rem,b_and,b_or,b_xor,b_eql,b_neq,b_lss,b_leq,b_gtr,b_geq,b_sadd,b_seql,b_sneq,u_not,u_neg,okO_some,okR_eq,↓evO_tmp,↓evO_const,↓evO_func,↓evO_glb,gval,↓ev_s2a,evS2A,List.headD_cons,ofC_int,ofC_bool,ofC_nilsl,ofC_nilptr,ofC_nilfn,ofC_nilmap,ofC_nilif,ofC_str,tput_some,tput_none,i64w,u64w,Int.one_mul,Int.tdiv_eq_ediv_of_nonneg,ne_eq,not_false_eq_true,not_true_eq_false,Int.reduceEq,↓tg_c,tg_n,↓reduceIte,Nat.reduceEqDiff,true_and,and_true,evMax,evMin,reduceCtorEq,Nat.succ_ne_zero,Nat.zero_ne_one,Nat.one_ne_zero,Bool.not_true,Bool.not_false,argT,Nat.reduceAdd,pickT,List.map_cons,List.map_nil,Nat.reduceMul,Nat.reduceSub,Nat.reduceLT,Nat.reduceLeDiff,Nat.lt_irrefl,Int.reduceToNat,Int.reduceLT,Int.reduceLE,Int.reduceNeg,Int.reduceAdd,Int.reduceMul,Int.toNat_zero,Int.toNat_one,decide_true,decide_false,and_self,List.length_cons,List.length_nil,List.getElem?_cons_zero,List.getElem?_cons_succ,List.drop_zero,List.drop_succ_cons,List.take_zero,List.take_succ_cons,List.take_nil,List.drop_nil,List.cons_append,List.nil_append,List.set_cons_zero,List.set_cons_succ,List.all_cons,List.all_nil,Bool.and_true,Bool.and_self,Option.map_some,List.flatten_cons,List.flatten_nil,↓mg,↓ms,↓mg0,↓ms0,ma,ma2,ml,V.one,cellsV,partV,evLoad,evStore,ldB,wrB,evStrIdx,↓ev_nilCheck,evFA,evF,evIA,evI,evBuild,fillV,setAt,evSlice,evStrSlice,bound,chunks,evLen,evAppend,elsV,beq_self_eq_true,Nat.reduceBEq,evMake,evBuildSl,repL,List.replicate_succ,List.replicate_zero,List.range_succ,List.range_zero,Option.map_none,Int.toNat_natCast,Nat.zero_add,Nat.add_zero,Nat.zero_mul,Nat.one_mul,Int.le_refl,Nat.le_refl]) (.inl ⟨rfl,rfl, -1,rfl,fun h=>absurd h (by decide),?_⟩)
    rintro⟨x,hx,hpx⟩
    obtain⟨j,hj,rfl⟩:=List.getElem_of_mem hx
    exact absurd hpx (hi2 j hj (by omega))

theorem contains_c(xs:List Int)(g:FuncId)(fs cs:List V)(p:Int→Prop) [DecidablePred p] (hl:xs.length≤1000000)(m:Mem)(hp:∀ x∈xs,Gives Tryz.prog g (fs++[.int .i64 x]++cs) (lend m++[]) (.bool (decide (p x)))):
    Gives Tryz.prog 57 [.lst (intsV xs),.clo (.func g) fs cs] m (.bool (decide (∃ x∈xs,p x))):=by
  have hi:=index_c xs g fs cs p hl (lend m++[]) (by simpa [lend_append,lend_lend,lend_nil] using hp)
  refine Gives_in Tryz.func57 rfl Tryz.ntmps57 Tryz.results57 (by kernel_rfl) (by simp) rfl fun Q hQ=>?_
  (repeat'(first|(refine sx ?_ ?_<;>intro h<;>first|(exfalso;omega)|skip)|refine ny ?_|refine WA_block ?_))
  apply WOs_fnA (dOk_b rfl)
  · simp only [↓ev_move,↓ev_assign,↓ev_pick,↓ev_alloc,↓ev_box,↓ev_load,↓ev_store,↓ev_binOp,↓ev_unOp,↓ev_extract,↓ev_fieldAddr,↓ev_field,↓ev_indexAddr,↓ev_index,↓ev_makeFunc,↓ev_build,↓ev_makeSlice,↓ev_buildSlice,↓ev_convert,↓ev_len,↓ev_max,↓ev_min,↓ev_append,↓ev_slice,maxLen_eq,b_aeq,b_ane,planEq,leafEq,←Bool.decide_and,b_add,b_sub,b_mul,b_quo,b_rem,b_and,b_or,b_xor,b_eql,b_neq,b_lss,b_leq,b_gtr,b_geq,b_sadd,b_seql,b_sneq,u_not,u_neg,okO_some,okR_eq,↓evO_tmp,↓evO_const,↓evO_func,↓evO_glb,gval,↓ev_s2a,evS2A,List.headD_cons,ofC_int,ofC_bool,ofC_nilsl,ofC_nilptr,ofC_nilfn,ofC_nilmap,ofC_nilif,ofC_str,tput_some,tput_none,i64w,u64w,Int.one_mul,Int.tdiv_eq_ediv_of_nonneg,ne_eq,not_false_eq_true,not_true_eq_false,Int.reduceEq,↓tg_c,tg_n,↓reduceIte,Nat.reduceEqDiff,true_and,and_true,evMax,evMin,reduceCtorEq,Nat.succ_ne_zero,Nat.zero_ne_one,Nat.one_ne_zero,Bool.not_true,Bool.not_false,argT,Nat.reduceAdd,pickT,List.map_cons,List.map_nil,Nat.reduceMul,Nat.reduceSub,Nat.reduceLT,Nat.reduceLeDiff,Nat.lt_irrefl,Int.reduceToNat,Int.reduceLT,Int.reduceLE,Int.reduceNeg,Int.reduceAdd,Int.reduceMul,Int.toNat_zero,Int.toNat_one,decide_true,decide_false,and_self,List.length_cons,List.length_nil,List.getElem?_cons_zero,List.getElem?_cons_succ,List.drop_zero,List.drop_succ_cons,List.take_zero,List.take_succ_cons,List.take_nil,List.drop_nil,List.cons_append,List.nil_append,List.set_cons_zero,List.set_cons_succ,List.all_cons,List.all_nil,Bool.and_true,Bool.and_self,Option.map_some,List.flatten_cons,List.flatten_nil,↓mg,↓ms,↓mg0,↓ms0,ma,ma2,ml,V.one,cellsV,partV,evLoad,evStore,ldB,wrB,evStrIdx,↓ev_nilCheck,evFA,evF,evIA,evI,evBuild,fillV,setAt,evSlice,evStrSlice,bound,chunks,evLen,evAppend,elsV,beq_self_eq_true,Nat.reduceBEq,evMake,evBuildSl,repL,List.replicate_succ,List.replicate_zero,List.range_succ,List.range_zero,Option.map_none,Int.toNat_natCast,Nat.zero_add,Nat.add_zero,Nat.zero_mul,Nat.one_mul,Int.le_refl,Nat.le_refl];rfl
  · exact hi
  rintro v mo ⟨rfl,k,rfl,hk⟩
  simp only [Option.getD_none]
  (repeat'(first|(refine sx ?_ ?_<;>intro h<;>first|(exfalso;omega)|skip)|refine ny ?_|refine WA_block ?_))
  all_goals((refine r_es hQ ?_;try with_reducible rfl);rw [show decide (∃ x,x∈xs∧p x)=decide (0≤k) from decide_eq_decide.2 hk.symm];simp [h])

theorem within_clo(x k:Int)(h1: -9223372036854775807≤k)(h2:k≤9223372036854775807)(b:Nat)(m:Mem)(st:Sta)(hm:m[b]?=some (.cells st 3 1 [[.int .i64 k]])):Gives Tryz.prog 58 [.int .i64 x,.ptr b 0 0] m (.bool (decide (¬ (-k≤x∧x≤k)))):=by
  have hm':∃ st',(lend m++[])[b]?=some (.cells st' 3 1 [[.int .i64 k]]):=by
    rw [List.append_nil,lend,List.getElem?_map,hm]
    cases st<;>exact⟨_,rfl⟩
  obtain⟨st',hm'⟩:=hm'
  refine Gives_in Tryz.func58 rfl Tryz.ntmps58 Tryz.results58 (by kernel_rfl) (by simp) rfl fun Q hQ=>?_
  (have FX:=hm';repeat'(first|(refine sx ?_ ?_<;>intro h<;>first|(exfalso;omega)|skip)|(refine g_op ?_;refine g_call ?_;refine g_args ?_;(first|refine s_fn (pwithin_c _ _ ?_ ?_ _) ?_)<;>try first|omega|assumption)|refine ny ?_|refine WA_block ?_))
  all_goals((refine r_es hQ ?_;try with_reducible rfl);simp [*])

theorem all_c(a b c k:Int)(h1: -9223372036854775807≤k)(h2:k≤9223372036854775807)(m:Mem):Gives Tryz.prog 33 [.agg [.int .i64 (a),.int .i64 (b),.int .i64 (c)],.int .i64 k] m (.bool (decide ((-k≤a∧a≤k)∧(-k≤b∧b≤k)∧(-k≤c∧c≤k)))):=by
  refine Gives_in Tryz.func33 rfl Tryz.ntmps33 Tryz.results33 (by kernel_rfl) (by simp) rfl fun Q hQ=>?_
  (repeat'(first|(refine sx ?_ ?_<;>intro h<;>first|(exfalso;omega)|skip)|refine ny ?_|refine WA_block ?_))
  apply WOs_fn (dOk_b rfl)
  · simp only [↓ev_move,↓ev_assign,↓ev_pick,↓ev_alloc,↓ev_box,↓ev_load,↓ev_store,↓ev_binOp,↓ev_unOp,↓ev_extract,↓ev_fieldAddr,↓ev_field,↓ev_indexAddr,↓ev_index,↓ev_makeFunc,↓ev_build,↓ev_makeSlice,↓ev_buildSlice,↓ev_convert,↓ev_len,↓ev_max,↓ev_min,↓ev_append,↓ev_slice,maxLen_eq,b_aeq,b_ane,planEq,leafEq,←Bool.decide_and,b_add,b_sub,b_mul,b_quo,b_rem,b_and,b_or,b_xor,b_eql,b_neq,b_lss,b_leq,b_gtr,b_geq,b_sadd,b_seql,b_sneq,u_not,u_neg,okO_some,okR_eq,↓evO_tmp,↓evO_const,↓evO_func,↓evO_glb,gval,↓ev_s2a,evS2A,List.headD_cons,ofC_int,ofC_bool,ofC_nilsl,ofC_nilptr,ofC_nilfn,ofC_nilmap,ofC_nilif,ofC_str,tput_some,tput_none,i64w,u64w,Int.one_mul,Int.tdiv_eq_ediv_of_nonneg,ne_eq,not_false_eq_true,not_true_eq_false,Int.reduceEq,↓tg_c,tg_n,↓reduceIte,Nat.reduceEqDiff,true_and,and_true,evMax,evMin,reduceCtorEq,Nat.succ_ne_zero,Nat.zero_ne_one,Nat.one_ne_zero,Bool.not_true,Bool.not_false,argT,Nat.reduceAdd,pickT,List.map_cons,List.map_nil,Nat.reduceMul,Nat.reduceSub,Nat.reduceLT,Nat.reduceLeDiff,Nat.lt_irrefl,Int.reduceToNat,Int.reduceLT,Int.reduceLE,Int.reduceNeg,Int.reduceAdd,Int.reduceMul,Int.toNat_zero,Int.toNat_one,decide_true,decide_false,and_self,List.length_cons,List.length_nil,List.getElem?_cons_zero,List.getElem?_cons_succ,List.drop_zero,List.drop_succ_cons,List.take_zero,List.take_succ_cons,List.take_nil,List.drop_nil,List.cons_append,List.nil_append,List.set_cons_zero,List.set_cons_succ,List.all_cons,List.all_nil,Bool.and_true,Bool.and_self,Option.map_some,List.flatten_cons,List.flatten_nil,↓mg,↓ms,↓mg0,↓ms0,ma,ma2,ml,V.one,cellsV,partV,evLoad,evStore,ldB,wrB,evStrIdx,↓ev_nilCheck,evFA,evF,evIA,evI,evBuild,fillV,setAt,evSlice,evStrSlice,bound,chunks,evLen,evAppend,elsV,beq_self_eq_true,Nat.reduceBEq,evMake,evBuildSl,repL,List.replicate_succ,List.replicate_zero,List.range_succ,List.range_zero,Option.map_none,Int.toNat_natCast,Nat.zero_add,Nat.add_zero,Nat.zero_mul,Nat.one_mul,Int.le_refl,Nat.le_refl];rfl
  · refine contains_c [a,b,c] 58 [] [.ptr ((lend m).length+1) 0 0] (fun x=>¬ (-k≤x∧x≤k)) (by simp) _ (fun x _=>within_clo x k h1 h2 _ _ .lent ?_)
    rw [lend_append,lend_lend,List.append_nil]
    exact mg
  (repeat'(first|(refine sx ?_ ?_<;>intro h<;>first|(exfalso;omega)|skip)|refine ny ?_|refine WA_block ?_))
  all_goals((refine r_es hQ ?_;try with_reducible rfl);simp at h;simp;omega)
theorem uG4_34_4{N:Nat}{l:List Oper}{t:List (Nat×V)}{m:Mem}{Q:Exit→List (Nat×V)→Mem→Prop}(h:RgN Tryz.prog N l t m Q (fun i=>if i==10 then .w else if i==2 || i==6 then .q else .p) [.one 0,.one 1,.one 2,.one 3,.one 4,.one 5,.one 6,.one 7,.one 8,.one 9,.one 10]):WA Tryz.prog N (.region 4 l.toArray true) t m Q:=d_rgN h
theorem vplus_c(a b c x y z k:Int)(m:Mem):Gives Tryz.prog 34 [.agg [.int .i64 (a),.int .i64 (b),.int .i64 (c)],.agg [.int .i64 (x),.int .i64 (y),.int .i64 (z)],.int .i64 k] m (.agg [.int .i64 ((IntKind.i64.wrap (a+(IntKind.i64.wrap (k * x))))),.int .i64 ((IntKind.i64.wrap (b+(IntKind.i64.wrap (k * y))))),.int .i64 ((IntKind.i64.wrap (c+(IntKind.i64.wrap (k * z)))))]):=by
  refine Gives_in Tryz.func34 rfl Tryz.ntmps34 Tryz.results34 (by kernel_rfl) (by simp) rfl fun Q hQ=>?_
  (repeat'(first|(refine sx ?_ ?_<;>intro h<;>first|(exfalso;omega)|skip)|refine ny ?_|refine WA_block ?_|(refine uG4_34_4 ?_;refine⟨by kernel_rfl,?_⟩)))
  refine WA_rounds 4 ?_
  (repeat'(first|(refine sx ?_ ?_<;>intro h<;>first|(exfalso;omega)|skip)|refine ny ?_|refine WA_block ?_|(refine uG4_34_4 ?_;refine⟨by kernel_rfl,?_⟩)))
  (repeat'(first|(refine sx ?_ ?_<;>intro h<;>first|(exfalso;omega)|skip)|refine ny ?_|refine WA_block ?_|(refine uG4_34_4 ?_;refine⟨by kernel_rfl,?_⟩)))
  (repeat'(first|(refine sx ?_ ?_<;>intro h<;>first|(exfalso;omega)|skip)|refine ny ?_|refine WA_block ?_|(refine uG4_34_4 ?_;refine⟨by kernel_rfl,?_⟩)))
  (repeat'(first|(refine sx ?_ ?_<;>intro h<;>first|(exfalso;omega)|skip)|refine ny ?_|refine WA_block ?_|(refine uG4_34_4 ?_;refine⟨by kernel_rfl,?_⟩)))
  (refine r_es hQ ?_;try with_reducible rfl)
theorem uG4_42_2{N:Nat}{l:List Oper}{t:List (Nat×V)}{m:Mem}{Q:Exit→List (Nat×V)→Mem→Prop}(h:RgN Tryz.prog N l t m Q (fun i=>if i==7 then .w else .p) [.one 0,.one 1,.one 2,.one 3,.one 4,.one 5,.one 6,.one 7]):WA Tryz.prog N (.region 2 l.toArray true) t m Q:=d_rgN h
theorem lowest_c(a b:Int)(h1: -9223372036854775807≤a)(h2:a≤9223372036854775807)(h3:1≤b)(h4:b≤9223372036854775807)(m:Mem):Gives Tryz.prog 42 [.int .i64 a,.int .i64 b] m (.agg [.int .i64 (a.tdiv (Int.gcd a b)),.int .i64 (b / (Int.gcd a b:Int))]):=by
  have hg:(Int.gcd a b:Int)≠0:=by
    have:=Int.gcd_pos_iff.2 (Or.inr (show b≠0 by omega):a≠0∨b≠0)
    omega
  have q1:=tdiv_bd a (Int.gcd a b)
  have q2:0≤b / (Int.gcd a b:Int):=Int.ediv_nonneg (by omega) (by omega)
  have q3:b / (Int.gcd a b:Int)≤b:=Int.ediv_le_self _ (by omega)
  refine Gives_in Tryz.func42 rfl Tryz.ntmps42 Tryz.results42 (by kernel_rfl) (by simp) rfl fun Q hQ=>?_
  (repeat'(first|(refine sx ?_ ?_<;>intro h<;>first|(exfalso;omega)|skip)|(refine g_op ?_;refine g_call ?_;refine g_args ?_;(first|refine s_fn (gcd_c _ _ ?_ ?_ ?_ ?_ _) ?_)<;>try first|omega|assumption)|refine ny ?_|refine WA_block ?_|(refine uG4_42_2 ?_;refine⟨by kernel_rfl,?_⟩)|((first|refine grp_cons (fun _=>gcd_c _ _ ?_ ?_ ?_ ?_ _) ?_)<;>try first|omega|assumption)|(refine g_d ?_;refine d_args ?_;(first|refine d_fn (gcd_c _ _ ?_ ?_ ?_ ?_ _) ?_|refine d_fnQ (fun _=>gcd_c _ _ ?_ ?_ ?_ ?_ _) ?_)<;>try first|omega|assumption)|(refine g_d ?_;(first|refine d_fnY (gcd_c _ _ ?_ ?_ ?_ ?_ _) ?_)<;>try first|omega|assumption)))
  (repeat'(first|(refine sx ?_ ?_<;>intro h<;>first|(exfalso;omega)|skip)|(refine g_op ?_;refine g_call ?_;refine g_args ?_;(first|refine s_fn (gcd_c _ _ ?_ ?_ ?_ ?_ _) ?_)<;>try first|omega|assumption)|refine ny ?_|refine WA_block ?_|(refine uG4_42_2 ?_;refine⟨by kernel_rfl,?_⟩)|((first|refine grp_cons (fun _=>gcd_c _ _ ?_ ?_ ?_ ?_ _) ?_)<;>try first|omega|assumption)|(refine g_d ?_;refine d_args ?_;(first|refine d_fn (gcd_c _ _ ?_ ?_ ?_ ?_ _) ?_|refine d_fnQ (fun _=>gcd_c _ _ ?_ ?_ ?_ ?_ _) ?_)<;>try first|omega|assumption)|(refine g_d ?_;(first|refine d_fnY (gcd_c _ _ ?_ ?_ ?_ ?_ _) ?_)<;>try first|omega|assumption)))
  (refine r_es hQ ?_;try with_reducible rfl)

theorem nan_c(x:Int)(m:Mem):Gives Tryz.prog 78 [.int .i64 x] m (.bool false):=by
  refine Gives_in Tryz.func78 rfl Tryz.ntmps78 Tryz.results78 (by kernel_rfl) (by simp) rfl fun Q hQ=>?_
  (repeat'(first|(refine sx ?_ ?_<;>intro h<;>first|(exfalso;omega)|skip)|refine ny ?_|refine WA_block ?_))
  all_goals((refine r_es hQ ?_;try with_reducible rfl))

theorem nan2_c(x:Int)(m:Mem):Gives Tryz.prog 62 [.int .i64 x] m (.bool false):=by
  refine Gives_in Tryz.func62 rfl Tryz.ntmps62 Tryz.results62 (by kernel_rfl) (by simp) rfl fun Q hQ=>?_
  (repeat'(first|(refine sx ?_ ?_<;>intro h<;>first|(exfalso;omega)|skip)|refine ny ?_|refine WA_block ?_))
  all_goals((refine r_es hQ ?_;try with_reducible rfl))

theorem less_c(x y:Int)(m:Mem):Gives Tryz.prog 61 [.int .i64 x,.int .i64 y] m (.bool (decide (x<y))):=by
  refine Gives_in Tryz.func61 rfl Tryz.ntmps61 Tryz.results61 (by kernel_rfl) (by simp) rfl fun Q hQ=>?_
  (repeat'(first|(refine sx ?_ ?_<;>intro h<;>first|(exfalso;omega)|skip)|(refine g_op ?_;refine g_call ?_;refine g_args ?_;(first|refine s_fn (nan_c _ _) ?_)<;>try first|omega|assumption)|refine ny ?_|refine WA_block ?_))
  all_goals((refine r_es hQ ?_;try with_reducible rfl);simp [*])

def bearOk(a b c d e:Int):Prop:=(-10000≤a∧a≤10000)∧(-10000≤b∧b≤10000)∧(-10000≤c∧c≤10000)∧(1≤d∧d≤300000)∧(1≤e∧e≤300000)
instance(a b c d e:Int):Decidable (bearOk a b c d e):=by unfold bearOk;exact inferInstance
theorem checkbearing_c(a b c d e:Int)(m:Mem):Gives Tryz.prog 43 [.agg [.int .i64 a,.int .i64 b,.int .i64 c,.int .i64 d,.int .i64 e]] m (.int .i64 (if bearOk a b c d e then 0 else 2)):=by
  by_cases hok:bearOk a b c d e
  all_goals
    simp only [hok,if_true,if_false]
    unfold bearOk at hok
    refine Gives_in Tryz.func43 rfl Tryz.ntmps43 Tryz.results43 (by kernel_rfl) (by simp) rfl fun Q hQ=>?_
    (repeat'(first|(refine sx ?_ ?_<;>intro h<;>first|(exfalso;omega)|skip)|(refine g_op ?_;refine g_call ?_;refine g_args ?_;(first|refine s_fn (pwithin_c _ _ ?_ ?_ _) ?_)<;>try first|omega|assumption)|refine ny ?_|refine WA_block ?_))
    refine WA_rounds 4 ?_
    (repeat'(first|(refine sx ?_ ?_<;>intro h<;>first|(exfalso;omega)|skip)|(refine g_op ?_;refine g_call ?_;refine g_args ?_;(first|refine s_fn (pwithin_c _ _ ?_ ?_ _) ?_)<;>try first|omega|assumption)|refine ny ?_|refine WA_block ?_))
    all_goals(try(refine WA_rounds 3 ?_))
    all_goals(repeat'(first|(refine sx ?_ ?_<;>intro h<;>first|(exfalso;omega)|skip)|(refine g_op ?_;refine g_call ?_;refine g_args ?_;(first|refine s_fn (pwithin_c _ _ ?_ ?_ _) ?_)<;>try first|omega|assumption)|refine ny ?_|refine WA_block ?_))
    all_goals(refine r_es hQ ?_;try with_reducible rfl)
end Go.Proofs.YtjonlmpjdhoogaaGreatDoor
