import Derived.Test.YtppbjbfilkileaaGAE
set_option linter.unusedSimpArgs false
set_option linter.unusedVariables false
namespace Go.Proofs.Ytppbjbfilkileaa
open Go.RowKit
attribute [local irreducible] WA WOs WDs WAn qThen qBlock tput
set_option maxHeartbeats 1000000
set_option maxRecDepth 20000
set_option linter.unusedSimpArgs false
set_option linter.unusedVariables false
theorem uG46_27_1{N:Nat}{l:List Oper}{t:List (Nat×V)}{m:Mem}{Q:Exit→List (Nat×V)→Mem→Prop}(h:RgN Try.prog N l t m Q (fun i=>if i==0 || i==2 || i==5 then .q else .p) [.one 0,.one 1,.one 2,.one 3,.one 4,.one 5,.one 6,.one 7,.one 8]):WA Try.prog N (.region 1 l.toArray true) t m Q:=d_rgN h
theorem uG46_27_6{N:Nat}{l:List Oper}{t:List (Nat×V)}{m:Mem}{Q:Exit→List (Nat×V)→Mem→Prop}(h:RgN Try.prog N l t m Q (fun i=>if i==5 || i==11 || i==15 || i==17 then .q else .p) [.one 0,.one 1,.one 2,.one 3,.one 4,.one 5,.one 6,.one 7,.one 8,.one 9,.one 10,.one 11,.one 12,.one 13,.one 14,.one 15,.one 16,.one 17,.one 18,.one 19,.one 20,.one 21]):WA Try.prog N (.region 6 l.toArray true) t m Q:=d_rgN h
theorem rbend0_c(a b w:Int)(ls:List (Int×Int))(h:BeamOk a b ls)(x:Int)(hx:a≤x∧x≤b)(A:Int)(hA:sumF (fun p=>p.2 * (b - p.1)) ls ls.length=A)(m:Mem):Gives Try.prog 27 [.agg [.int .i64 a,.int .i64 b,.int .i64 w],.lst (ldsV ls),.int .i64 x] m (.int .i64 (A * (x - a) - sumF (beF a b x) ls ls.length)):=by
  have hlen:=ldsV_length (ls:=ls)
  have hget:=hlen
  have hl:=h.hl
  have ha:=h.ha
  have hb:=h.hb
  have hok:=h.ok2
  have BA:=h.A ls.length (Nat.le_refl _)
  unfold fA at BA
  rw [hA] at BA
  have BM:=mulR (x:=A) (y:=x - a) (by omega) (by omega)
  have BS:=h.be hx
  have z1:sumF (beF a b x) ls 0=0:=by simp [sumF]
  subst hA
  refine Gives_in Try.func27 rfl Try.ntmps27 Try.results27 (by kernel_rfl) (by simp) rfl fun Q hQ=>?_
  (have FX:=And.intro hlen hget;repeat'(first|(refine sx ?_ ?_<;>intro h<;>first|(exfalso;omega)|skip)|(refine g_op ?_;refine g_call ?_;refine g_args ?_;(first|refine s_fn (rfirst_c _ _ _ _ hl hb hok _) ?_)<;>try first|omega|assumption)|refine ny ?_|refine WA_block ?_|(refine uG46_27_1 ?_;refine⟨by kernel_rfl,?_⟩)|(refine uG46_27_6 ?_;refine⟨by kernel_rfl,?_⟩)|((first|refine grp_cons (fun _=>rfirst_c _ _ _ _ hl hb hok _) ?_)<;>try first|omega|assumption)|(refine g_d ?_;refine d_args ?_;(first|refine d_fn (rfirst_c _ _ _ _ hl hb hok _) ?_|refine d_fnQ (fun _=>rfirst_c _ _ _ _ hl hb hok _) ?_)<;>try first|omega|assumption)|(refine g_d ?_;(first|refine d_fnY (rfirst_c _ _ _ _ hl hb hok _) ?_)<;>try first|omega|assumption)))
  refine WA_while (σ:=Nat) [1,2,3,7,8] (fun i=>[.lst (ldsV ls),.int .i64 x,.ptr (lend m).length 0 0,.int .i64 (sumF (fun p=>p.2 * (b - p.1)) ls ls.length * (x - a) - sumF (beF a b x) ls i),.int .i64 i]) (fun _=>lend m++[.cells .own 23 3 [[.int .i64 a,.int .i64 b,.int .i64 w]]]) (fun i=>i≤ls.length) (fun i=>ls.length - i) 0 (Nat.zero_le _) ?_ rfl ?_
  · simp only [z1,Int.sub_zero];exact tv_
  intro i hi1 K2 hL
  have b1:=BS i hi1
  simp only [zipT]
  rcases Nat.lt_or_ge i ls.length with hi'|hi'
  · have hget:=ldsV_get hi'
    have e1:sumF (beF a b x) ls (i+1)=sumF (beF a b x) ls i+(if ls[i].1≤x then ls[i].2 * (x - ls[i].1) * (b - a) else 0):=sumF_succ hi'
    have hp:=h.ok2 _ (List.getElem_mem hi')
    have m1:=mulW hp.2 (d:=x - ls[i].1) (by omega)
    have m2:=mulQ (x:=ls[i].2 * (x - ls[i].1)) (y:=b - a) m1 (by omega)
    clear FX
    (have FX:=And.intro hlen hget;repeat'(first|(refine sx ?_ ?_<;>intro h<;>first|(exfalso;omega)|skip)|(refine g_op ?_;refine g_call ?_;refine g_args ?_;(first|refine s_fn (rfirst_c _ _ _ _ hl hb hok _) ?_)<;>try first|omega|assumption)|refine ny ?_|refine WA_block ?_|(refine uG46_27_1 ?_;refine⟨by kernel_rfl,?_⟩)|(refine uG46_27_6 ?_;refine⟨by kernel_rfl,?_⟩)|((first|refine grp_cons (fun _=>rfirst_c _ _ _ _ hl hb hok _) ?_)<;>try first|omega|assumption)|(refine g_d ?_;refine d_args ?_;(first|refine d_fn (rfirst_c _ _ _ _ hl hb hok _) ?_|refine d_fnQ (fun _=>rfirst_c _ _ _ _ hl hb hok _) ?_)<;>try first|omega|assumption)|(refine g_d ?_;(first|refine d_fnY (rfirst_c _ _ _ _ hl hb hok _) ?_)<;>try first|omega|assumption)))
    all_goals(simp (disch:=omega) only [if_pos,if_neg,Int.add_zero] at e1)
    all_goals(refine next_ hL (i+1) hi' (by omega) ?_;simp (disch:=omega) only [↓ev_move,↓ev_assign,↓ev_pick,↓ev_alloc,↓ev_box,↓ev_load,↓ev_store,↓ev_binOp,↓ev_unOp,↓ev_extract,↓ev_fieldAddr,↓ev_field,↓ev_indexAddr,↓ev_index,↓ev_makeFunc,↓ev_build,↓ev_makeSlice,↓ev_buildSlice,↓ev_convert,↓ev_len,↓ev_max,↓ev_min,↓ev_append,↓ev_slice,maxLen_eq,b_aeq,b_ane,planEq,leafEq,←Bool.decide_and,b_add,b_sub,b_mul,b_quo,b_rem,b_and,b_or,b_xor,b_eql,b_neq,b_lss,b_leq,b_gtr,b_geq,b_sadd,b_seql,b_sneq,u_not,u_neg,okO_some,okR_eq,↓evO_tmp,↓evO_const,↓evO_func,ofC_int,ofC_bool,ofC_nilsl,ofC_nilptr,ofC_nilfn,ofC_nilmap,ofC_nilif,ofC_str,tput_some,tput_none,i64w,u64w,Int.one_mul,Int.tdiv_eq_ediv_of_nonneg,ne_eq,not_false_eq_true,not_true_eq_false,Int.reduceEq,↓tg_c,tg_n,↓reduceIte,Nat.reduceEqDiff,true_and,and_true,evMax,evMin,reduceCtorEq,Nat.succ_ne_zero,Nat.zero_ne_one,Nat.one_ne_zero,Bool.not_true,Bool.not_false,argT,Nat.reduceAdd,pickT,List.map_cons,List.map_nil,Nat.reduceMul,Nat.reduceSub,Nat.reduceLT,Nat.reduceLeDiff,Nat.lt_irrefl,Int.reduceToNat,Int.reduceLT,Int.reduceLE,Int.reduceNeg,Int.reduceAdd,Int.reduceMul,Int.toNat_zero,Int.toNat_one,decide_true,decide_false,and_self,List.length_cons,List.length_nil,List.getElem?_cons_zero,List.getElem?_cons_succ,List.drop_zero,List.drop_succ_cons,List.take_zero,List.take_succ_cons,List.take_nil,List.drop_nil,List.cons_append,List.nil_append,List.set_cons_zero,List.set_cons_succ,List.all_cons,List.all_nil,Bool.and_true,Bool.and_self,Option.map_some,List.flatten_cons,List.flatten_nil,↓mg,↓ms,↓mg0,↓ms0,ma,ma2,ml,V.one,cellsV,partV,evLoad,evStore,ldB,wrB,evStrIdx,↓ev_nilCheck,evFA,evF,evIA,evI,evBuild,fillV,setAt,evSlice,evStrSlice,bound,chunks,evLen,evAppend,elsV,beq_self_eq_true,Nat.reduceBEq,evMake,evBuildSl,repL,List.replicate_succ,List.replicate_zero,List.range_succ,List.range_zero,Option.map_none,Int.toNat_natCast,Nat.zero_add,Nat.add_zero,Nat.zero_mul,Nat.one_mul,Int.le_refl,Nat.le_refl,e1,Int.sub_sub];first|rfl|(simp;omega))
  · have e:i=ls.length:=by omega
    subst e
    clear FX
    (have FX:=And.intro hlen hget;repeat'(first|(refine sx ?_ ?_<;>intro h<;>first|(exfalso;omega)|skip)|(refine g_op ?_;refine g_call ?_;refine g_args ?_;(first|refine s_fn (rfirst_c _ _ _ _ hl hb hok _) ?_)<;>try first|omega|assumption)|refine ny ?_|refine WA_block ?_|(refine uG46_27_1 ?_;refine⟨by kernel_rfl,?_⟩)|(refine uG46_27_6 ?_;refine⟨by kernel_rfl,?_⟩)|((first|refine grp_cons (fun _=>rfirst_c _ _ _ _ hl hb hok _) ?_)<;>try first|omega|assumption)|(refine g_d ?_;refine d_args ?_;(first|refine d_fn (rfirst_c _ _ _ _ hl hb hok _) ?_|refine d_fnQ (fun _=>rfirst_c _ _ _ _ hl hb hok _) ?_)<;>try first|omega|assumption)|(refine g_d ?_;(first|refine d_fnY (rfirst_c _ _ _ _ hl hb hok _) ?_)<;>try first|omega|assumption)))
    all_goals(refine r_es hQ ?_;try with_reducible rfl)
theorem uG46_14_1{N:Nat}{l:List Oper}{t:List (Nat×V)}{m:Mem}{Q:Exit→List (Nat×V)→Mem→Prop}(h:RgN Try.prog N l t m Q (fun i=>if i==10 then .w else if i==0 || i==3 || i==5 || i==7 || i==9 then .q else .p) [.one 0,.one 1,.one 2,.one 3,.one 4,.one 5,.one 6,.one 7,.one 8,.one 9,.one 10]):WA Try.prog N (.region 1 l.toArray true) t m Q:=d_rgN h
theorem rbend_c(a b w:Int)(ls:List (Int×Int))(h:BeamOk a b ls)(x:Int)(hx:a≤x∧x≤b)(n:Int)(hn:sumF (fun p=>p.2 * (b - p.1)) ls ls.length * (x - a) - sumF (beF a b x) ls ls.length=n)(m:Mem):Gives Try.prog 14 [.agg [.int .i64 a,.int .i64 b,.int .i64 w],.lst (ldsV ls),.int .i64 x] m (.agg [.int .i64 (lowF n (b - a)).1,.int .i64 (lowF n (b - a)).2]):=by
  have hl:=h.hl
  have ha:=h.ha
  have hb:=h.hb
  have hab:=h.hab
  have BA:=h.A ls.length (Nat.le_refl _)
  have BM:=mulR (x:=sumF (fA b) ls ls.length) (y:=x - a) (by omega) (by omega)
  have BS:=h.be hx ls.length (Nat.le_refl _)
  unfold fA at BM
  have h67:=fun m=>rbend0_c a b w ls h x hx _ rfl m
  rw [hn] at h67
  have hn2: -1000000000000000000≤n∧n≤1000000000000000000:=by omega
  clear BM BS BA
  unfold lowF
  refine Gives_in Try.func14 rfl Try.ntmps14 Try.results14 (by kernel_rfl) (by simp) rfl fun Q hQ=>?_
  (repeat'(first|(refine sx ?_ ?_<;>intro h<;>first|(exfalso;omega)|skip)|(refine g_op ?_;refine g_call ?_;refine g_args ?_;(first|refine s_fn (h67 _) ?_|refine s_fn (blowest_c _ _ ?_ ?_ ?_ ?_ _) ?_)<;>try first|omega|assumption)|refine ny ?_|refine WA_block ?_|(refine uG46_14_1 ?_;refine⟨by kernel_rfl,?_⟩)|((first|refine grp_cons (fun _=>h67 _) ?_|refine grp_cons (fun _=>blowest_c _ _ ?_ ?_ ?_ ?_ _) ?_)<;>try first|omega|assumption)|(refine g_d ?_;refine d_args ?_;(first|refine d_fn (h67 _) ?_|refine d_fn (blowest_c _ _ ?_ ?_ ?_ ?_ _) ?_|refine d_fnQ (fun _=>h67 _) ?_|refine d_fnQ (fun _=>blowest_c _ _ ?_ ?_ ?_ ?_ _) ?_)<;>try first|omega|assumption)|(refine g_d ?_;(first|refine d_fnY (h67 _) ?_|refine d_fnY (blowest_c _ _ ?_ ?_ ?_ ?_ _) ?_)<;>try first|omega|assumption)))
  all_goals(refine r_es hQ ?_;try with_reducible rfl)
theorem uG46_28_7{N:Nat}{l:List Oper}{t:List (Nat×V)}{m:Mem}{Q:Exit→List (Nat×V)→Mem→Prop}(h:RgN Try.prog N l t m Q (fun i=>if i==7 then .w else if i==1 || i==3 || i==4 || i==5 || i==6 then .q else .p) [.one 0,.one 1,.one 2,.one 3,.one 4,.one 5,.one 6,.one 7,.one 8]):WA Try.prog N (.region 7 l.toArray true) t m Q:=d_rgN h
theorem at_ok(a b w:Int)(ls:List (Int×Int))(x:Int)(g:FuncId)(hl:ls.length≤1000000)(he:chkE a b w ls=0)(hx:a≤x∧x≤b)(n:Int)(hn: -1000000000000000000≤n∧n≤1000000000000000000)(hw:∀ m,Gives Try.prog g [.agg [.int .i64 a,.int .i64 b,.int .i64 w,.lst (ldsV ls)],.int .i64 x] m (.int .i64 n))(m:Mem):Gives Try.prog 28 [.agg [.int .i64 a,.int .i64 b,.int .i64 w],.lst (ldsV ls),.int .i64 x,.clo (.func g) [] []] m (.tup [.agg [.int .i64 (lowF n (b - a)).1,.int .i64 (lowF n (b - a)).2],.int .i64 0]):=by
  have h:=beam_of he
  have ha:=h.ha
  have hb:=h.hb
  have hab:=h.hab
  unfold lowF
  refine Gives_in Try.func28 rfl Try.ntmps28 Try.results28 (by kernel_rfl) (by simp) rfl fun Q hQ=>?_
  (repeat'(first|(refine sx ?_ ?_<;>intro h<;>first|(exfalso;omega)|skip)|(refine g_op ?_;refine g_call ?_;refine g_args ?_;(first|refine s_fn (pcheck2_c _ _ _ _ _ he hl _) ?_|refine s_fn (beamof_c _ _ _ _ hl _) ?_|refine s_fn (width_c _ _ _ _ ha hb _) ?_|refine s_fn (lowest_c _ _ ?_ ?_ ?_ ?_ _) ?_)<;>try first|omega|assumption)|(refine g_op ?_;refine g_dyn ?_;refine g_dargs ?_;first|(refine s_fn (hw _) ?_<;>try first|omega|assumption))|refine ny ?_|refine WA_block ?_|(refine uG46_28_7 ?_;refine⟨by kernel_rfl,?_⟩)|((first|refine grp_cons (fun _=>pcheck2_c _ _ _ _ _ he hl _) ?_|refine grp_cons (fun _=>beamof_c _ _ _ _ hl _) ?_|refine grp_cons (fun _=>width_c _ _ _ _ ha hb _) ?_|refine grp_cons (fun _=>lowest_c _ _ ?_ ?_ ?_ ?_ _) ?_)<;>try first|omega|assumption)|(refine g_d ?_;refine d_args ?_;(first|refine d_fn (pcheck2_c _ _ _ _ _ he hl _) ?_|refine d_fn (beamof_c _ _ _ _ hl _) ?_|refine d_fn (width_c _ _ _ _ ha hb _) ?_|refine d_fn (lowest_c _ _ ?_ ?_ ?_ ?_ _) ?_|refine d_fnQ (fun _=>pcheck2_c _ _ _ _ _ he hl _) ?_|refine d_fnQ (fun _=>beamof_c _ _ _ _ hl _) ?_|refine d_fnQ (fun _=>width_c _ _ _ _ ha hb _) ?_|refine d_fnQ (fun _=>lowest_c _ _ ?_ ?_ ?_ ?_ _) ?_)<;>try first|omega|assumption)|(refine g_d ?_;(first|refine d_fnY (pcheck2_c _ _ _ _ _ he hl _) ?_|refine d_fnY (beamof_c _ _ _ _ hl _) ?_|refine d_fnY (width_c _ _ _ _ ha hb _) ?_|refine d_fnY (lowest_c _ _ ?_ ?_ ?_ ?_ _) ?_)<;>try first|omega|assumption)|(refine g_d ?_;first|(refine d_dyn (hw _) ?_<;>try first|omega|assumption)|(refine d_dynY (hw _) ?_<;>try first|omega|assumption))))
  all_goals(refine r_es hQ ?_;try with_reducible rfl)

theorem bending_of(a b w:Int)(ls:List (Int×Int))(x n d e:Int)(ht:∀ m,Gives Try.prog 28 [.agg [.int .i64 a,.int .i64 b,.int .i64 w],.lst (ldsV ls),.int .i64 x,.clo (.func 29) [] []] m (.tup [.agg [.int .i64 n,.int .i64 d],.int .i64 e]))(m:Mem):Gives Try.prog 13 [.agg [.int .i64 a,.int .i64 b,.int .i64 w],.lst (ldsV ls),.int .i64 x] m (.tup [.agg [.int .i64 n,.int .i64 d],.int .i64 e]):=by
  refine Gives_in Try.func13 rfl Try.ntmps13 Try.results13 (by kernel_rfl) (by simp) rfl fun Q hQ=>?_
  (repeat'(first|(refine sx ?_ ?_<;>intro h<;>first|(exfalso;omega)|skip)|(refine g_op ?_;refine g_call ?_;refine g_args ?_;(first|refine s_fn (ht _) ?_)<;>try first|omega|assumption)|refine ny ?_|refine WA_block ?_))
  all_goals(refine r_es hQ ?_;try with_reducible rfl)
def benA(a b:Int)(ls:List (Int×Int))(x:Int):Int:=sumF (fA b) ls ls.length * (x - a) - sumF (beF a b x) ls ls.length
theorem benA_bd{a b:Int}{ls:List (Int×Int)}(h:BeamOk a b ls){x:Int}(hx:a≤x∧x≤b): -1000000000000000000≤benA a b ls x∧benA a b ls x≤1000000000000000000:=by
  have hl:=h.hl
  have ha:=h.ha
  have hb:=h.hb
  have BA:=h.A ls.length (Nat.le_refl _)
  have BM:=mulR (x:=sumF (fA b) ls ls.length) (y:=x - a) (by omega) (by omega)
  have BS:=h.be hx ls.length (Nat.le_refl _)
  unfold benA;omega
theorem sumF_congr{f g:Int×Int→Int}{ls:List (Int×Int)}(h:∀ p∈ls,f p=g p):∀ k,k≤ls.length→sumF f ls k=sumF g ls k
  |0,_=>by simp [sumF]
  |k+1,hk=>by rw [sumF_succ (by omega),sumF_succ (by omega),sumF_congr h k (by omega),h _ (List.getElem_mem _)]
theorem sumF_mulr{g:Int×Int→Int}{c:Int}{ls:List (Int×Int)}:∀ k,k≤ls.length→sumF (fun p=>g p * c) ls k=sumF g ls k * c
  |0,_=>by simp [sumF]
  |k+1,hk=>by rw [sumF_succ (by omega),sumF_succ (by omega),sumF_mulr k (by omega),Int.add_mul]
theorem benA_a{a b:Int}{ls:List (Int×Int)}(h:BeamOk a b ls):benA a b ls a=0:=by
  have e:sumF (beF a b a) ls ls.length=sumF (fun p=>(fun _=>0) p * 0) ls ls.length:=sumF_congr (fun p hp=>by
    have:=(h.hok p hp).1
    unfold beF
    split
    · have:a - p.1=0:=by omega
      rw [this];simp
    · simp) _ (Nat.le_refl _)
  rw [sumF_mulr _ (Nat.le_refl _)] at e
  unfold benA
  rw [e]
  simp
theorem benA_b{a b:Int}{ls:List (Int×Int)}(h:BeamOk a b ls):benA a b ls b=0:=by
  have e:sumF (beF a b b) ls ls.length=sumF (fun p=>fA b p * (b - a)) ls ls.length:=sumF_congr (fun p hp=>by
    have:=(h.hok p hp).1
    unfold beF fA
    rw [if_pos (by omega)]) _ (Nat.le_refl _)
  rw [sumF_mulr _ (Nat.le_refl _)] at e
  unfold benA
  rw [e]
  omega
theorem bend_ok(a b w:Int)(ls:List (Int×Int))(he:chkE a b w ls=0)(x:Int)(hx:a≤x∧x≤b)(n:Int)(hn:benA a b ls x=n)(m:Mem):Gives Try.prog 13 [.agg [.int .i64 a,.int .i64 b,.int .i64 w],.lst (ldsV ls),.int .i64 x] m (.tup [.agg [.int .i64 (lowF n (b - a)).1,.int .i64 (lowF n (b - a)).2],.int .i64 0]):=by
  have h:=beam_of he
  subst hn
  exact bending_of a b w ls x _ _ _ (fun m=>at_ok a b w ls x 29 (by have:=h.hl;omega) he hx _ (benA_bd h hx) (fun m=>bending_c a b w ls h x hx m) m) m
end Go.Proofs.Ytppbjbfilkileaa
namespace Go.Proofs.Ytppbjbfilkileaa
/-- a function that has no bow but where it is at most M, and is at most M at both ends, is nowhere above M -/
theorem bow_up{f:Int→Int}{a b M:Int}(hl:∀ x,a<x→x<b→M<f x→f (x+1)+f (x - 1)=2 * f x)(hb:f b≤M):∀ (n:Nat) (x:Int),b - x=n→a<x→M<f x→¬ f (x - 1)<f x
  | 0,x,hn,ha,hm=>by
    obtain rfl:x=b:=by omega
    omega
  | n+1,x,hn,ha,hm=>fun hd=>by
    have h1:=hl x ha (by omega) hm
    refine bow_up hl hb n (x+1) (by omega) (by omega) (by omega) ?_
    rw [show x+1 - 1=x by omega]
    omega
theorem bow_down{f:Int→Int}{a b M:Int}(hl:∀ x,a<x→x<b→M<f x→f (x+1)+f (x - 1)=2 * f x)(ha:f a≤M):∀ (n:Nat) (x:Int),x - a=n→x<b→M<f x→¬ f (x+1)≤f x
  | 0,x,hn,hb,hm=>by
    obtain rfl:x=a:=by omega
    omega
  | n+1,x,hn,hb,hm=>fun hd=>by
    have h1:=hl x (by omega) hb hm
    refine bow_down hl ha n (x - 1) (by omega) (by omega) (by omega) ?_
    rw [show x - 1+1=x by omega]
    omega
theorem bow{f:Int→Int}{a b M:Int}(hl:∀ x,a<x→x<b→M<f x→f (x+1)+f (x - 1)=2 * f x)(ha:f a≤M)(hb:f b≤M){x:Int}(hx:a≤x∧x≤b):f x≤M:=by
  rcases Int.lt_or_le M (f x) with hm|hm
  · have h1:x≠a:=fun e=>by subst e;omega
    have h2:x≠b:=fun e=>by subst e;omega
    have h3:=hl x (by omega) (by omega) hm
    have h4:=bow_up hl hb (b - x).toNat x (by omega) (by omega) hm
    have h5:=bow_down hl ha (x - a).toNat x (by omega) (by omega) hm
    omega
  · exact hm
theorem be_bow{a b x:Int}{p:Int×Int}(h:p.1≠x):beF a b (x+1) p+beF a b (x - 1) p=2 * beF a b x p:=by
  unfold beF
  by_cases h1:p.1<x
  · rw [if_pos (by omega),if_pos (by omega),if_pos (by omega)]
    grind
  · rw [if_neg (show ¬ p.1≤x - 1 by omega),if_neg (show ¬ p.1≤x by omega)]
    by_cases h2:p.1≤x+1
    · have:x+1 - p.1=0:=by omega
      rw [if_pos h2,this];simp
    · rw [if_neg h2];omega
theorem sum_bow{a b x:Int}{ls:List (Int×Int)}(h:∀ p∈ls,p.1≠x):∀ k,k≤ls.length→sumF (beF a b (x+1)) ls k+sumF (beF a b (x - 1)) ls k=2 * sumF (beF a b x) ls k
  |0,_=>by simp [sumF]
  | k+1,hk=>by
    rw [sumF_succ (by omega),sumF_succ (by omega),sumF_succ (by omega)]
    have h1:=sum_bow (a:=a) (b:=b) h k (by omega)
    have h2:=be_bow (a:=a) (b:=b) (h _ (List.getElem_mem (show k<ls.length by omega)))
    omega
theorem ben_bow{a b x:Int}{ls:List (Int×Int)}(h:∀ p∈ls,p.1≠x):benA a b ls (x+1)+benA a b ls (x - 1)=2 * benA a b ls x:=by
  have h1:=sum_bow (a:=a) (b:=b) h ls.length (Nat.le_refl _)
  unfold benA
  generalize sumF (beF a b x) ls ls.length=s0 at *
  generalize sumF (beF a b (x+1)) ls ls.length=s1 at *
  generalize sumF (beF a b (x - 1)) ls ls.length=s2 at *
  generalize sumF (fA b) ls ls.length=A at *
  have e:A * (x+1 - a)+A * (x - 1 - a)=2 * (A * (x - a)):=by grind
  omega
/-- the place of the greatest bending: the first of the loads' places with the greatest size, or the girder's begin -/
def IsW(a b:Int)(ls:List (Int×Int))(at_:Int):Prop:=(ls=[]∧at_=a)∨(∃ p∈ls,p.1=at_)∧∀ p∈ls,(benA a b ls p.1).natAbs<(benA a b ls at_).natAbs∨(benA a b ls p.1).natAbs=(benA a b ls at_).natAbs∧at_≤p.1
theorem isW_le{a b:Int}{ls:List (Int×Int)}{x:Int}(h:IsW a b ls x):∀ p∈ls,(benA a b ls p.1).natAbs≤(benA a b ls x).natAbs:=fun p hp=>by
  rcases h with ⟨h,_⟩|⟨_,h⟩
  · rw [h] at hp;cases hp
  · have:=h p hp;omega
theorem isW_uniq{a b:Int}{ls:List (Int×Int)}{x y:Int}(h:IsW a b ls x)(h2:IsW a b ls y):x=y:=by
  rcases h with ⟨h,e⟩|⟨⟨p,hp,e⟩,h⟩
  · subst h
    rcases h2 with ⟨_,e2⟩|⟨⟨p,hp,_⟩,_⟩
    · omega
    · cases hp
  · rcases h2 with ⟨h2,_⟩|⟨⟨q,hq,e2⟩,h2⟩
    · rw [h2] at hp;cases hp
    · have g1:=h q hq
      have g2:=h2 p hp
      rw [e2] at g1
      rw [e] at g2
      omega
theorem isW_in{a b:Int}{ls:List (Int×Int)}(hb:BeamOk a b ls){x:Int}(h:IsW a b ls x):a≤x∧x≤b:=by
  have:=hb.hab
  rcases h with ⟨_,e⟩|⟨⟨p,hp,e⟩,_⟩
  · omega
  · have:=(hb.hok p hp).1;omega
theorem isW_ex_of(g:Int→Nat):∀ ls:List (Int×Int),ls≠[]→∃ x,(∃ p∈ls,p.1=x)∧∀ p∈ls,g p.1<g x∨g p.1=g x∧x≤p.1
  |[],h=>absurd rfl h
  | [p],_=>⟨p.1,⟨p,List.mem_singleton_self p,rfl⟩,fun q hq=>by
    obtain rfl:=List.mem_singleton.1 hq
    exact .inr ⟨rfl,Int.le_refl _⟩⟩
  | p ::q::r,_=>by
    obtain⟨x,⟨s,hs,e⟩,h⟩:=isW_ex_of g (q::r) (by simp)
    by_cases hc:g x<g p.1∨g x=g p.1∧p.1≤x
    · refine⟨p.1,⟨p,List.mem_cons_self,rfl⟩,fun t ht=>?_⟩
      rcases List.mem_cons.1 ht with rfl|ht
      · exact .inr ⟨rfl,Int.le_refl _⟩
      · have:=h t ht;omega
    · refine⟨x,⟨s,List.mem_cons_of_mem _ hs,e⟩,fun t ht=>?_⟩
      rcases List.mem_cons.1 ht with rfl|ht
      · omega
      · exact h t ht
theorem isW_ex(a b:Int)(ls:List (Int×Int)):∃ x,IsW a b ls x:=by
  by_cases h:ls=[]
  · exact⟨a,.inl ⟨h,rfl⟩⟩
  · obtain⟨x,h1,h2⟩:=isW_ex_of (fun y=>(benA a b ls y).natAbs) ls h
    exact⟨x,.inr ⟨h1,h2⟩⟩
/-- nowhere it is bent more -/
theorem isW_most{a b:Int}{ls:List (Int×Int)}(hb:BeamOk a b ls){w:Int}(h:IsW a b ls w){x:Int}(hx:a≤x∧x≤b):(benA a b ls x).natAbs≤(benA a b ls w).natAbs:=by
  have hw:=isW_le h
  have hA:=benA_a hb
  have hB:=benA_b hb
  have hno:∀ y,(benA a b ls w).natAbs<(benA a b ls y).natAbs→∀ p∈ls,p.1≠y:=fun y hy p hp e=>by
    subst e
    have:=hw p hp
    omega
  have h1:=bow (f:=fun y=>benA a b ls y) (M:=((benA a b ls w).natAbs:Int)) (fun y _ _ hm=>ben_bow (hno y (by omega))) (by omega) (by omega) hx
  have h2:=bow (f:=fun y=> - benA a b ls y) (M:=((benA a b ls w).natAbs:Int)) (fun y _ _ hm=>by
    have:=ben_bow (a:=a) (b:=b) (hno y (by omega))
    omega) (by omega) (by omega) hx
  omega
/-! the sort of loads by their places -/
abbrev Ld:=Int×Int
def ld0:Ld:=(0,0)
def ldV(p:Ld):List V:=[.int .i64 p.1,.int .i64 p.2]
theorem lds_get{l:List Ld}{i:Nat}(h:i<l.length):(ldsV l)[i]?=some (ldV (l.getD i ld0)):=by
  unfold ldsV ldV;rw [List.getElem?_map,List.getD_eq_getElem?_getD,List.getElem?_eq_getElem h];rfl
theorem lds_set{l:List Ld}{i:Nat}{p:Ld}:(ldsV l).set i (ldV p)=ldsV (l.set i p):=by simp [ldsV,ldV,List.map_set]
theorem lds_snoc(l:List Ld)(p:Ld):ldsV (l++[p])=ldsV l++[ldV p]:=by simp [ldsV,ldV]
theorem lds_flat(l:List Ld):(ldsV l).all flatL=true:=by
  rw [List.all_eq_true]
  intro e he
  obtain⟨p,_,rfl⟩:=List.mem_map.1 he
  rfl
theorem lds_pl(l:List Ld):(ldsV l).all plainL=true:=by
  rw [List.all_eq_true]
  intro e he
  obtain⟨p,_,rfl⟩:=List.mem_map.1 he
  rfl
theorem getD_setL(l:List Ld)(k i:Nat)(v:Ld):(l.set k v).getD i ld0=if i=k∧k<l.length then v else l.getD i ld0:=by
  rw [List.getD_eq_getElem?_getD,List.getElem?_set,List.getD_eq_getElem?_getD]
  by_cases h:k=i
  · subst h
    by_cases h2:k<l.length
    · rw [if_pos rfl,if_pos h2,if_pos ⟨rfl,h2⟩];rfl
    · rw [if_pos rfl,if_neg h2,if_neg (fun h=>h2 h.2),List.getElem?_eq_none (by omega)]
  · rw [if_neg h,if_neg (fun h2=>h h2.1.symm)]
def swpL(cur:List Ld)(j:Nat):List Ld:=(cur.set (j+1) (cur.getD j ld0)).set j (cur.getD (j+1) ld0)
theorem swpL_len(cur:List Ld)(j:Nat):(swpL cur j).length=cur.length:=by simp [swpL]
theorem swpL_get{cur:List Ld}{j i:Nat}(hj:j+1<cur.length):(swpL cur j).getD i ld0=if i=j then cur.getD (j+1) ld0 else if i=j+1 then cur.getD j ld0 else cur.getD i ld0:=by
  unfold swpL
  rw [getD_setL,getD_setL,List.length_set]
  by_cases h1:i=j
  · rw [if_pos ⟨h1,by omega⟩,if_pos h1]
  · rw [if_neg (fun h=>h1 h.1),if_neg h1]
    by_cases h2:i=j+1
    · rw [if_pos ⟨h2,by omega⟩,if_pos h2]
    · rw [if_neg (fun h=>h2 h.1),if_neg h2]
/-- the load at j goes down to its place -/
def sJ:Nat→List Ld→List Ld
  |0,cu=>cu
  |j+1,cu=>if (cu.getD (j+1) ld0).1<(cu.getD j ld0).1 then sJ j (swpL cu j) else cu
/-- f loads more, from i on -/
def sI:Nat→Nat→List Ld→List Ld
  |0,_,cu=>cu
  |f+1,i,cu=>sI f (i+1) (sJ i cu)
theorem sJ_len:∀ (j:Nat) (cu:List Ld),(sJ j cu).length=cu.length
  |0,_=>rfl
  | j+1,cu=>by
    rw [sJ]
    split
    · rw [sJ_len j,swpL_len]
    · rfl
theorem sI_len:∀ (f i:Nat) (cu:List Ld),(sI f i cu).length=cu.length
  |0,_,_=>rfl
  |f+1,i,cu=>by rw [sI,sI_len f,sJ_len]
theorem mem_set{l:List Ld}{k:Nat}{v x:Ld}(h:x∈l.set k v):x∈l∨x=v:=by
  obtain⟨i,hi,rfl⟩:=List.getElem_of_mem h
  rw [List.getElem_set]
  split
  · exact .inr rfl
  · exact .inl (List.getElem_mem _)
theorem getD_mem{l:List Ld}{k:Nat}(h:k<l.length):l.getD k ld0∈l:=by
  rw [List.getD_eq_getElem?_getD,List.getElem?_eq_getElem h];exact List.getElem_mem h
theorem swpL_perm {cur:List Ld} {j:Nat} (hj:j+1<cur.length):∀ x,x∈swpL cur j↔x∈cur:=by
  intro x
  constructor
  · intro h
    rcases mem_set h with h|rfl
    · rcases mem_set h with h|rfl
      · exact h
      · exact getD_mem (by omega)
    · exact getD_mem hj
  · intro h
    obtain⟨i,hi,rfl⟩:=List.getElem_of_mem h
    have e:cur[i]=cur.getD i ld0:=by rw [List.getD_eq_getElem?_getD,List.getElem?_eq_getElem hi];rfl
    have g:=fun i=>swpL_get (cur:=cur) (j:=j) (i:=i) hj
    by_cases h1:i=j
    · have:=g (j+1)
      rw [if_neg (by omega),if_pos rfl] at this
      rw [e,h1,←this]
      exact getD_mem (by rw [swpL_len];exact hj)
    · by_cases h2:i=j+1
      · have:=g j
        rw [if_pos rfl] at this
        rw [e,h2,←this]
        exact getD_mem (by rw [swpL_len];omega)
      · have:=g i
        rw [if_neg h1,if_neg h2] at this
        rw [e,←this]
        exact getD_mem (by rw [swpL_len];exact hi)
def ordU(cur:List Ld)(i:Nat):Prop:=∀ a c,a<c→c<i→(cur.getD a ld0).1≤(cur.getD c ld0).1
def ordX(cur:List Ld)(i j:Nat):Prop:=(∀ a c,a<c→c≤i→a≠j→c≠j→(cur.getD a ld0).1≤(cur.getD c ld0).1)∧∀ c,j<c→c≤i→(cur.getD j ld0).1≤(cur.getD c ld0).1
theorem sJ_ok :∀ (j:Nat) (cu:List Ld) (i:Nat),j≤i→i<cu.length→ordX cu i j→ordU (sJ j cu) (i+1)∧∀ x,x∈sJ j cu↔x∈cu
  |0,cu,i,_,_,h=>⟨fun a c h1 h2=>by
      rw [sJ]
      by_cases ha:a=0
      · subst ha;exact h.2 c h1 (by omega)
      · exact h.1 a c h1 (by omega) ha (by omega),fun x=>Iff.rfl⟩
  | j + 1,cu,i,hj,hi,h=>by
    rw [sJ]
    split
    · rename_i hlt
      have hg:=fun k=>swpL_get (cur:=cu) (j:=j) (i:=k) (by omega)
      have h2 :ordX (swpL cu j) i j:=by
        refine⟨fun a c h1 h2 h3 h4=>?_,fun c h1 h2=>?_⟩
        · rw [hg a,hg c,if_neg h3,if_neg h4]
          by_cases ha:a=j+1
          · rw [if_pos ha,if_neg (by omega)]
            exact h.1 j c (by omega) h2 (by omega) (by omega)
          · rw [if_neg ha]
            by_cases hc:c=j+1
            · rw [if_pos hc]
              exact h.1 a j (by omega) (by omega) ha (by omega)
            · rw [if_neg hc]
              exact h.1 a c h1 h2 ha hc
        · rw [hg j,hg c,if_pos rfl,if_neg (by omega)]
          by_cases hc:c=j+1
          · rw [if_pos hc];omega
          · rw [if_neg hc];exact h.2 c (by omega) h2
      obtain⟨q1,q2⟩:=sJ_ok j (swpL cu j) i (by omega) (by rw [swpL_len];exact hi) h2
      exact⟨q1,fun x=>(q2 x).trans (swpL_perm (by omega) x)⟩
    · rename_i hge
      refine⟨fun a c h1 h2=>?_,fun x=>Iff.rfl⟩
      by_cases ha:a=j+1
      · subst ha;exact h.2 c h1 (by omega)
      · by_cases hc:c=j+1
        · subst hc
          by_cases haj:a=j
          · subst haj;omega
          · have:=h.1 a j (by omega) (by omega) ha (by omega)
            omega
        · exact h.1 a c h1 (by omega) ha hc
theorem sI_ok:∀ (f i:Nat) (cu:List Ld),i+f=cu.length→ordU cu i→ordU (sI f i cu) cu.length∧∀ x,x∈sI f i cu↔x∈cu
  | 0,i,cu,h,ho=>by
    rw [sI,←h]
    exact⟨ho,fun x=>Iff.rfl⟩
  | f+1,i,cu,h,ho=>by
    rw [sI]
    obtain⟨q1,q2⟩:=sJ_ok i cu i (Nat.le_refl _) (by omega) ⟨fun a c h1 h2 h3 h4=>ho a c h1 (by omega),fun c h1 h2=>by omega⟩
    obtain⟨r1,r2⟩:=sI_ok f (i+1) (sJ i cu) (by rw [sJ_len];omega) q1
    rw [sJ_len] at r1
    exact⟨r1,fun x=>(r2 x).trans (q2 x)⟩
def sL(l:List Ld):List Ld:=sI (l.length - 1) 1 l
theorem sL_len(l:List Ld):(sL l).length=l.length:=sI_len _ _ _
theorem sL_ok(l:List Ld):ordU (sL l) l.length∧∀ x,x∈sL l↔x∈l:=by
  by_cases h:l.length=0
  · have e:l=[]:=List.length_eq_zero_iff.1 h
    subst e
    exact⟨fun a c h1 h2=>absurd h2 (Nat.not_lt_zero _),fun x=>Iff.rfl⟩
  · exact sI_ok (l.length - 1) 1 l (by omega) (fun a c h1 h2=>by omega)
/-- the first loads in order: where the bending is greatest so far -/
def wrst(a b:Int)(ls ss:List Ld):Nat→Int×Int
  |0=>(a,0)
  |k+1=>if k=0∨(wrst a b ls ss k).2.natAbs<(benA a b ls (ss.getD k ld0).1).natAbs then ((ss.getD k ld0).1,benA a b ls (ss.getD k ld0).1) else wrst a b ls ss k
theorem wrst_ok {a b:Int} {ls ss:List Ld} (ho:ordU ss ss.length):∀ k,k<ss.length→(∃ j,j≤k∧(ss.getD j ld0).1=(wrst a b ls ss (k+1)).1)∧(wrst a b ls ss (k+1)).2=benA a b ls (wrst a b ls ss (k+1)).1∧∀ j,j≤k→(benA a b ls (ss.getD j ld0).1).natAbs<(wrst a b ls ss (k+1)).2.natAbs∨(benA a b ls (ss.getD j ld0).1).natAbs=(wrst a b ls ss (k+1)).2.natAbs∧(wrst a b ls ss (k+1)).1≤(ss.getD j ld0).1
  | 0,hk=>by
    rw [wrst,if_pos (.inl rfl)]
    exact⟨⟨0,Nat.le_refl _,rfl⟩,rfl,fun j hj=>by
      obtain rfl:j=0:=by omega
      exact .inr ⟨rfl,Int.le_refl _⟩⟩
  | k + 1,hk=>by
    obtain⟨⟨j0,h1,h2⟩,h3,h4⟩:=wrst_ok (a:=a) (b:=b) (ls:=ls) ho k (by omega)
    have e:wrst a b ls ss (k+1+1)=if k+1=0∨(wrst a b ls ss (k+1)).2.natAbs<(benA a b ls (ss.getD (k+1) ld0).1).natAbs then ((ss.getD (k+1) ld0).1,benA a b ls (ss.getD (k+1) ld0).1) else wrst a b ls ss (k+1):=rfl
    rw [e]
    split
    · rename_i hc
      refine⟨⟨k+1,Nat.le_refl _,rfl⟩,rfl,fun j hj=>?_⟩
      by_cases hj2:j=k+1
      · subst hj2;exact .inr ⟨rfl,Int.le_refl _⟩
      · have:=h4 j (by omega)
        dsimp only
        omega
    · rename_i hc
      refine⟨⟨j0,by omega,h2⟩,h3,fun j hj=>?_⟩
      by_cases hj2:j=k+1
      · subst hj2
        have:=ho j0 (k+1) (by omega) hk
        omega
      · exact h4 j (by omega)
theorem wrst_isW{a b:Int}{ls:List Ld}(hb:BeamOk a b ls):IsW a b ls (wrst a b ls (sL ls) ls.length).1∧(wrst a b ls (sL ls) ls.length).2=benA a b ls (wrst a b ls (sL ls) ls.length).1:=by
  obtain⟨ho,hm⟩:=sL_ok ls
  have hl:=sL_len ls
  cases hn:ls.length with
  | zero=>
    have e:ls=[]:=List.length_eq_zero_iff.1 hn
    rw [wrst]
    exact⟨.inl ⟨e,rfl⟩,(benA_a hb).symm⟩
  | succ k=>
    obtain⟨⟨j0,h1,h2⟩,h3,h4⟩:=wrst_ok (a:=a) (b:=b) (ls:=ls) (ss:=sL ls) (by rw [hl];exact ho) k (by omega)
    refine⟨.inr ⟨⟨(sL ls).getD j0 ld0,(hm _).1 (getD_mem (by omega)),h2⟩,fun p hp=>?_⟩,h3⟩
    obtain⟨j,hj,rfl⟩:=List.getElem_of_mem ((hm p).2 hp)
    have e:(sL ls)[j]=(sL ls).getD j ld0:=by rw [List.getD_eq_getElem?_getD,List.getElem?_eq_getElem hj];rfl
    rw [e,←h3]
    exact h4 j (by omega)
end Go.Proofs.Ytppbjbfilkileaa
