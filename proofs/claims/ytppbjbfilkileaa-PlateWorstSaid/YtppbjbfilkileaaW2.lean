/- contracts: the values of a list, collected and sorted -/
import Derived.Test.YtppbjbfilkileaaW1
import Derived.Test.YtppbjbfilkileaaGAH
set_option linter.unusedSimpArgs false
set_option linter.unusedVariables false
namespace Go.Proofs.Ytppbjbfilkileaa
open Go.RowKit
attribute [local irreducible] WA WOs WDs WAn qThen qBlock tput
set_option maxHeartbeats 1000000
set_option maxRecDepth 20000
set_option linter.unusedSimpArgs false
set_option linter.unusedVariables false
set_option maxHeartbeats 4000000
theorem frz_clo1{m0:Mem}{fn:Fn}{s1:Sta}{t1 z1:Nat}{es:List (List V)}(h1:plainLL es=true):frz (lend m0++[.cells s1 t1 z1 [[.lst es]]]) m0.length 4 (.clo fn [] [.ptr (lend m0).length 0 0])=some (.clo fn [] [.bp [.lst es] 0]):=by
  have hl:(lend m0).length=m0.length:=by simp [lend]
  have g1:¬ (lend m0).length<m0.length:=by omega
  have e1:(lend m0++[Blk.cells s1 t1 z1 [[.lst es]]])[(lend m0).length]?=some (.cells s1 t1 z1 [[.lst es]]):=by
    rw [List.getElem?_append_right (Nat.le_refl _),Nat.sub_self];rfl
  simp only [frz,V.plain,plainL,Bool.false_and,Bool.and_false,Bool.false_eq_true,if_false,frzs,g1,e1,List.getElem?_cons_zero,h1,if_true,Option.map_some]

theorem svalues_c(ls:List Ld)(m:Mem):Gives Try.prog 45 [.lst (ldsV ls)] m (.clo (.func 60) [] [.bp [.lst (ldsV ls)] 0]):=by
  refine CallA_in Try.func45 rfl Try.ntmps45 Try.results45 (by kernel_rfl) (by simp) fun Q hQ=>?_
  (repeat'(first|(refine sx ?_ ?_<;>intro h<;>first|(exfalso;omega)|skip)|refine ny ?_|refine WA_block ?_))
  all_goals(refine r_esA hQ (.inr ⟨_,_,rfl,frz_clo1 (ldsV_plain ls),⟨rfl,rfl⟩⟩))

/-- the values, told to one who goes on -/
theorem svals1_all(ls:List Ld)(hl:ls.length≤1000)(lp:Nat)(M:Mem)(R:V→Option Mem→Prop)
    (I:Nat→Mem→Prop) (h0:I 0 M) (hn:∀ M',I ls.length M'→R (.tup []) (some M'))
    (hy:∀ i M',i<ls.length→I i M'→∀ x (R':V→Option Mem→Prop),(∀ M2,I (i+1) M2→R' (.bool true) (some M2))→YieldA Try.prog lp [.agg (ldV (ls.getD i ld0))] (M'++[x]) R'):
    CallA Try.prog 60 [.clo (.yield lp) [] [],.bp [.lst (ldsV ls)] 0] M R:=by
  have hlm:=ldsV_length (ls:=ls)
  have hga:=hlm
  refine CallA_inD Try.func60 rfl Try.ntmps60 Try.results60 (by kernel_rfl) (by simp) fun Q hQ=>?_
  (have FX:=And.intro hlm hga;repeat'(first|(refine sx ?_ ?_<;>intro h<;>first|(exfalso;omega)|skip)|refine ny ?_|refine WA_block ?_))
  all_goals(try(exfalso;omega))
  refine WA_while (σ:=Nat×Mem) [0,1,5,6,7] (fun s=>[.clo (.yield lp) [] [],.bp [.lst (ldsV ls)] 0,.lst (ldsV ls),.int .i64 ls.length,.int .i64 s.1]) (fun s=>s.2) (fun s=>s.1≤ls.length∧I s.1 s.2) (fun s=>ls.length - s.1) (0,M) ⟨Nat.zero_le _,h0⟩ tv_ (by simp) ?_
  rintro⟨i,M'⟩ ⟨hi1,hI⟩ K hK
  dsimp only at hi1 hI
  simp only [zipT]
  clear FX hga
  rcases Nat.lt_or_ge i ls.length with hi|hi
  · have hga:=lds_get hi
    have hyi:=hy i M' hi hI
    generalize ls.getD i ld0=x at *
    obtain⟨px,pw⟩:=x
    unfold ldV at hga hyi
    dsimp only at hga hyi
    rw [show M'=M'++[] from(List.append_nil _).symm]
    (have FX:=And.intro hlm hga;repeat'(first|(refine sx ?_ ?_<;>intro h<;>first|(exfalso;omega)|skip)|refine ny ?_|refine WA_block ?_))
    all_goals(try(exfalso;omega))
    refine g_op ?_
    refine s_yld ((hyi _ _ fun M2 h2=>?_))
    simp only [Option.getD_some]
    (have FX:=And.intro hlm hga;repeat'(first|(refine sx ?_ ?_<;>intro h<;>first|(exfalso;omega)|skip)|refine ny ?_|refine WA_block ?_))
    all_goals(refine next_ hK (i+1,M2) ⟨hi,h2⟩ (by dsimp only;omega))
  · obtain rfl:i=ls.length:=by omega
    have hga:=hlm
    (have FX:=And.intro hlm hga;repeat'(first|(refine sx ?_ ?_<;>intro h<;>first|(exfalso;omega)|skip)|refine ny ?_|refine WA_block ?_))
    all_goals(try(exfalso;omega))
    all_goals(exact hQ _ _ _ (by first|exact .inl rfl|exact .inr rfl) _ rfl (hn _ hI))
/-- the memory of one who collects -/
def apL(L:Mem)(LB:Blk)(ls:List Ld)(i:Nat)(M:Mem):Prop:=(i=0∧∃ X:Mem,M=L++(.cells .own 59 1 [[.nilsl]]::LB::X))∨(i≠0∧∃ X:Mem,M=L++(.cells .own 59 1 [[.sl (L.length+(X.length+2)) i]]::LB::(X++[.cells .own 89 2 (ldsV (ls.take i))])))
theorem apL_at{L:Mem}{LB:Blk}{ls:List Ld}{i:Nat}{M:Mem}(h:apL L LB ls i M):M[L.length+1]?=some LB:=by
  rcases h with ⟨_,X,rfl⟩|⟨_,X,rfl⟩<;>simp
theorem apL_set{L:Mem}{LB LC:Blk}{ls:List Ld}{i:Nat}{M:Mem}(h:apL L LB ls i M):apL L LC ls i (M.set (L.length+1) LC):=by
  rcases h with ⟨h0,X,rfl⟩|⟨h0,X,rfl⟩
  · exact .inl ⟨h0,X,by simp⟩
  · exact .inr ⟨h0,X,by simp⟩
/-- what collecting hands over -/
def apR(ls:List Ld)(m:Mem)(v:V)(mo:Option Mem):Prop:=(ls=[]∧v= .nilsl∧∃ D:Mem,mo=some (m++D))∨(ls≠[]∧∃ D:Mem,v= .sl (m.length+D.length) ls.length∧mo=some (m++(D++[.cells .own 89 2 (ldsV ls)])))

theorem wappendseq_o (ls:List Ld) (hl:ls.length≤1000) (m:Mem):CallA Try.prog 65 [.nilsl,.clo (.func 60) [] [.bp [.lst (ldsV ls)] 0]] m (apR ls m):=by
  have hll:=hl
  have hlt:=hl
  have hgj:=hl
  have hsj:=hl
  refine CallA_inO Try.func65 rfl Try.ntmps65 Try.results65 (by kernel_rfl) (by simp) fun Q hQ=>?_
  (have FX:=And.intro hll (And.intro hlt (And.intro hgj hsj));repeat'(first|(refine sx ?_ ?_<;>intro h<;>first|(exfalso;omega)|skip)|refine ny ?_|refine WA_block ?_))
  refine WA_rfA (fun m'=>apL (lend m) .dead ls ls.length m') (fun _ _=>False) (fun lp LB LL LD hY=>?_) (fun m' hm=>?_) (fun c m' hm=>hm.elim)
  · refine svals1_all ls hl lp _ _ (fun i M=>apL (lend m) LB ls i M) (.inl ⟨rfl,[],by simp⟩) ?_ ?_
    · intro M' h
      refine⟨M',rfl,.inl ⟨?_,?_⟩⟩
      · have:=apL_at h;simpa using this
      · have:=apL_set (LC:= .dead) h;simpa using this
    · intro i M' hi h x R' hR
      have hsn:ldsV (ls.take (i+1))=ldsV (ls.take i)++[ldV (ls.getD i ld0)]:=by
        rw [List.take_succ_eq_append_getElem hi,lds_snoc]
        have:ls.getD i ld0=ls[i]:=by rw [List.getD_eq_getElem?_getD,List.getElem?_eq_getElem hi];rfl
        rw [this]
      have hti:(ls.take i).length=i:=by rw [List.length_take];omega
      have hlo:(ldsV (ls.take i)).length=i:=by rw [ldsV_length,hti]
      unfold apL at hR
      rw [hsn] at hR
      generalize ls.getD i ld0=y at *
      obtain⟨px,pw⟩:=y
      unfold ldV at *
      dsimp only at *
      rcases h with ⟨h0,X,rfl⟩|⟨h0,X,rfl⟩
      · subst h0
        have hsp:lend m++(Blk.cells .own 59 1 [[.nilsl]]::LB::X)++[x]=(lend m++[Blk.cells .own 59 1 [[.nilsl]]])++LB::(X++[x]):=by simp
        rw [hsp]
        refine hY _ _ _ R' rfl ?_
        simp only [setPs,List.append_assoc,List.cons_append,List.nil_append]
        (have FX:=And.intro hll (And.intro hlt (And.intro hgj hsj));repeat'(first|(refine sx ?_ ?_<;>intro h<;>first|(exfalso;omega)|skip)|refine ny ?_|refine WA_block ?_))
        refine⟨rfl,by simp,?_⟩
        (have FX:=And.intro hll (And.intro hlt (And.intro hgj hsj));repeat'(first|(refine sx ?_ ?_<;>intro h<;>first|(exfalso;omega)|skip)|refine ny ?_|refine WA_block ?_))
        refine rndQ_nrm (A:=lend m++[.cells .own 59 1 [[.sl ((lend m).length+(X.length+3+1+1)) 1]]]) (X:=X++[x,Blk.cells .own 89 2 [[V.int .i64 px,V.int .i64 pw]],Blk.cells .own 89 2 [[V.int .i64 px,V.int .i64 pw]],Blk.cells .own 89 2 [[V.int .i64 px,V.int .i64 pw]]])
          (by simp) (by simp) (hR _ (.inr ⟨by simp,X++[x,Blk.cells .own 89 2 [[V.int .i64 px,V.int .i64 pw]],Blk.cells .own 89 2 [[V.int .i64 px,V.int .i64 pw]]],by simp [ldsV,Nat.add_assoc]⟩))
      · generalize ldsV (ls.take i)=es at *
        obtain⟨k,rfl⟩:∃ k,i=k+1:=⟨i - 1,by omega⟩
        have hll:es.length=k+1:=hlo
        have hlt:es.take (k+1)=es:=by rw [List.take_of_length_le (by rw [hll];exact Nat.le_refl _)]
        have hgj:∀ Y:Mem,(X++(Blk.cells .own 89 2 es::Y))[X.length]?=some (.cells .own 89 2 es):=fun Y=>by simp
        have hsj:∀ (Y:Mem) (z:Blk),(X++(Blk.cells .own 89 2 es::Y)).set X.length z=X++(z::Y):=fun Y z=>by simp
        have hsp:lend m++(Blk.cells .own 59 1 [[.sl ((lend m).length+(X.length+2)) (k+1)]]::LB::(X++[.cells .own 89 2 es]))++[x]=(lend m++[Blk.cells .own 59 1 [[.sl ((lend m).length+(X.length+2)) (k+1)]]])++LB::(X++(.cells .own 89 2 es::[x])):=by simp
        rw [hsp]
        refine hY _ _ _ R' rfl ?_
        simp only [setPs,List.append_assoc,List.cons_append,List.nil_append]
        (have FX:=And.intro hll (And.intro hlt (And.intro hgj hsj));repeat'(first|(refine sx ?_ ?_<;>intro h<;>first|(exfalso;omega)|skip)|refine ny ?_|refine WA_block ?_))
        refine⟨rfl,by simp,?_⟩
        (have FX:=And.intro hll (And.intro hlt (And.intro hgj hsj));repeat'(first|(refine sx ?_ ?_<;>intro h<;>first|(exfalso;omega)|skip)|refine ny ?_|refine WA_block ?_))
        refine rndQ_nrm (A:=lend m++[.cells .own 59 1 [[.sl ((lend m).length+(X.length+4+1+1)) (k+1+1)]]]) (X:=X++[.dead,x,Blk.cells .own 89 2 [[V.int .i64 px,V.int .i64 pw]],Blk.cells .own 89 2 [[V.int .i64 px,V.int .i64 pw]],.cells .own 89 2 (es++[[V.int .i64 px,V.int .i64 pw]])])
          (by simp) (by simp) (hR _ (.inr ⟨by simp,X++[.dead,x,Blk.cells .own 89 2 [[V.int .i64 px,V.int .i64 pw]],Blk.cells .own 89 2 [[V.int .i64 px,V.int .i64 pw]]],by simp [Nat.add_assoc]⟩))
  · clear FX hll hlt hgj hsj
    have hll:=hl
    have hlt:=hl
    have hgj:=hl
    have hsj:=hl
    rcases hm with ⟨h0,X,rfl⟩|⟨h0,X,rfl⟩
    · have h0:ls=[]:=List.length_eq_zero_iff.1 h0
      (have FX:=And.intro hll (And.intro hlt (And.intro hgj hsj));repeat'(first|(refine sx ?_ ?_<;>intro h<;>first|(exfalso;omega)|skip)|refine ny ?_|refine WA_block ?_))
      refine hQ _ _ _ (by first|exact .inl rfl|exact .inr rfl) .nilsl ?_ ⟨_,rfl,.inl ⟨h0,rfl,_,rfl⟩⟩
      simp (disch:=omega) only [resV,resVs,resOne,tupV,↓ev_move,↓ev_assign,↓ev_pick,↓ev_alloc,↓ev_box,↓ev_load,↓ev_store,↓ev_binOp,↓ev_unOp,↓ev_extract,↓ev_fieldAddr,↓ev_field,↓ev_indexAddr,↓ev_index,↓ev_makeFunc,↓ev_build,↓ev_makeSlice,↓ev_buildSlice,↓ev_convert,↓ev_len,↓ev_max,↓ev_min,↓ev_append,↓ev_slice,maxLen_eq,b_aeq,b_ane,planEq,leafEq,←Bool.decide_and,b_add,b_sub,b_mul,b_quo,b_rem,b_and,b_or,b_xor,b_eql,b_neq,b_lss,b_leq,b_gtr,b_geq,b_sadd,b_seql,b_sneq,u_not,u_neg,okO_some,okR_eq,↓evO_tmp,↓evO_const,↓evO_func,ofC_int,ofC_bool,ofC_nilsl,ofC_nilptr,ofC_nilfn,ofC_nilmap,ofC_nilif,ofC_str,tput_some,tput_none,i64w,u64w,Int.one_mul,Int.tdiv_eq_ediv_of_nonneg,ne_eq,not_false_eq_true,not_true_eq_false,Int.reduceEq,↓tg_c,tg_n,↓reduceIte,Nat.reduceEqDiff,true_and,and_true,evMax,evMin,reduceCtorEq,Nat.succ_ne_zero,Nat.zero_ne_one,Nat.one_ne_zero,Bool.not_true,Bool.not_false,argT,Nat.reduceAdd,pickT,List.map_cons,List.map_nil,Nat.reduceMul,Nat.reduceSub,Nat.reduceLT,Nat.reduceLeDiff,Nat.lt_irrefl,Int.reduceToNat,Int.reduceLT,Int.reduceLE,Int.reduceNeg,Int.reduceAdd,Int.reduceMul,Int.toNat_zero,Int.toNat_one,decide_true,decide_false,and_self,List.length_cons,List.length_nil,List.getElem?_cons_zero,List.getElem?_cons_succ,List.drop_zero,List.drop_succ_cons,List.take_zero,List.take_succ_cons,List.take_nil,List.drop_nil,List.cons_append,List.nil_append,List.set_cons_zero,List.set_cons_succ,List.all_cons,List.all_nil,Bool.and_true,Bool.and_self,Option.map_some,List.flatten_cons,List.flatten_nil,↓mg,↓ms,↓mg0,↓ms0,ma,ma2,ml,V.one,cellsV,partV,evLoad,evStore,ldB,wrB,evStrIdx,↓ev_nilCheck,evFA,evF,evIA,evI,evBuild,fillV,setAt,evSlice,evStrSlice,bound,chunks,evLen,evAppend,elsV,beq_self_eq_true,Nat.reduceBEq,evMake,evBuildSl,repL,List.replicate_succ,List.replicate_zero,List.range_succ,List.range_zero,Option.map_none,Int.toNat_natCast,Nat.zero_add,Nat.add_zero,Nat.zero_mul,Nat.one_mul,Int.le_refl,Nat.le_refl,agT119,agT23,agT29,agT3,agT45,agT46,agT49,agT54,agT57,agT59,agT61,agT73,agT89,arT24,arT29,arT45,arT46,arT49,arT50,arT53,arT54,arT57,arT59,arT61,arT73,arT84,arT89,arT9,eqT29,eqT4,eqT45,eqT73,fdT23f0,fdT23f1,fdT23f2,fdT29f0,fdT29f1,fdT45f0,fdT45f1,fdT57f0,fdT57f1,fdT57f2,fdT57f3,fdT57f4,fdT61f0,fdT61f1,fdT84f0,fdT84f1,intT106,intT117,intT119,intT3,intT5,intT98,kdT29,kdT4,kdT45,kdT73,slT24,slT3,slT46,slT49,slT50,slT53,slT54,slT59,slT73,slT89,slT9,smT29,smT3,smT54,smT89,stT29,stT45,stT49,stT54,stT57,stT61,stT73,stT84,strT24,strT3,strT50,strT53,strT59,strT73,szT119,szT23,szT29,szT3,szT4,szT45,szT46,szT49,szT54,szT57,szT59,szT61,szT73,szT84,szT89,zeT119,zeT29,zeT3,zeT45,zeT46,zeT49,zeT54,zeT57,zeT61,zeT73,zeT84,zeT89,FX]
    · rw [List.take_of_length_le (Nat.le_refl _)]
      have h0:ls≠[]:=fun h=>h0 (by rw [h];rfl)
      (have FX:=And.intro hll (And.intro hlt (And.intro hgj hsj));repeat'(first|(refine sx ?_ ?_<;>intro h<;>first|(exfalso;omega)|skip)|refine ny ?_|refine WA_block ?_))
      refine hQ _ _ _ (by first|exact .inl rfl|exact .inr rfl) (.sl ((lend m).length+(X.length+2)) ls.length) ?_ ⟨_,rfl,.inr ⟨h0,Blk.cells .own 59 1 [[.sl ((lend m).length+(X.length+2)) ls.length]]:: .dead::X,?_,by simp⟩⟩
      · simp (disch:=omega) only [resV,resVs,resOne,tupV,↓ev_move,↓ev_assign,↓ev_pick,↓ev_alloc,↓ev_box,↓ev_load,↓ev_store,↓ev_binOp,↓ev_unOp,↓ev_extract,↓ev_fieldAddr,↓ev_field,↓ev_indexAddr,↓ev_index,↓ev_makeFunc,↓ev_build,↓ev_makeSlice,↓ev_buildSlice,↓ev_convert,↓ev_len,↓ev_max,↓ev_min,↓ev_append,↓ev_slice,maxLen_eq,b_aeq,b_ane,planEq,leafEq,←Bool.decide_and,b_add,b_sub,b_mul,b_quo,b_rem,b_and,b_or,b_xor,b_eql,b_neq,b_lss,b_leq,b_gtr,b_geq,b_sadd,b_seql,b_sneq,u_not,u_neg,okO_some,okR_eq,↓evO_tmp,↓evO_const,↓evO_func,ofC_int,ofC_bool,ofC_nilsl,ofC_nilptr,ofC_nilfn,ofC_nilmap,ofC_nilif,ofC_str,tput_some,tput_none,i64w,u64w,Int.one_mul,Int.tdiv_eq_ediv_of_nonneg,ne_eq,not_false_eq_true,not_true_eq_false,Int.reduceEq,↓tg_c,tg_n,↓reduceIte,Nat.reduceEqDiff,true_and,and_true,evMax,evMin,reduceCtorEq,Nat.succ_ne_zero,Nat.zero_ne_one,Nat.one_ne_zero,Bool.not_true,Bool.not_false,argT,Nat.reduceAdd,pickT,List.map_cons,List.map_nil,Nat.reduceMul,Nat.reduceSub,Nat.reduceLT,Nat.reduceLeDiff,Nat.lt_irrefl,Int.reduceToNat,Int.reduceLT,Int.reduceLE,Int.reduceNeg,Int.reduceAdd,Int.reduceMul,Int.toNat_zero,Int.toNat_one,decide_true,decide_false,and_self,List.length_cons,List.length_nil,List.getElem?_cons_zero,List.getElem?_cons_succ,List.drop_zero,List.drop_succ_cons,List.take_zero,List.take_succ_cons,List.take_nil,List.drop_nil,List.cons_append,List.nil_append,List.set_cons_zero,List.set_cons_succ,List.all_cons,List.all_nil,Bool.and_true,Bool.and_self,Option.map_some,List.flatten_cons,List.flatten_nil,↓mg,↓ms,↓mg0,↓ms0,ma,ma2,ml,V.one,cellsV,partV,evLoad,evStore,ldB,wrB,evStrIdx,↓ev_nilCheck,evFA,evF,evIA,evI,evBuild,fillV,setAt,evSlice,evStrSlice,bound,chunks,evLen,evAppend,elsV,beq_self_eq_true,Nat.reduceBEq,evMake,evBuildSl,repL,List.replicate_succ,List.replicate_zero,List.range_succ,List.range_zero,Option.map_none,Int.toNat_natCast,Nat.zero_add,Nat.add_zero,Nat.zero_mul,Nat.one_mul,Int.le_refl,Nat.le_refl,agT119,agT23,agT29,agT3,agT45,agT46,agT49,agT54,agT57,agT59,agT61,agT73,agT89,arT24,arT29,arT45,arT46,arT49,arT50,arT53,arT54,arT57,arT59,arT61,arT73,arT84,arT89,arT9,eqT29,eqT4,eqT45,eqT73,fdT23f0,fdT23f1,fdT23f2,fdT29f0,fdT29f1,fdT45f0,fdT45f1,fdT57f0,fdT57f1,fdT57f2,fdT57f3,fdT57f4,fdT61f0,fdT61f1,fdT84f0,fdT84f1,intT106,intT117,intT119,intT3,intT5,intT98,kdT29,kdT4,kdT45,kdT73,slT24,slT3,slT46,slT49,slT50,slT53,slT54,slT59,slT73,slT89,slT9,smT29,smT3,smT54,smT89,stT29,stT45,stT49,stT54,stT57,stT61,stT73,stT84,strT24,strT3,strT50,strT53,strT59,strT73,szT119,szT23,szT29,szT3,szT4,szT45,szT46,szT49,szT54,szT57,szT59,szT61,szT73,szT84,szT89,zeT119,zeT29,zeT3,zeT45,zeT46,zeT49,zeT54,zeT57,zeT61,zeT73,zeT84,zeT89,FX]
      · rw [lend_len];rfl

theorem wcollect_o(ls:List Ld)(hl:ls.length≤1000)(m:Mem):CallA Try.prog 58 [.clo (.func 60) [] [.bp [.lst (ldsV ls)] 0]] m (apR ls m):=by
  have hap:=fun m=>wappendseq_o ls hl m
  have FX:=hl
  refine CallA_inO Try.func58 rfl Try.ntmps58 Try.results58 (by kernel_rfl) (by simp) fun Q hQ=>?_
  (repeat'(first|(refine sx ?_ ?_<;>intro h<;>first|(exfalso;omega)|skip)|refine ny ?_|refine WA_block ?_))
  refine g_op ?_;refine g_call ?_;refine g_args ?_;refine s_fnA (hap _) ?_
  rintro v mo (⟨h0,rfl,D,rfl⟩|⟨h0,D,rfl,rfl⟩)
  all_goals simp only [Option.getD_some]
  all_goals(repeat'(first|(refine sx ?_ ?_<;>intro h<;>first|(exfalso;omega)|skip)|refine ny ?_|refine WA_block ?_))
  · refine hQ _ _ _ (by first|exact .inl rfl|exact .inr rfl) .nilsl ?_ ⟨D,by simp,.inl ⟨h0,rfl,_,rfl⟩⟩
    simp (disch:=omega) only [resV,resVs,resOne,tupV,↓ev_move,↓ev_assign,↓ev_pick,↓ev_alloc,↓ev_box,↓ev_load,↓ev_store,↓ev_binOp,↓ev_unOp,↓ev_extract,↓ev_fieldAddr,↓ev_field,↓ev_indexAddr,↓ev_index,↓ev_makeFunc,↓ev_build,↓ev_makeSlice,↓ev_buildSlice,↓ev_convert,↓ev_len,↓ev_max,↓ev_min,↓ev_append,↓ev_slice,maxLen_eq,b_aeq,b_ane,planEq,leafEq,←Bool.decide_and,b_add,b_sub,b_mul,b_quo,b_rem,b_and,b_or,b_xor,b_eql,b_neq,b_lss,b_leq,b_gtr,b_geq,b_sadd,b_seql,b_sneq,u_not,u_neg,okO_some,okR_eq,↓evO_tmp,↓evO_const,↓evO_func,ofC_int,ofC_bool,ofC_nilsl,ofC_nilptr,ofC_nilfn,ofC_nilmap,ofC_nilif,ofC_str,tput_some,tput_none,i64w,u64w,Int.one_mul,Int.tdiv_eq_ediv_of_nonneg,ne_eq,not_false_eq_true,not_true_eq_false,Int.reduceEq,↓tg_c,tg_n,↓reduceIte,Nat.reduceEqDiff,true_and,and_true,evMax,evMin,reduceCtorEq,Nat.succ_ne_zero,Nat.zero_ne_one,Nat.one_ne_zero,Bool.not_true,Bool.not_false,argT,Nat.reduceAdd,pickT,List.map_cons,List.map_nil,Nat.reduceMul,Nat.reduceSub,Nat.reduceLT,Nat.reduceLeDiff,Nat.lt_irrefl,Int.reduceToNat,Int.reduceLT,Int.reduceLE,Int.reduceNeg,Int.reduceAdd,Int.reduceMul,Int.toNat_zero,Int.toNat_one,decide_true,decide_false,and_self,List.length_cons,List.length_nil,List.getElem?_cons_zero,List.getElem?_cons_succ,List.drop_zero,List.drop_succ_cons,List.take_zero,List.take_succ_cons,List.take_nil,List.drop_nil,List.cons_append,List.nil_append,List.set_cons_zero,List.set_cons_succ,List.all_cons,List.all_nil,Bool.and_true,Bool.and_self,Option.map_some,List.flatten_cons,List.flatten_nil,↓mg,↓ms,↓mg0,↓ms0,ma,ma2,ml,V.one,cellsV,partV,evLoad,evStore,ldB,wrB,evStrIdx,↓ev_nilCheck,evFA,evF,evIA,evI,evBuild,fillV,setAt,evSlice,evStrSlice,bound,chunks,evLen,evAppend,elsV,beq_self_eq_true,Nat.reduceBEq,evMake,evBuildSl,repL,List.replicate_succ,List.replicate_zero,List.range_succ,List.range_zero,Option.map_none,Int.toNat_natCast,Nat.zero_add,Nat.add_zero,Nat.zero_mul,Nat.one_mul,Int.le_refl,Nat.le_refl,agT119,agT23,agT29,agT3,agT45,agT46,agT49,agT54,agT57,agT59,agT61,agT73,agT89,arT24,arT29,arT45,arT46,arT49,arT50,arT53,arT54,arT57,arT59,arT61,arT73,arT84,arT89,arT9,eqT29,eqT4,eqT45,eqT73,fdT23f0,fdT23f1,fdT23f2,fdT29f0,fdT29f1,fdT45f0,fdT45f1,fdT57f0,fdT57f1,fdT57f2,fdT57f3,fdT57f4,fdT61f0,fdT61f1,fdT84f0,fdT84f1,intT106,intT117,intT119,intT3,intT5,intT98,kdT29,kdT4,kdT45,kdT73,slT24,slT3,slT46,slT49,slT50,slT53,slT54,slT59,slT73,slT89,slT9,smT29,smT3,smT54,smT89,stT29,stT45,stT49,stT54,stT57,stT61,stT73,stT84,strT24,strT3,strT50,strT53,strT59,strT73,szT119,szT23,szT29,szT3,szT4,szT45,szT46,szT49,szT54,szT57,szT59,szT61,szT73,szT84,szT89,zeT119,zeT29,zeT3,zeT45,zeT46,zeT49,zeT54,zeT57,zeT61,zeT73,zeT84,zeT89,FX]
  · refine hQ _ _ _ (by first|exact .inl rfl|exact .inr rfl) (.sl ((lend m++[]).length+D.length) ls.length) ?_ ⟨D++[.cells .own 89 2 (ldsV ls)],by simp,.inr ⟨h0,D,?_,rfl⟩⟩
    · simp (disch:=omega) only [resV,resVs,resOne,tupV,↓ev_move,↓ev_assign,↓ev_pick,↓ev_alloc,↓ev_box,↓ev_load,↓ev_store,↓ev_binOp,↓ev_unOp,↓ev_extract,↓ev_fieldAddr,↓ev_field,↓ev_indexAddr,↓ev_index,↓ev_makeFunc,↓ev_build,↓ev_makeSlice,↓ev_buildSlice,↓ev_convert,↓ev_len,↓ev_max,↓ev_min,↓ev_append,↓ev_slice,maxLen_eq,b_aeq,b_ane,planEq,leafEq,←Bool.decide_and,b_add,b_sub,b_mul,b_quo,b_rem,b_and,b_or,b_xor,b_eql,b_neq,b_lss,b_leq,b_gtr,b_geq,b_sadd,b_seql,b_sneq,u_not,u_neg,okO_some,okR_eq,↓evO_tmp,↓evO_const,↓evO_func,ofC_int,ofC_bool,ofC_nilsl,ofC_nilptr,ofC_nilfn,ofC_nilmap,ofC_nilif,ofC_str,tput_some,tput_none,i64w,u64w,Int.one_mul,Int.tdiv_eq_ediv_of_nonneg,ne_eq,not_false_eq_true,not_true_eq_false,Int.reduceEq,↓tg_c,tg_n,↓reduceIte,Nat.reduceEqDiff,true_and,and_true,evMax,evMin,reduceCtorEq,Nat.succ_ne_zero,Nat.zero_ne_one,Nat.one_ne_zero,Bool.not_true,Bool.not_false,argT,Nat.reduceAdd,pickT,List.map_cons,List.map_nil,Nat.reduceMul,Nat.reduceSub,Nat.reduceLT,Nat.reduceLeDiff,Nat.lt_irrefl,Int.reduceToNat,Int.reduceLT,Int.reduceLE,Int.reduceNeg,Int.reduceAdd,Int.reduceMul,Int.toNat_zero,Int.toNat_one,decide_true,decide_false,and_self,List.length_cons,List.length_nil,List.getElem?_cons_zero,List.getElem?_cons_succ,List.drop_zero,List.drop_succ_cons,List.take_zero,List.take_succ_cons,List.take_nil,List.drop_nil,List.cons_append,List.nil_append,List.set_cons_zero,List.set_cons_succ,List.all_cons,List.all_nil,Bool.and_true,Bool.and_self,Option.map_some,List.flatten_cons,List.flatten_nil,↓mg,↓ms,↓mg0,↓ms0,ma,ma2,ml,V.one,cellsV,partV,evLoad,evStore,ldB,wrB,evStrIdx,↓ev_nilCheck,evFA,evF,evIA,evI,evBuild,fillV,setAt,evSlice,evStrSlice,bound,chunks,evLen,evAppend,elsV,beq_self_eq_true,Nat.reduceBEq,evMake,evBuildSl,repL,List.replicate_succ,List.replicate_zero,List.range_succ,List.range_zero,Option.map_none,Int.toNat_natCast,Nat.zero_add,Nat.add_zero,Nat.zero_mul,Nat.one_mul,Int.le_refl,Nat.le_refl,agT119,agT23,agT29,agT3,agT45,agT46,agT49,agT54,agT57,agT59,agT61,agT73,agT89,arT24,arT29,arT45,arT46,arT49,arT50,arT53,arT54,arT57,arT59,arT61,arT73,arT84,arT89,arT9,eqT29,eqT4,eqT45,eqT73,fdT23f0,fdT23f1,fdT23f2,fdT29f0,fdT29f1,fdT45f0,fdT45f1,fdT57f0,fdT57f1,fdT57f2,fdT57f3,fdT57f4,fdT61f0,fdT61f1,fdT84f0,fdT84f1,intT106,intT117,intT119,intT3,intT5,intT98,kdT29,kdT4,kdT45,kdT73,slT24,slT3,slT46,slT49,slT50,slT53,slT54,slT59,slT73,slT89,slT9,smT29,smT3,smT54,smT89,stT29,stT45,stT49,stT54,stT57,stT61,stT73,stT84,strT24,strT3,strT50,strT53,strT59,strT73,szT119,szT23,szT29,szT3,szT4,szT45,szT46,szT49,szT54,szT57,szT59,szT61,szT73,szT84,szT89,zeT119,zeT29,zeT3,zeT45,zeT46,zeT49,zeT54,zeT57,zeT61,zeT73,zeT84,zeT89,FX]
    · simp [lend_len]

theorem wsorted_c(l:List Ld)(hl2:l.length≤12)(m:Mem):Gives Try.prog 44 [.clo (.func 60) [] [.bp [.lst (ldsV l)] 0],.clo (.func 46) [] []] m (.lst (ldsV (sL l))):=by
  have hco:=fun m=>wcollect_o l (by omega) m
  have hla:=ldsV_length (ls:=l)
  have hlb:(ldsV (sL l)).length=l.length:=by rw [ldsV_length,sL_len]
  by_cases h0:l=[]
  · subst h0
    refine Gives_weak (v:= .nilsl) ?_ fun _ _ _ _ h=>rel_nil h
    refine Gives_in Try.func44 rfl Try.ntmps44 Try.results44 (by kernel_rfl) (by simp) rfl fun Q hQ=>?_
    (have FX:=And.intro hla hlb;repeat'(first|(refine sx ?_ ?_<;>intro h<;>first|(exfalso;omega)|skip)|(refine g_op ?_;refine g_call ?_;refine g_args ?_;(first|refine s_fn (asortnil_c _) ?_|refine s_fnW (asort_w _ l _ rfl h1 hl2) ?_)<;>try first|omega|assumption)|refine ny ?_|refine WA_block ?_))
    refine g_op ?_;refine g_call ?_;refine g_args ?_;refine s_fnA (hco _) ?_
    rintro v mo (⟨h0,rfl,D,rfl⟩|⟨h0,D,rfl,rfl⟩)
    · simp only [Option.getD_some]
      generalize hB:lend m++[]++D=B
      (have FX:=And.intro hla hlb;repeat'(first|(refine sx ?_ ?_<;>intro h<;>first|(exfalso;omega)|skip)|(refine g_op ?_;refine g_call ?_;refine g_args ?_;(first|refine s_fn (asortnil_c _) ?_|refine s_fnW (asort_w _ l _ rfl h1 hl2) ?_)<;>try first|omega|assumption)|refine ny ?_|refine WA_block ?_))
      all_goals(refine r_es hQ ?_;try with_reducible rfl)
    · exact absurd rfl h0
  · have h1:1≤l.length:=List.length_pos_iff.2 h0
    refine CallA_in Try.func44 rfl Try.ntmps44 Try.results44 (by kernel_rfl) (by simp) fun Q hQ=>?_
    (have FX:=And.intro hla hlb;repeat'(first|(refine sx ?_ ?_<;>intro h<;>first|(exfalso;omega)|skip)|(refine g_op ?_;refine g_call ?_;refine g_args ?_;(first|refine s_fn (asortnil_c _) ?_|refine s_fnW (asort_w _ l _ rfl h1 hl2) ?_)<;>try first|omega|assumption)|refine ny ?_|refine WA_block ?_))
    refine g_op ?_;refine g_call ?_;refine g_args ?_;refine s_fnA (hco _) ?_
    rintro v mo (⟨h2,rfl,D,rfl⟩|⟨h2,D,rfl,rfl⟩)
    · exact absurd h2 h0
    · simp only [Option.getD_some,←List.append_assoc]
      have hB:lend m++[]++D=lend m++D:=by simp
      have hL:(lend m++[]).length+D.length=(lend m++D).length:=by simp
      rw [hL,hB]
      generalize hB2:lend m++D=B
      (have FX:=And.intro hla hlb;repeat'(first|(refine sx ?_ ?_<;>intro h<;>first|(exfalso;omega)|skip)|(refine g_op ?_;refine g_call ?_;refine g_args ?_;(first|refine s_fn (asortnil_c _) ?_|refine s_fnW (asort_w _ l _ rfl h1 hl2) ?_)<;>try first|omega|assumption)|refine ny ?_|refine WA_block ?_))
      refine r_esA hQ (fin_sl (j:=0) (X:=[.cells .own 89 2 (ldsV (sL l))]) hB2.symm rfl (by rw [hlb];exact Nat.le_refl _) (by rw [List.take_of_length_le (by rw [hlb];exact Nat.le_refl _)];exact ldsV_plain _) ⟨?_,rfl⟩)
      rw [List.take_of_length_le (by rw [hlb];exact Nat.le_refl _)]
end Go.Proofs.Ytppbjbfilkileaa
