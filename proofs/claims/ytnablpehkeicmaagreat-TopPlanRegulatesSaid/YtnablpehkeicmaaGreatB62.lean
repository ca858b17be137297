/- contract: a bench is copied, its lists the caller's own from then on -/
import Derived.Test.YtnablpehkeicmaaGreatB26
set_option linter.unusedSimpArgs false
set_option linter.unusedVariables false
namespace Go.Proofs.YtnablpehkeicmaaGreat
open Go.RowKit
attribute [local irreducible] WA WOs WDs WAn qThen qBlock tput
set_option maxHeartbeats 1000000
set_option maxRecDepth 20000
set_option linter.unusedSimpArgs false
set_option linter.unusedVariables false
set_option maxHeartbeats 4000000
def coE(b:BnR):Nat→List TB
  |0=>[benT b,.cells .own 25 2 [[.v .nilsl,.v .nilsl]],.cells .own 25 2 [[.sl 3 b.ms.length,.v .nilsl]],.cells .own 32 4 ((mssV b.ms).map (List.map TV.v))]
  |k+1=>[benT b,.cells .own 25 2 [[.v .nilsl,.v .nilsl]],.cells .own 25 2 [[.sl 3 b.ms.length,.sl 4 (k+1)]],.cells .own 32 4 ((mssV b.ms).map (List.map TV.v)),.cells .own 54 6 ((adsV (b.ads.take (k+1))).map (List.map TV.v))]
theorem coE_ok{b:BnR}{k:Nat}:(coE b k).all (TB.ok (coE b k).length)=true:=by
  cases k with
  |zero=>simp only [coE,benT,List.all_cons,TB.ok,TV.okT,List.all_nil,Bool.and_true,Bool.and_self,tvs_ok,List.length_cons,List.length_nil];decide
  |succ k=>simp only [coE,benT,List.all_cons,TB.ok,TV.okT,List.all_nil,Bool.and_true,Bool.and_self,tvs_ok,List.length_cons,List.length_nil];decide
theorem coS_ok{b:BnR}{k i:Nat}:(cpyS i).all (TV.okT (coE b k).length)=true:=by
  cases k with
  |zero=>simp [cpyS,coE,TV.okT]
  |succ k=>simp [cpyS,coE,TV.okT]
/-- the copy's lists lie at the end of the memory -/
def coR(b:BnR)(m:Mem)(v:V)(mo:Option Mem):Prop:=
  (b.ads=[]∧∃ D:Mem,mo=some (m++(D++[.cells .own 32 4 (mssV b.ms)]))∧v= .agg [.sl (m.length+D.length) b.ms.length,.nilsl])∨
  (b.ads≠[]∧∃ D:Mem,mo=some (m++(D++[.cells .own 32 4 (mssV b.ms),.cells .own 54 6 (adsV b.ads)]))∧v= .agg [.sl (m.length+D.length) b.ms.length,.sl (m.length+D.length+1) b.ads.length])
theorem uB62_9_6{N:Nat}{l:List Oper}{t:List (Nat×V)}{m:Mem}{Q:Exit→List (Nat×V)→Mem→Prop}(h:RgN Tryz.prog N l t m Q (fun i=>if i==8 || i==10 then .w else if i==3 then .f else if i==0 || i==6 then .a else if i==2 || i==5 then .q else .p) [.one 1,.one 2,.one 4,.one 5,.one 0,.one 3,.one 7,.one 6,.one 8,.one 9,.one 10]):WA Tryz.prog N (.region 6 l.toArray true) t m Q:=d_rgN h
theorem rcopy_o (b:BnR) (hb:Bl b) (m:Mem):CallA Tryz.prog 9 [.agg [.lst (mssV b.ms),.lst (adsV b.ads)]] m (coR b m):=by
  have hlm:=mssV_length (l:=b.ms)
  have hla:=adsV_length (l:=b.ads)
  have hma:=fun n h=>mssV_all (l:=b.ms) (n:=n) h
  have hbm:=hb.nm
  have hba:=hb.na
  have hga:=hla
  have hle:=hla
  have hea:=hla
  have hll:=hla
  have hlt:=hla
  have hct:=hla
  refine CallA_inO Tryz.func9 rfl Tryz.ntmps9 Tryz.results9 (by kernel_rfl) (by simp) fun Q hQ=>?_
  (have FX:=fx8 hlm hla hma hga hle hea hll hlt;repeat'(first|(refine sx ?_ ?_<;>intro h<;>first|(exfalso;omega)|skip)|(refine na ?_;(first|refine nb hct ?_)<;>try first|omega|assumption)|refine ny ?_|refine WA_block ?_|(refine uB62_9_6 ?_;refine⟨by kernel_rfl,?_⟩)|(refine g_d ?_;(first|refine d_fnY (hct _) ?_)<;>try first|omega|assumption)))
  all_goals(try(exfalso;omega))
  refine WA_whileJ (σ:=Nat) (L:=lend m) (X:=[.cells .own 25 2 [[.lst (mssV b.ms),.lst (adsV b.ads)]],.cells .own 25 2 [[.nilsl,.nilsl]],.dead,.cells .own 32 4 (mssV b.ms),.cells .own 25 2 [[.sl ((lend m).length+3) b.ms.length,.nilsl]]]) [1,2,3,4] (fun i=>cpyS i) (fun i=>coE b i) (fun i=>i≤b.ads.length) (fun i=>b.ads.length - i) 0 [0,1,4,3] (Nat.zero_le _) ?_ (by simp only [coE,benT,List.map_cons,List.map_nil,TB.inst,TV.inst,tv_map];rfl) rfl (by decide) (by decide) (fun _ _=>coS_ok) (fun _ _=>coE_ok) ?_
  · exact tv_
  rintro i hi1 B ⟨D,hB⟩ K hK
  clear FX hga hle hea hll hlt hct
  rcases Nat.lt_or_ge i b.ads.length with hi|hi
  · have hga:=adsV_get hi
    have hxa:=hb.ae i hi
    have hxb:=hb.aa i hi
    have hct:=fun m=>bcopytexts_c (b.ads.getD i adz).after (by omega) m
    have hle:=efsV_length (l:=(b.ads.getD i adz).effs)
    have hea:=fun n h=>efsV_all (l:=(b.ads.getD i adz).effs) (n:=n) h
    have hsn:adsV (b.ads.take (i+1))=adsV (b.ads.take i)++[adV (b.ads.getD i adz)]:=by
      rw [List.take_succ_eq_append_getElem hi]
      have:b.ads.getD i adz=b.ads[i]:=by rw [List.getD_eq_getElem?_getD,List.getElem?_eq_getElem hi];rfl
      rw [this];simp only [adsV,List.map_append,List.map_cons,List.map_nil]
    generalize b.ads.getD i adz=x at*
    unfold adV at hga hsn
    have hne:∀ (a c d:Nat),(a+c=a+d)=(c=d):=fun a c d=>by simp
    have hn0:∀ (a d:Nat),(a=a+d)=(0=d):=fun a d=>by rw [eq_iff_iff];omega
    have htp:(efsV x.effs).take x.effs.length=efsV x.effs:=List.take_of_length_le (by rw [hle];exact Nat.le_refl _)
    have hnx:=hK (i+1)
    have hny:=fun(_:Unit)=>hnx
    clear hnx hK
    cases i with
    | zero=>
      have hll:=hla
      have hlt:=hla
      simp only [cpyS,coE,benT]
      simp only [List.map_cons,List.map_nil,TB.inst,TV.inst,tv_map,zipT,List.cons_append,List.nil_append,Nat.add_zero]
      (repeat'(first|(refine sx ?_ ?_<;>intro h<;>first|(exfalso;omega)|skip)|(refine na ?_;(first|refine nb hct ?_)<;>try first|omega|assumption)|refine ny ?_|(refine uB62_9_6 ?_;refine⟨by kernel_rfl,?_⟩)|(refine g_d ?_;(first|refine d_fnY (hct _) ?_)<;>try first|omega|assumption)|fail))
      all_goals(try(exfalso;omega))
      refine WA_block ?_
      refine WA_stop fun K2 hK2=>?_
      (have FX:=fx8 hlm hla hma hga hle hea hll hlt;repeat'(first|(refine sx ?_ ?_<;>intro h<;>first|(exfalso;omega)|skip)|(refine na ?_;(first|refine nb hct ?_)<;>try first|omega|assumption)|refine ny ?_|refine WA_block ?_|(refine uB62_9_6 ?_;refine⟨by kernel_rfl,?_⟩)|(refine g_d ?_;(first|refine d_fnY (hct _) ?_)<;>try first|omega|assumption)))
      refine hK2 _ _ ?_
      clear hK2
      refine WA_stop fun K3 hK3=>?_
      (have FX:=fx8 hlm hla hma hga hle hea hll hlt;repeat'(first|(refine sx ?_ ?_<;>intro h<;>first|(exfalso;omega)|skip)|(refine na ?_;(first|refine nb hct ?_)<;>try first|omega|assumption)|refine ny ?_|refine WA_block ?_|(refine uB62_9_6 ?_;refine⟨by kernel_rfl,?_⟩)|(refine g_d ?_;(first|refine d_fnY (hct _) ?_)<;>try first|omega|assumption)))
      all_goals(try(exfalso;omega))
      refine hK3 _ _ ?_
      clear hK3
      refine WA_fzM (j:=6) rfl ?_
      simp (decide:=true) only [List.map_cons,List.map_nil,List.map_append,frzV,frzC,List.set_cons_succ,List.set_cons_zero,hne,hn0,Nat.reduceEqDiff,false_and,true_and,if_false,if_true,hle,Nat.le_refl,htp,efsV_frz,adsV_frz,mssV_frz]
      clear FX
      (have FX:=fx8 hlm hla hma hga hle hea hll hlt;repeat'(first|(refine sx ?_ ?_<;>intro h<;>first|(exfalso;omega)|skip)|(refine na ?_;(first|refine nb hct ?_)<;>try first|omega|assumption)|refine ny ?_|refine WA_block ?_|(refine uB62_9_6 ?_;refine⟨by kernel_rfl,?_⟩)|(refine g_d ?_;(first|refine d_fnY (hct _) ?_)<;>try first|omega|assumption)))
      (refine nextU_ hny (()) [0,1,2,3,8] (by omega) (by omega) ?_ (ht:=?_);(focus (simp only [coE,benT,hsn,List.map_cons,List.map_nil,TB.inst,TV.inst,tv_map,List.cons_append,List.nil_append];first|rfl|(simp [ptsV,ptV];done)|(simp [hpsV,hpV];done)|(simp [frsV,frV];done)|(simp [txV];done)|(simp [prtsV,prtV];done)));(simp only [cpyS,List.map_cons,List.map_nil,TV.inst,List.getD_cons_zero,List.getD_cons_succ];exact tv_))
    | succ i=>
      have hll:(adsV (b.ads.take (i+1))).length=i+1:=by rw [adsV_length,List.length_take];omega
      have hlt:(adsV (b.ads.take (i+1))).take (i+1)=adsV (b.ads.take (i+1)):=by rw [List.take_of_length_le (by rw [hll];exact Nat.le_refl _)]
      simp only [cpyS,coE,benT]
      simp only [List.map_cons,List.map_nil,TB.inst,TV.inst,tv_map,zipT,List.cons_append,List.nil_append,Nat.add_zero]
      (repeat'(first|(refine sx ?_ ?_<;>intro h<;>first|(exfalso;omega)|skip)|(refine na ?_;(first|refine nb hct ?_)<;>try first|omega|assumption)|refine ny ?_|(refine uB62_9_6 ?_;refine⟨by kernel_rfl,?_⟩)|(refine g_d ?_;(first|refine d_fnY (hct _) ?_)<;>try first|omega|assumption)|fail))
      all_goals(try(exfalso;omega))
      refine WA_block ?_
      refine WA_stop fun K2 hK2=>?_
      (have FX:=fx8 hlm hla hma hga hle hea hll hlt;repeat'(first|(refine sx ?_ ?_<;>intro h<;>first|(exfalso;omega)|skip)|(refine na ?_;(first|refine nb hct ?_)<;>try first|omega|assumption)|refine ny ?_|refine WA_block ?_|(refine uB62_9_6 ?_;refine⟨by kernel_rfl,?_⟩)|(refine g_d ?_;(first|refine d_fnY (hct _) ?_)<;>try first|omega|assumption)))
      refine hK2 _ _ ?_
      clear hK2
      refine WA_stop fun K3 hK3=>?_
      (have FX:=fx8 hlm hla hma hga hle hea hll hlt;repeat'(first|(refine sx ?_ ?_<;>intro h<;>first|(exfalso;omega)|skip)|(refine na ?_;(first|refine nb hct ?_)<;>try first|omega|assumption)|refine ny ?_|refine WA_block ?_|(refine uB62_9_6 ?_;refine⟨by kernel_rfl,?_⟩)|(refine g_d ?_;(first|refine d_fnY (hct _) ?_)<;>try first|omega|assumption)))
      all_goals(try(exfalso;omega))
      refine hK3 _ _ ?_
      clear hK3
      refine WA_fzM (j:=7) rfl ?_
      simp (decide:=true) only [List.map_cons,List.map_nil,List.map_append,frzV,frzC,List.set_cons_succ,List.set_cons_zero,hne,hn0,Nat.reduceEqDiff,false_and,true_and,if_false,if_true,hle,Nat.le_refl,htp,efsV_frz,adsV_frz,mssV_frz]
      clear FX
      (have FX:=fx8 hlm hla hma hga hle hea hll hlt;repeat'(first|(refine sx ?_ ?_<;>intro h<;>first|(exfalso;omega)|skip)|(refine na ?_;(first|refine nb hct ?_)<;>try first|omega|assumption)|refine ny ?_|refine WA_block ?_|(refine uB62_9_6 ?_;refine⟨by kernel_rfl,?_⟩)|(refine g_d ?_;(first|refine d_fnY (hct _) ?_)<;>try first|omega|assumption)))
      (refine nextU_ hny (()) [0,1,2,3,9] (by omega) (by omega) ?_ (ht:=?_);(focus (simp only [coE,benT,hsn,List.map_cons,List.map_nil,TB.inst,TV.inst,tv_map,List.cons_append,List.nil_append];first|rfl|(simp [ptsV,ptV];done)|(simp [hpsV,hpV];done)|(simp [frsV,frV];done)|(simp [txV];done)|(simp [prtsV,prtV];done)));(simp only [cpyS,List.map_cons,List.map_nil,TV.inst,List.getD_cons_zero,List.getD_cons_succ];exact tv_))
  · obtain rfl:i=b.ads.length:=by omega
    have hBl:B.length=m.length+D.length:=by rw [hB,List.length_append,lend_len]
    cases hk:b.ads.length with
    | zero=>
      simp only [cpyS,coE,benT]
      simp only [List.map_cons,List.map_nil,TB.inst,TV.inst,tv_map,zipT,List.cons_append,List.nil_append,Nat.add_zero]
      (have FX:=fx3 hlm hla hma;repeat'(first|(refine sx ?_ ?_<;>intro h<;>first|(exfalso;omega)|skip)|(refine na ?_;(first|refine nb hct ?_)<;>try first|omega|assumption)|refine ny ?_|refine WA_block ?_|(refine uB62_9_6 ?_;refine⟨by kernel_rfl,?_⟩)|(refine g_d ?_;(first|refine d_fnY (hct _) ?_)<;>try first|omega|assumption)))
      all_goals(try(exfalso;omega))
      have ha:b.ads=[]:=List.eq_nil_of_length_eq_zero hk
      refine hQ _ _ _ (by first|exact .inl rfl|exact .inr rfl) (.agg [.sl (B.length+3) b.ms.length,.nilsl]) ?_ ?_
      · simp (disch:=omega) only [resV,resVs,resOne,tupV,↓ev_move,↓ev_assign,↓ev_pick,↓ev_alloc,↓ev_box,↓ev_load,↓ev_store,↓ev_binOp,↓ev_unOp,↓ev_extract,↓ev_fieldAddr,↓ev_field,↓ev_indexAddr,↓ev_index,↓ev_makeFunc,↓ev_build,↓ev_makeSlice,↓ev_buildSlice,↓ev_convert,↓ev_len,↓ev_max,↓ev_min,↓ev_append,↓ev_slice,maxLen_eq,b_aeq,b_ane,planEq,leafEq,←Bool.decide_and,b_add,b_sub,b_mul,b_quo,b_rem,b_and,b_or,b_xor,b_eql,b_neq,b_lss,b_leq,b_gtr,b_geq,b_sadd,b_seql,b_sneq,u_not,u_neg,okO_some,okR_eq,↓evO_tmp,↓evO_const,↓evO_func,ofC_int,ofC_bool,ofC_nilsl,ofC_nilptr,ofC_nilfn,ofC_nilmap,ofC_nilif,ofC_str,tput_some,tput_none,i64w,u64w,Int.one_mul,Int.tdiv_eq_ediv_of_nonneg,ne_eq,not_false_eq_true,not_true_eq_false,Int.reduceEq,↓tg_c,tg_n,↓reduceIte,Nat.reduceEqDiff,true_and,and_true,evMax,evMin,reduceCtorEq,Nat.succ_ne_zero,Nat.zero_ne_one,Nat.one_ne_zero,Bool.not_true,Bool.not_false,argT,Nat.reduceAdd,pickT,List.map_cons,List.map_nil,Nat.reduceMul,Nat.reduceSub,Nat.reduceLT,Nat.reduceLeDiff,Nat.lt_irrefl,Int.reduceToNat,Int.reduceLT,Int.reduceLE,Int.reduceNeg,Int.reduceAdd,Int.reduceMul,Int.toNat_zero,Int.toNat_one,decide_true,decide_false,and_self,List.length_cons,List.length_nil,List.getElem?_cons_zero,List.getElem?_cons_succ,List.drop_zero,List.drop_succ_cons,List.take_zero,List.take_succ_cons,List.take_nil,List.drop_nil,List.cons_append,List.nil_append,List.set_cons_zero,List.set_cons_succ,List.all_cons,List.all_nil,Bool.and_true,Bool.and_self,Option.map_some,List.flatten_cons,List.flatten_nil,↓mg,↓ms,↓mg0,↓ms0,ma,ma2,ml,V.one,cellsV,partV,evLoad,evStore,ldB,wrB,evStrIdx,↓ev_nilCheck,evFA,evF,evIA,evI,evBuild,fillV,setAt,evSlice,evStrSlice,bound,chunks,evLen,evAppend,elsV,beq_self_eq_true,Nat.reduceBEq,evMake,evBuildSl,repL,List.replicate_succ,List.replicate_zero,List.range_succ,List.range_zero,Option.map_none,Int.toNat_natCast,Nat.zero_add,Nat.add_zero,Nat.zero_mul,Nat.one_mul,Int.le_refl,Nat.le_refl,agT104,agT110,agT111,agT113,agT115,agT117,agT128,agT156,agT163,agT22,agT23,agT25,agT3,agT32,agT33,agT34,agT4,agT48,agT5,agT51,agT52,agT54,agT56,agT66,agT67,agT71,agT76,agT77,agT78,agT80,agT86,agT9,arT104,arT110,arT111,arT113,arT115,arT117,arT152,arT22,arT23,arT25,arT26,arT32,arT33,arT51,arT52,arT54,arT56,arT66,arT67,arT69,arT71,arT76,arT77,arT78,arT80,arT86,arT9,eqT33,eqT4,eqT9,fdT104f0,fdT104f1,fdT110f0,fdT110f1,fdT113f0,fdT115f0,fdT115f1,fdT115f2,fdT115f3,fdT115f4,fdT117f0,fdT117f1,fdT117f2,fdT117f3,fdT156f0,fdT156f1,fdT163f0,fdT25f0,fdT25f1,fdT32f0,fdT32f1,fdT32f2,fdT32f3,fdT54f0,fdT54f1,fdT54f2,fdT54f3,fdT54f4,fdT54f5,fdT56f0,fdT56f1,fdT69f0,fdT69f1,fdT69f2,fdT69f3,fdT71f0,fdT71f1,fdT80f0,fdT80f1,fdT80f2,fdT80f3,fdT86f0,fdT86f1,intT141,intT152,intT167,intT3,intT9,kdT33,kdT4,kdT9,slT111,slT122,slT152,slT22,slT23,slT26,slT3,slT33,slT51,slT52,slT66,slT67,slT76,slT77,slT78,slT9,smT110,smT115,smT117,smT156,smT3,smT32,smT33,smT5,smT54,smT66,smT71,smT86,smT9,stT104,stT110,stT113,stT115,stT117,stT25,stT32,stT54,stT56,stT69,stT71,stT80,stT86,strT111,strT122,strT152,strT22,strT23,strT26,strT3,strT33,strT51,strT52,strT66,strT67,strT76,strT77,strT78,strT9,szT104,szT110,szT111,szT113,szT115,szT117,szT128,szT156,szT163,szT22,szT23,szT25,szT3,szT32,szT33,szT34,szT4,szT48,szT5,szT51,szT52,szT54,szT56,szT66,szT67,szT69,szT71,szT76,szT77,szT78,szT80,szT86,szT9,zeT104,zeT110,zeT113,zeT115,zeT117,zeT128,zeT156,zeT163,zeT25,zeT3,zeT32,zeT33,zeT34,zeT4,zeT48,zeT5,zeT54,zeT56,zeT66,zeT69,zeT71,zeT80,zeT86,zeT9,FX]
      · refine⟨D++_,by rw [hB,List.append_assoc],.inl ⟨ha,D++[_,_,_],by rw [List.append_assoc];rfl,?_⟩⟩
        rw [List.length_append,hBl,Nat.add_assoc]
        rfl
    | succ k=>
      simp only [cpyS,coE,benT]
      simp only [List.map_cons,List.map_nil,TB.inst,TV.inst,tv_map,zipT,List.cons_append,List.nil_append,Nat.add_zero]
      (have FX:=fx3 hlm hla hma;repeat'(first|(refine sx ?_ ?_<;>intro h<;>first|(exfalso;omega)|skip)|(refine na ?_;(first|refine nb hct ?_)<;>try first|omega|assumption)|refine ny ?_|refine WA_block ?_|(refine uB62_9_6 ?_;refine⟨by kernel_rfl,?_⟩)|(refine g_d ?_;(first|refine d_fnY (hct _) ?_)<;>try first|omega|assumption)))
      all_goals(try(exfalso;omega))
      have ht1:adsV (b.ads.take (k+1))=adsV b.ads:=by rw [List.take_of_length_le (by omega)]
      refine hQ _ _ _ (by first|exact .inl rfl|exact .inr rfl) (.agg [.sl (B.length+3) b.ms.length,.sl (B.length+4) (k+1)]) ?_ ?_
      · simp (disch:=omega) only [resV,resVs,resOne,tupV,↓ev_move,↓ev_assign,↓ev_pick,↓ev_alloc,↓ev_box,↓ev_load,↓ev_store,↓ev_binOp,↓ev_unOp,↓ev_extract,↓ev_fieldAddr,↓ev_field,↓ev_indexAddr,↓ev_index,↓ev_makeFunc,↓ev_build,↓ev_makeSlice,↓ev_buildSlice,↓ev_convert,↓ev_len,↓ev_max,↓ev_min,↓ev_append,↓ev_slice,maxLen_eq,b_aeq,b_ane,planEq,leafEq,←Bool.decide_and,b_add,b_sub,b_mul,b_quo,b_rem,b_and,b_or,b_xor,b_eql,b_neq,b_lss,b_leq,b_gtr,b_geq,b_sadd,b_seql,b_sneq,u_not,u_neg,okO_some,okR_eq,↓evO_tmp,↓evO_const,↓evO_func,ofC_int,ofC_bool,ofC_nilsl,ofC_nilptr,ofC_nilfn,ofC_nilmap,ofC_nilif,ofC_str,tput_some,tput_none,i64w,u64w,Int.one_mul,Int.tdiv_eq_ediv_of_nonneg,ne_eq,not_false_eq_true,not_true_eq_false,Int.reduceEq,↓tg_c,tg_n,↓reduceIte,Nat.reduceEqDiff,true_and,and_true,evMax,evMin,reduceCtorEq,Nat.succ_ne_zero,Nat.zero_ne_one,Nat.one_ne_zero,Bool.not_true,Bool.not_false,argT,Nat.reduceAdd,pickT,List.map_cons,List.map_nil,Nat.reduceMul,Nat.reduceSub,Nat.reduceLT,Nat.reduceLeDiff,Nat.lt_irrefl,Int.reduceToNat,Int.reduceLT,Int.reduceLE,Int.reduceNeg,Int.reduceAdd,Int.reduceMul,Int.toNat_zero,Int.toNat_one,decide_true,decide_false,and_self,List.length_cons,List.length_nil,List.getElem?_cons_zero,List.getElem?_cons_succ,List.drop_zero,List.drop_succ_cons,List.take_zero,List.take_succ_cons,List.take_nil,List.drop_nil,List.cons_append,List.nil_append,List.set_cons_zero,List.set_cons_succ,List.all_cons,List.all_nil,Bool.and_true,Bool.and_self,Option.map_some,List.flatten_cons,List.flatten_nil,↓mg,↓ms,↓mg0,↓ms0,ma,ma2,ml,V.one,cellsV,partV,evLoad,evStore,ldB,wrB,evStrIdx,↓ev_nilCheck,evFA,evF,evIA,evI,evBuild,fillV,setAt,evSlice,evStrSlice,bound,chunks,evLen,evAppend,elsV,beq_self_eq_true,Nat.reduceBEq,evMake,evBuildSl,repL,List.replicate_succ,List.replicate_zero,List.range_succ,List.range_zero,Option.map_none,Int.toNat_natCast,Nat.zero_add,Nat.add_zero,Nat.zero_mul,Nat.one_mul,Int.le_refl,Nat.le_refl,agT104,agT110,agT111,agT113,agT115,agT117,agT128,agT156,agT163,agT22,agT23,agT25,agT3,agT32,agT33,agT34,agT4,agT48,agT5,agT51,agT52,agT54,agT56,agT66,agT67,agT71,agT76,agT77,agT78,agT80,agT86,agT9,arT104,arT110,arT111,arT113,arT115,arT117,arT152,arT22,arT23,arT25,arT26,arT32,arT33,arT51,arT52,arT54,arT56,arT66,arT67,arT69,arT71,arT76,arT77,arT78,arT80,arT86,arT9,eqT33,eqT4,eqT9,fdT104f0,fdT104f1,fdT110f0,fdT110f1,fdT113f0,fdT115f0,fdT115f1,fdT115f2,fdT115f3,fdT115f4,fdT117f0,fdT117f1,fdT117f2,fdT117f3,fdT156f0,fdT156f1,fdT163f0,fdT25f0,fdT25f1,fdT32f0,fdT32f1,fdT32f2,fdT32f3,fdT54f0,fdT54f1,fdT54f2,fdT54f3,fdT54f4,fdT54f5,fdT56f0,fdT56f1,fdT69f0,fdT69f1,fdT69f2,fdT69f3,fdT71f0,fdT71f1,fdT80f0,fdT80f1,fdT80f2,fdT80f3,fdT86f0,fdT86f1,intT141,intT152,intT167,intT3,intT9,kdT33,kdT4,kdT9,slT111,slT122,slT152,slT22,slT23,slT26,slT3,slT33,slT51,slT52,slT66,slT67,slT76,slT77,slT78,slT9,smT110,smT115,smT117,smT156,smT3,smT32,smT33,smT5,smT54,smT66,smT71,smT86,smT9,stT104,stT110,stT113,stT115,stT117,stT25,stT32,stT54,stT56,stT69,stT71,stT80,stT86,strT111,strT122,strT152,strT22,strT23,strT26,strT3,strT33,strT51,strT52,strT66,strT67,strT76,strT77,strT78,strT9,szT104,szT110,szT111,szT113,szT115,szT117,szT128,szT156,szT163,szT22,szT23,szT25,szT3,szT32,szT33,szT34,szT4,szT48,szT5,szT51,szT52,szT54,szT56,szT66,szT67,szT69,szT71,szT76,szT77,szT78,szT80,szT86,szT9,zeT104,zeT110,zeT113,zeT115,zeT117,zeT128,zeT156,zeT163,zeT25,zeT3,zeT32,zeT33,zeT34,zeT4,zeT48,zeT5,zeT54,zeT56,zeT66,zeT69,zeT71,zeT80,zeT86,zeT9,FX]
      · have ha:b.ads≠[]:=fun h=>by rw [h] at hk;cases hk
        rw [ht1]
        refine⟨D++_,by rw [hB,List.append_assoc],.inr ⟨ha,D++[_,_,_],by rw [List.append_assoc];rfl,?_⟩⟩
        rw [List.length_append,hBl,hk,Nat.add_assoc,Nat.add_assoc,Nat.add_assoc]
        rfl
end Go.Proofs.YtnablpehkeicmaaGreat
