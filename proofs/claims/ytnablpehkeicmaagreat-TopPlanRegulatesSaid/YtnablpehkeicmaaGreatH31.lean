/- contract: levers -/
import Derived.Test.YtnablpehkeicmaaGreatH30
set_option linter.unusedSimpArgs false
set_option linter.unusedVariables false
namespace Go.Proofs.YtnablpehkeicmaaGreat
open Go.RowKit
attribute [local irreducible] WA WOs WDs WAn qThen qBlock tput
set_option maxHeartbeats 1000000
set_option maxRecDepth 20000
set_option linter.unusedSimpArgs false
set_option linter.unusedVariables false
set_option maxHeartbeats 4000000
theorem rv2_{α:Type}{a b:α}(h:a=b:=by first|(simp (disch:=omega) only [resV,resVs,resOne,tupV,↓ev_move,↓ev_assign,↓ev_pick,↓ev_alloc,↓ev_box,↓ev_load,↓ev_store,↓ev_binOp,↓ev_unOp,↓ev_extract,↓ev_fieldAddr,↓ev_field,↓ev_indexAddr,↓ev_index,↓ev_makeFunc,↓ev_build,↓ev_makeSlice,↓ev_buildSlice,↓ev_convert,↓ev_len,↓ev_max,↓ev_min,↓ev_append,↓ev_slice,maxLen_eq,b_aeq,b_ane,planEq,leafEq,←Bool.decide_and,b_add,b_sub,b_mul,b_quo,b_rem,b_and,b_or,b_xor,b_eql,b_neq,b_lss,b_leq,b_gtr,b_geq,b_sadd,b_seql,b_sneq,u_not,u_neg,okO_some,okR_eq,↓evO_tmp,↓evO_const,↓evO_func,ofC_int,ofC_bool,ofC_nilsl,ofC_nilptr,ofC_nilfn,ofC_nilmap,ofC_nilif,ofC_str,tput_some,tput_none,i64w,u64w,Int.one_mul,Int.tdiv_eq_ediv_of_nonneg,ne_eq,not_false_eq_true,not_true_eq_false,Int.reduceEq,↓tg_c,tg_n,↓reduceIte,Nat.reduceEqDiff,true_and,and_true,evMax,evMin,reduceCtorEq,Nat.succ_ne_zero,Nat.zero_ne_one,Nat.one_ne_zero,Bool.not_true,Bool.not_false,argT,Nat.reduceAdd,pickT,List.map_cons,List.map_nil,Nat.reduceMul,Nat.reduceSub,Nat.reduceLT,Nat.reduceLeDiff,Nat.lt_irrefl,Int.reduceToNat,Int.reduceLT,Int.reduceLE,Int.reduceNeg,Int.reduceAdd,Int.reduceMul,Int.toNat_zero,Int.toNat_one,decide_true,decide_false,and_self,List.length_cons,List.length_nil,List.getElem?_cons_zero,List.getElem?_cons_succ,List.drop_zero,List.drop_succ_cons,List.take_zero,List.take_succ_cons,List.take_nil,List.drop_nil,List.cons_append,List.nil_append,List.set_cons_zero,List.set_cons_succ,List.all_cons,List.all_nil,Bool.and_true,Bool.and_self,Option.map_some,List.flatten_cons,List.flatten_nil,↓mg,↓ms,↓mg0,↓ms0,ma,ma2,ml,V.one,cellsV,partV,evLoad,evStore,ldB,wrB,evStrIdx,↓ev_nilCheck,evFA,evF,evIA,evI,evBuild,fillV,setAt,evSlice,evStrSlice,bound,chunks,evLen,evAppend,elsV,beq_self_eq_true,Nat.reduceBEq,evMake,evBuildSl,repL,List.replicate_succ,List.replicate_zero,List.range_succ,List.range_zero,Option.map_none,Int.toNat_natCast,Nat.zero_add,Nat.add_zero,Nat.zero_mul,Nat.one_mul,Int.le_refl,Nat.le_refl,agT104,agT110,agT111,agT113,agT115,agT117,agT128,agT156,agT163,agT22,agT23,agT25,agT3,agT32,agT33,agT34,agT4,agT48,agT5,agT51,agT52,agT54,agT56,agT66,agT67,agT71,agT76,agT77,agT78,agT80,agT86,agT9,arT104,arT110,arT111,arT113,arT115,arT117,arT152,arT22,arT23,arT25,arT26,arT32,arT33,arT51,arT52,arT54,arT56,arT66,arT67,arT69,arT71,arT76,arT77,arT78,arT80,arT86,arT9,eqT33,eqT4,eqT9,fdT104f0,fdT104f1,fdT110f0,fdT110f1,fdT113f0,fdT115f0,fdT115f1,fdT115f2,fdT115f3,fdT115f4,fdT117f0,fdT117f1,fdT117f2,fdT117f3,fdT156f0,fdT156f1,fdT163f0,fdT25f0,fdT25f1,fdT32f0,fdT32f1,fdT32f2,fdT32f3,fdT54f0,fdT54f1,fdT54f2,fdT54f3,fdT54f4,fdT54f5,fdT56f0,fdT56f1,fdT69f0,fdT69f1,fdT69f2,fdT69f3,fdT71f0,fdT71f1,fdT80f0,fdT80f1,fdT80f2,fdT80f3,fdT86f0,fdT86f1,intT141,intT152,intT167,intT3,intT9,kdT33,kdT4,kdT9,slT111,slT122,slT152,slT22,slT23,slT26,slT3,slT33,slT51,slT52,slT66,slT67,slT76,slT77,slT78,slT9,smT110,smT115,smT117,smT156,smT3,smT32,smT33,smT5,smT54,smT66,smT71,smT86,smT9,stT104,stT110,stT113,stT115,stT117,stT25,stT32,stT54,stT56,stT69,stT71,stT80,stT86,strT111,strT122,strT152,strT22,strT23,strT26,strT3,strT33,strT51,strT52,strT66,strT67,strT76,strT77,strT78,strT9,szT104,szT110,szT111,szT113,szT115,szT117,szT128,szT156,szT163,szT22,szT23,szT25,szT3,szT32,szT33,szT34,szT4,szT48,szT5,szT51,szT52,szT54,szT56,szT66,szT67,szT69,szT71,szT76,szT77,szT78,szT80,szT86,szT9,zeT104,zeT110,zeT113,zeT115,zeT117,zeT128,zeT156,zeT163,zeT25,zeT3,zeT32,zeT33,zeT34,zeT4,zeT48,zeT5,zeT54,zeT56,zeT66,zeT69,zeT71,zeT80,zeT86,zeT9,FX]<;>exact rfl)|fail):a=b:=h
def lvK:List (List V):=[[.int .i64 0,.int .i64 1,.int .i64 0,.int .i64 1],[.int .i64 2000,.int .i64 1,.int .i64 2000,.int .i64 1]]
def evLv(x:MsR):EvR:=⟨x.name,lvB,x.val,false⟩
def leSt:List EvR→TV
  |[]=> .v .nilsl
  |_::r=> .sl 4 (r.length+1)
def leEx:List EvR→List TB
  |[]=>[]
  |p::r=>[.cells .own 117 4 ((evsV (p::r)).map (List.map TV.v))]
def leE(l:List EvR):List TB:= .cells .own 80 4 [[.v (.int .i64 0),.v .nilsl,.v .nilsl,.v .nilsl]]:: .cells .own 110 4 (lvK.map (List.map TV.v)):: .cells .own 115 5 [[.v (.str lvB),.v (.str []),.sl 1 2,.v (.int .i64 0),.v (.int .i64 0)]]:: .cells .own 80 4 [[.v (.int .i64 2000),.sl 2 1,leSt l,.v .nilsl]]::leEx l
def leS(mz:List MsR)(i:Nat):List TV:=[.v (.lst (mssV mz)),.ptr 0 0 0,.ptr 3 0 0,.v (.int .i64 i)]
theorem leE_ok{l:List EvR}:(leE l).all (TB.ok (leE l).length)=true:=by
  unfold leE
  cases l with
  |nil=>simp only [leEx,leSt,List.all_cons,TB.ok,TV.okT,List.all_nil,Bool.and_true,Bool.and_self,tv_ok,List.length_cons,List.length_nil];decide
  |cons p r=>simp only [leEx,leSt,List.all_cons,TB.ok,TV.okT,List.all_nil,Bool.and_true,Bool.and_self,tv_ok,List.length_cons,List.length_nil];decide
theorem leS_ok{l:List EvR}{mz:List MsR}{i:Nat}:(leS mz i).all (TV.okT (leE l).length)=true:=by
  unfold leE leS
  simp [TV.okT]
theorem evsV_snoc(l:List EvR)(s:List UInt8)(v:Int):evsV (l++[⟨s,lvB,v,false⟩])=evsV l++[[V.str s,V.str lvB,V.int .i64 v,V.bool false]]:=by simp [evsV,evV]
theorem evL_plain(l:List EvR):plainLL (evsV l)=true:=by
  induction l with
  |nil=>rfl
  |cons d r ih=>simpa [evsV,evV,plainLL,plainL,V.plain] using ih
theorem fin_lv{m0 D:Mem}{es:List (List V)}{c:V}{R:V→Option Mem→Prop}(hc:c= .nilsl∨c= .lst es)(hp:plainLL es=true)(hR:R (.agg [.int .i64 2000,.lst [[.str lvB,.str [],.lst lvK,.int .i64 0,.int .i64 0]],c,.nilsl]) none):Fin m0 R (.agg [.int .i64 2000,.lst [[.str lvB,.str [],.lst lvK,.int .i64 0,.int .i64 0]],c,.nilsl]) (lend m0++D):=by
  have hk:plainLL lvK=true:=rfl
  have hl:V.plain (.lst es)=true:=by simpa [V.plain] using hp
  have h2:V.plain (.lst [[.str lvB,.str [],.lst lvK,.int .i64 0,.int .i64 0]])=true:=rfl
  refine .inr ⟨D,_,rfl,?_,hR⟩
  rcases hc with rfl|rfl
  · simp [frz,frzs,V.plain,plainL,plainLL,hk]
  · simp [frz,frzs,V.plain,plainL,plainLL,hk,hp]
theorem uH31_32_5{N:Nat}{l:List Oper}{t:List (Nat×V)}{m:Mem}{Q:Exit→List (Nat×V)→Mem→Prop}(h:RgN Tryz.prog N l t m Q (fun i=>if i==14 || i==16 then .w else if i==13 then .a else if i==1 || i==6 || i==11 then .q else .p) [.one 0,.one 1,.one 2,.one 3,.one 4,.one 5,.one 6,.one 7,.one 8,.one 9,.one 10,.one 11,.one 12,.one 13,.one 14,.one 15,.one 16]):WA Tryz.prog N (.region 5 l.toArray true) t m Q:=d_rgN h
theorem tlevers_c (mz:List MsR) (hl:mz.length≤1000) (m:Mem):Gives Tryz.prog 32 [.lst (mssV mz)] m (.agg (actV (lvA (mz.map fun x=>(x.name,x.val))))):=by
  have hll:=mssV_length (l:=mz)
  suffices key:CallA Tryz.prog 32 [.lst (mssV mz)] m (fun v mo=>mo=none∧WkV v (.agg (actV (lvA (mz.map fun x=>(x.name,x.val)))))) from Gives_of key fun v mo h=>h
  refine CallA_in Tryz.func32 rfl Tryz.ntmps32 Tryz.results32 (by kernel_rfl) (by simp) fun Q hQ=>?_
  (have FX:=hll;repeat'(first|(refine sx ?_ ?_<;>intro h<;>first|(exfalso;omega)|skip)|(refine na ?_;(first|refine nb (rwhole_c _) ?_)<;>try first|omega|assumption)|refine ny ?_|refine WA_block ?_|(refine uH31_32_5 ?_;refine⟨by kernel_rfl,?_⟩)|(refine g_d ?_;(first|refine d_fnY (rwhole_c _ _) ?_)<;>try first|omega|assumption)))
  refine WA_whileT (σ:=Nat) (L:=lend m) [0,2,3,4] (fun i=>leS mz i) (fun i=>leE ((mz.take i).map evLv)) (fun i=>i≤mz.length) (fun i=>mz.length - i) 0 (Nat.zero_le _) (by simp only [leS,List.map_cons,List.map_nil,TV.inst];exact tv_) rfl (by decide) (fun _ _=>leS_ok) (fun _ _=>leE_ok) ?_
  rintro i hi B ⟨D,hB⟩ K hK
  clear FX
  rcases Nat.lt_or_ge i mz.length with hlt|hge
  · have hga:=mssV_get hlt
    have hsu:(mz.take (i+1)).map evLv=(mz.take i).map evLv++[evLv (mz.getD i msz)]:=by
      rw [List.take_succ_eq_append_getElem hlt,List.map_append]
      have:mz.getD i msz=mz[i]:=by rw [List.getD_eq_getElem?_getD,List.getElem?_eq_getElem hlt];rfl
      rw [this]
      rfl
    have hnx:=hK (i+1)
    rw [hsu] at hnx
    have hny:=fun(_:Unit)=>hnx
    have hol:((mz.take i).map evLv).length=i:=by rw [List.length_map,List.length_take];omega
    clear hnx hsu hK
    generalize mz.getD i msz=x at*
    generalize (mz.take i).map evLv=l at*
    obtain⟨nm,vl,lo,hg⟩:=x
    unfold msV at hga
    unfold evLv at hny
    dsimp only at hga hny
    have hsn:=evsV_snoc l nm vl
    cases l with
    | nil=>
      have hev:=hll
      have hlt2:=hll
      simp only [leS,leE,leSt,leEx,lvK]
      simp only [List.map_cons,List.map_nil,TB.inst,TV.inst,tv_map,zipT,List.cons_append,List.nil_append,Nat.add_zero]
      (have FX:=fx4 hll hga hev hlt2;repeat' first|(first|(refine sx ?_ ?_<;>intro h<;>first|(exfalso;omega)|skip)|refine ny ?_|refine WA_block ?_|(refine uH31_32_5 ?_;refine⟨by kernel_rfl,?_⟩))|refine d_alt ?_|refine wg_0 ?_|refine wg_b ?_|refine wg_c ?_ ?_|refine wg_n ?_|refine wm_cons ?_ ?_|exact wm_nil|refine wg_op ?_)
      all_goals(try(exfalso;omega))
      have hsn:evsV ([]++[⟨nm,lvB,vl,false⟩])=[[V.str nm,V.str lvB,V.int .i64 vl,V.bool false]]:=rfl
      all_goals((refine nextU_ hny (()) [0,1,2,3,5] (hlt) (by omega) ?_ (ht:=?_);(focus (simp only [leE,leSt,leEx,lvK,hsn,List.nil_append,List.map_cons,List.map_nil,TB.inst,TV.inst,tv_map,List.cons_append,List.nil_append];first|rfl|(simp [ptsV,ptV];done)|(simp [hpsV,hpV];done)|(simp [frsV,frV];done)|(simp [txV];done)|(simp [prtsV,prtV];done)));(simp only [leS,List.length_cons,List.map_cons,List.map_nil,TV.inst,List.getD_cons_zero,List.getD_cons_succ];exact tv_)))
    | cons p r=>
      simp only [List.length_cons] at hol
      rw [List.cons_append] at hsn
      have hev:(evsV (p::r)).length=r.length+1:=evsV_length
      have hlt2:(evsV (p::r)).take (r.length+1)=evsV (p::r):=by rw [List.take_of_length_le (by rw [hev];exact Nat.le_refl _)]
      simp only [leS,leE,leSt,leEx,lvK]
      simp only [List.map_cons,List.map_nil,TB.inst,TV.inst,tv_map,zipT,List.cons_append,List.nil_append,Nat.add_zero]
      (have FX:=fx4 hll hga hev hlt2;repeat' first|(first|(refine sx ?_ ?_<;>intro h<;>first|(exfalso;omega)|skip)|refine ny ?_|refine WA_block ?_|(refine uH31_32_5 ?_;refine⟨by kernel_rfl,?_⟩))|refine d_alt ?_|refine wg_0 ?_|refine wg_b ?_|refine wg_c ?_ ?_|refine wg_n ?_|refine wm_cons ?_ ?_|exact wm_nil|refine wg_op ?_)
      all_goals(try(exfalso;omega))
      all_goals first
        |((refine nextU_ hny (()) [0,1,2,3,6] (hlt) (by omega) ?_ (ht:=?_);(focus (simp only [leE,leSt,leEx,lvK,hsn,List.cons_append,List.length_append,List.length_cons,List.length_nil,Nat.zero_add,List.map_cons,List.map_nil,TB.inst,TV.inst,tv_map,List.cons_append,List.nil_append];first|rfl|(simp [ptsV,ptV];done)|(simp [hpsV,hpV];done)|(simp [frsV,frV];done)|(simp [txV];done)|(simp [prtsV,prtV];done)));(simp only [leS,List.length_cons,List.map_cons,List.map_nil,TV.inst,List.getD_cons_zero,List.getD_cons_succ];exact tv_)))
        |trace_state
  · obtain rfl:i=mz.length:=by omega
    clear hK
    rw [List.take_of_length_le (Nat.le_refl _)]
    have hne:∀ (a c d:Nat),(a+c=a+d)=(c=d):=fun a c d=>by simp
    have hn0:∀ (a d:Nat),(a=a+d)=(0=d):=fun a d=>by rw [eq_iff_iff];omega
    have hga:=hll
    have hev:=hll
    have hlt2:=hll
    have hact:actV (lvA (mz.map fun x=>(x.name,x.val)))=[.int .i64 2000,.lst [[.str lvB,.str [],.lst lvK,.int .i64 0,.int .i64 0]],.lst (evsV (mz.map evLv)),.lst []]:=by
      simp [actV,lvA,prtsV,prtV,lvP,rksV,rkV,lvK,evsV,evV,evLv,ldsV]
    rw [hact] at hQ
    cases hml:mz.map evLv with
    | nil=>
      rw [hml] at hQ
      simp only [leS,leE,leSt,leEx,lvK]
      simp only [List.map_cons,List.map_nil,TB.inst,TV.inst,tv_map,zipT,List.cons_append,List.nil_append,Nat.add_zero]
      refine WA_fzM (j:=1) rfl ?_
      simp (decide:=true) only [List.map_cons,List.map_nil,List.map_append,frzV,frzC,List.set_cons_succ,List.set_cons_zero,hne,hn0,Nat.reduceEqDiff,false_and,true_and,if_false,if_true,List.length_cons,List.length_nil,Nat.le_refl,List.take_succ_cons,List.take_zero]
      refine WA_fzM (j:=2) rfl ?_
      simp (decide:=true) only [List.map_cons,List.map_nil,List.map_append,frzV,frzC,List.set_cons_succ,List.set_cons_zero,hne,hn0,Nat.reduceEqDiff,false_and,true_and,if_false,if_true,List.length_cons,List.length_nil,Nat.le_refl,List.take_succ_cons,List.take_zero]
      clear hne hn0
      (have FX:=hll;repeat'(first|(refine sx ?_ ?_<;>intro h<;>first|(exfalso;omega)|skip)|refine ny ?_|refine WA_block ?_|(refine uH31_32_5 ?_;refine⟨by kernel_rfl,?_⟩)))
      all_goals(try(exfalso;omega))
      refine hQ _ _ _ (by first|exact .inl rfl|exact .inr rfl) (.agg [.int .i64 2000,.lst [[.str lvB,.str [],.lst lvK,.int .i64 0,.int .i64 0]],.nilsl,.nilsl]) ?_ ?_
      · exact rv2_
      · rw [hB,List.append_assoc]
        exact fin_lv (es:=[]) (.inl rfl) rfl ⟨rfl,wk_agg ⟨WkV.refl _,WkV.refl _,wk_nil,wk_nil,trivial⟩⟩
    | cons p r=>
      rw [hml] at hQ
      have hev2:(evsV (p::r)).length=r.length+1:=evsV_length
      have hlt3:(evsV (p::r)).take (r.length+1)=evsV (p::r):=by rw [List.take_of_length_le (by rw [hev2];exact Nat.le_refl _)]
      have hep:=evL_plain (p::r)
      simp only [leS,leE,leSt,leEx,lvK]
      simp only [List.map_cons,List.map_nil,TB.inst,TV.inst,tv_map,zipT,List.cons_append,List.nil_append,Nat.add_zero]
      generalize evsV (p::r)=ev at*
      refine WA_fzM (j:=4) rfl ?_
      simp (decide:=true) only [List.map_cons,List.map_nil,List.map_append,frzV,frzC,List.set_cons_succ,List.set_cons_zero,hne,hn0,Nat.reduceEqDiff,false_and,true_and,if_false,if_true,hev2,hlt3,Nat.le_refl]
      refine WA_fzM (j:=1) rfl ?_
      simp (decide:=true) only [List.map_cons,List.map_nil,List.map_append,frzV,frzC,List.set_cons_succ,List.set_cons_zero,hne,hn0,Nat.reduceEqDiff,false_and,true_and,if_false,if_true,List.length_cons,List.length_nil,Nat.le_refl,List.take_succ_cons,List.take_zero]
      refine WA_fzM (j:=2) rfl ?_
      simp (decide:=true) only [List.map_cons,List.map_nil,List.map_append,frzV,frzC,List.set_cons_succ,List.set_cons_zero,hne,hn0,Nat.reduceEqDiff,false_and,true_and,if_false,if_true,List.length_cons,List.length_nil,Nat.le_refl,List.take_succ_cons,List.take_zero]
      clear hne hn0
      (have FX:=hll;repeat'(first|(refine sx ?_ ?_<;>intro h<;>first|(exfalso;omega)|skip)|refine ny ?_|refine WA_block ?_|(refine uH31_32_5 ?_;refine⟨by kernel_rfl,?_⟩)))
      all_goals(try(exfalso;omega))
      refine hQ _ _ _ (by first|exact .inl rfl|exact .inr rfl) (.agg [.int .i64 2000,.lst [[.str lvB,.str [],.lst lvK,.int .i64 0,.int .i64 0]],.lst ev,.nilsl]) ?_ ?_
      · exact rv2_
      · rw [hB,List.append_assoc]
        exact fin_lv (.inr rfl) hep ⟨rfl,wk_agg ⟨WkV.refl _,WkV.refl _,WkV.refl _,wk_nil,trivial⟩⟩
end Go.Proofs.YtnablpehkeicmaaGreat
