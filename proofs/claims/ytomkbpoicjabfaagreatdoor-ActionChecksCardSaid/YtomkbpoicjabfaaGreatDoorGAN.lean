import Derived.Test.YtomkbpoicjabfaaGreatDoorGAE
import Derived.Test.YtomkbpoicjabfaaGreatDoorGAG
import Derived.Test.YtomkbpoicjabfaaGreatDoorGAF
set_option linter.unusedSimpArgs false
set_option linter.unusedVariables false
/- a slice cut of a plain list, with its capacity told -/
namespace Go.Proofs.YtomkbpoicjabfaaGreatDoor
open Go.RowKit
section
variable {P:Program} {N:Nat} {t:List (Nat×V)} {m:Mem} {Q:List (Nat×V)→Mem→Prop} {ops:Array Oper} {rest:List Oper} {k:Option Nat} {ty:TypeId} {pos:String} {af:Array Edge}
theorem x_sl3 {T E:TypeId} {x lo hi mx:Operand} {es:List (List V)} {l h:Nat} {K:V→Mem→Prop} (hx:evO t x= .lst es) (hl:evO t lo= .int .i64 l) (hh:evO t hi= .int .i64 h) (hm:evO t mx= .int .i64 h) (h1:l≤h) (h2:h≤es.length) (h0:0<es.length) (hE:slT P T=some E) (hp:0<szT P E) (hs:∀ e∈es,e.length=szT P E) (hk:K (.lst ((es.drop l).take (h - l))) m):
    XOp P t m (.slice T x (some lo) (some hi) (some mx)) K:=by
  refine⟨fun c=>by simp,fun w ρ a o ho' hM hTm=>?_⟩
  have rx:=evO_rel hTm x;rw [hx] at rx
  have rl:=evO_rel hTm lo;rw [hl] at rl
  have rh:=evO_rel hTm hi;rw [hh] at rh
  have rm:=evO_rel hTm mx;rw [hm] at rm
  generalize e0:a.eval x=ex at rx
  generalize e1:a.eval lo=el at rl
  generalize e2:a.eval hi=eh at rh
  generalize e3:a.eval mx=em at rm
  cases rl
  cases rh
  cases rm
  cases rx with
  |lnil=>exact absurd h0 (by simp)
  | lst _ b off c s Y g1 g2 g3 g4 g5 g6 g7 g8=>
    have rv:=rel_sub (w:=w) (ρ:=ρ) (B:=bad m ρ) (es:=es.take h) (b:=b) (off:=off) (c:=h) (s:=szT P E) (Y:=Y) g1 g2 (by rw [List.length_take];omega) (by omega) (fun e he=>hs e (List.mem_of_mem_take he)) (fun i j e u a1 a2=>by
      have a1':es[i]?=some e:=by
        have hi:i<h:=by
          have:=(List.getElem?_eq_some_iff.1 a1).1
          rw [List.length_take] at this
          omega
        rw [List.getElem?_take_of_lt hi] at a1
        exact a1
      have:s=szT P E:=(g5 e (List.mem_of_getElem? a1')).symm.trans (hs e (List.mem_of_getElem? a1'))
      rw [←this]
      exact⟨g6 i j e u a1' a2,g7 i j e u a1' a2,g8 i j e u a1' a2⟩) (l:=l) (h:=h) h1 (by rw [List.length_take];omega)
    have el:((es.take h).drop l).take (h - l)=(es.drop l).take (h - l):=by
      rw [List.drop_take,List.take_take,Nat.min_self]
    rw [el] at rv
    refine⟨_,w,_,m,ρ,?_,hk,After.refl hM,.inl ⟨_,rfl,rv⟩⟩
    simp only [execOp,ho',Option.map_some,e0,e1,e2,e3]
    refine run_v ?_
    have b1:(Instr.sliceBound (.int .i64 (h:Int)) c .slice3Acap).run P w= .ok h w:=by
      have:=run_sliceBound (P:=P) (w:=w) (k:= .i64) (n:=(h:Int)) (y:=c) (code:= .slice3Acap) (by omega) (by omega)
      simpa using this
    have b2:(Instr.sliceBound (.int .i64 (h:Int)) h .slice3B).run P w= .ok h w:=by
      have:=run_sliceBound (P:=P) (w:=w) (k:= .i64) (n:=(h:Int)) (y:=h) (code:= .slice3B) (by omega) (by omega)
      simpa using this
    have b3:(Instr.sliceBound (.int .i64 (l:Int)) h .slice3C).run P w= .ok l w:=by
      have:=run_sliceBound (P:=P) (w:=w) (k:= .i64) (n:=(l:Int)) (y:=h) (code:= .slice3C) (by omega) (by omega)
      simpa using this
    have bb:(Instr.sliceBounds true es.length c (some (.int .i64 (l:Int))) (some (.int .i64 (h:Int))) (some (.int .i64 (h:Int)))).run P w= .ok (l,h,h) w:=by
      simp only [Instr.sliceBounds,Sem.run_bind,Sem.run_pure,Result.andThen_ok,if_true,Option.isSome_some,b1,b2,b3]
    simp only [Instr.sliceAt,Sem.run_bind,run_underlying (slT_spec hE),Result.andThen_ok,Instr.slice,bb,run_sizeOf hp,Sem.run_pure]
    split
    · simp
    · simp [addr_add]
theorem s_sl3{T E:TypeId}{x lo hi mx:Operand}{es:List (List V)}{l h:Nat}(hx:evO t x= .lst es)(hl:evO t lo= .int .i64 l)(hh:evO t hi= .int .i64 h)(hm:evO t mx= .int .i64 h)(h1:l≤h)(h2:h≤es.length)(h0:0<es.length)(hE:slT P T=some E)(hp:0<szT P E)(hs:∀ e∈es,e.length=szT P E)(hd:dOkB N k=true)(hk:WOs P N ops rest (tput t k (.lst ((es.drop l).take (h - l)))) m Q):
    WOs P N ops (⟨k,.slice T x (some lo) (some hi) (some mx),ty,pos,af,none⟩::rest) t m Q:=by
  refine WOs_x (dOk_b hd) (by simp) ?_ ?_ (x_sl3 hx hl hh hm h1 h2 h0 hE hp hs hk)
  · rfl
  · rfl
end
end Go.Proofs.YtomkbpoicjabfaaGreatDoor
namespace Go.Proofs.YtomkbpoicjabfaaGreatDoor
open Go.RowKit
attribute [local irreducible] WA WOs WDs WAn qThen qBlock tput
set_option maxHeartbeats 1000000
set_option maxRecDepth 20000
set_option linter.unusedSimpArgs false
set_option linter.unusedVariables false
set_option maxHeartbeats 4000000

theorem xchunk_o(ns:List Int)(m:Mem):CallA Tryz.prog 97 [.lst (nsV ns),.int .i64 2] m fun v mo=>v= .clo (.func 119) [] [.ptr m.length 0 0,.ptr (m.length+1) 0 0]∧mo=some (m++[.cells .own 99 1 [[.lst (nsV ns)]],.cells .own 3 1 [[.int .i64 2]]]):=by
  refine CallA_inO Tryz.func97 rfl Tryz.ntmps97 Tryz.results97 (by kernel_rfl) (by simp) fun Q hQ=>?_
  (repeat'(first|(refine sx ?_ ?_<;>intro h<;>first|(exfalso;omega)|skip)|refine ny ?_|refine WA_block ?_))
  all_goals(try(exfalso;omega))
  all_goals(refine hQ _ _ _ (by first|exact .inl rfl|exact .inr rfl) (.clo (.func 119) [] [.ptr (lend m).length 0 0,.ptr ((lend m).length+1) 0 0]) ?_ ⟨_,rfl,?_,rfl⟩)
  · simp only [resV,resVs,resOne,tupV,↓ev_move,↓ev_assign,↓ev_pick,↓ev_alloc,↓ev_box,↓ev_load,↓ev_store,↓ev_binOp,↓ev_unOp,↓ev_extract,↓ev_fieldAddr,↓ev_field,↓ev_indexAddr,↓ev_index,↓ev_makeFunc,↓ev_build,↓ev_makeSlice,↓ev_buildSlice,↓ev_convert,↓ev_len,↓ev_max,↓ev_min,↓ev_append,↓ev_slice,maxLen_eq,b_aeq,b_ane,planEq,leafEq,←Bool.decide_and,b_add,b_sub,b_mul,b_quo,b_rem,b_and,b_or,b_xor,b_eql,b_neq,b_lss,b_leq,b_gtr,b_geq,b_sadd,b_seql,b_sneq,u_not,u_neg,okO_some,okR_eq,↓evO_tmp,↓evO_const,↓evO_func,↓evO_glb,gval,ofC_int,ofC_bool,ofC_nilsl,ofC_nilptr,ofC_nilfn,ofC_nilmap,ofC_nilif,ofC_str,tput_some,tput_none,i64w,u64w,Int.one_mul,Int.tdiv_eq_ediv_of_nonneg,ne_eq,not_false_eq_true,not_true_eq_false,Int.reduceEq,↓tg_c,tg_n,↓reduceIte,Nat.reduceEqDiff,true_and,and_true,evMax,evMin,reduceCtorEq,Nat.succ_ne_zero,Nat.zero_ne_one,Nat.one_ne_zero,Bool.not_true,Bool.not_false,argT,Nat.reduceAdd,pickT,List.map_cons,List.map_nil,Nat.reduceMul,Nat.reduceSub,Nat.reduceLT,Nat.reduceLeDiff,Nat.lt_irrefl,Int.reduceToNat,Int.reduceLT,Int.reduceLE,Int.reduceNeg,Int.reduceAdd,Int.reduceMul,Int.toNat_zero,Int.toNat_one,decide_true,decide_false,and_self,List.length_cons,List.length_nil,List.getElem?_cons_zero,List.getElem?_cons_succ,List.drop_zero,List.drop_succ_cons,List.take_zero,List.take_succ_cons,List.take_nil,List.drop_nil,List.cons_append,List.nil_append,List.set_cons_zero,List.set_cons_succ,List.all_cons,List.all_nil,Bool.and_true,Bool.and_self,Option.map_some,List.flatten_cons,List.flatten_nil,↓mg,↓ms,↓mg0,↓ms0,ma,ma2,ml,V.one,cellsV,partV,evLoad,evStore,ldB,wrB,evStrIdx,↓ev_nilCheck,evFA,evF,evIA,evI,evBuild,fillV,setAt,evSlice,evStrSlice,bound,chunks,evLen,evAppend,elsV,beq_self_eq_true,Nat.reduceBEq,evMake,evBuildSl,repL,List.replicate_succ,List.replicate_zero,List.range_succ,List.range_zero,Option.map_none,Int.toNat_natCast,Nat.zero_add,Nat.add_zero,Nat.zero_mul,Nat.one_mul,Int.le_refl,Nat.le_refl,agT106,agT116,agT117,agT122,agT190,agT205,agT225,agT23,agT24,agT25,agT27,agT28,agT3,agT4,agT43,agT46,agT48,agT5,agT51,agT71,agT74,agT76,agT80,agT9,agT96,agT99,arT102,arT106,arT117,arT142,arT200,arT214,arT217,arT218,arT223,arT225,arT226,arT23,arT232,arT233,arT234,arT24,arT25,arT27,arT43,arT46,arT48,arT51,arT55,arT69,arT71,arT74,arT76,arT80,arT9,arT99,eqT116,eqT122,eqT4,eqT43,eqT51,eqT74,eqT76,eqT80,eqT9,fdT106f0,fdT106f1,fdT119f0,fdT119f1,fdT214f0,fdT214f1,fdT214f2,fdT225f0,fdT225f1,fdT232f0,fdT27f0,fdT27f1,fdT27f2,fdT27f3,fdT43f0,fdT43f1,fdT48f0,fdT69f0,fdT69f1,fdT71f0,fdT71f1,fdT71f2,fdT71f3,fdT71f4,fdT74f0,fdT74f1,fdT74f2,fdT74f3,fdT76f0,fdT76f1,fdT80f0,fdT80f1,fdT96f0,intT116,intT117,intT168,intT174,intT188,intT190,intT2,intT205,intT21,intT3,intT5,intT9,kdT116,kdT122,kdT4,kdT43,kdT51,kdT74,kdT76,kdT80,kdT9,slT102,slT117,slT142,slT159,slT200,slT217,slT218,slT223,slT226,slT23,slT233,slT234,slT24,slT25,slT3,slT46,slT55,slT9,slT99,smT106,smT3,smT43,smT5,smT71,smT74,smT76,smT80,smT9,stT106,stT214,stT217,stT225,stT226,stT232,stT233,stT234,stT27,stT43,stT48,stT51,stT69,stT71,stT74,stT76,stT80,strT102,strT117,strT142,strT159,strT200,strT218,strT23,strT24,strT25,strT3,strT46,strT55,strT9,strT99,szT106,szT116,szT117,szT122,szT190,szT205,szT214,szT217,szT225,szT226,szT23,szT232,szT233,szT234,szT24,szT25,szT27,szT28,szT3,szT4,szT43,szT46,szT48,szT5,szT51,szT69,szT71,szT74,szT76,szT80,szT9,szT96,szT99,zeT106,zeT119,zeT200,zeT205,zeT214,zeT217,zeT225,zeT226,zeT232,zeT233,zeT27,zeT28,zeT3,zeT43,zeT48,zeT5,zeT51,zeT69,zeT71,zeT74,zeT76,zeT80,zeT9,zeT96]
  · rw [lend_len]
theorem uU4_119_3{N:Nat}{l:List Oper}{t:List (Nat×V)}{m:Mem}{Q:Exit→List (Nat×V)→Mem→Prop}(h:RgN Tryz.prog N l t m Q (fun i=>if i==0 || i==1 || i==4 || i==5 then .q else .p) [.one 0,.one 1,.one 2,.one 3,.one 4,.one 5,.one 6]):WA Tryz.prog N (.region 3 l.toArray true) t m Q:=d_rgN h
theorem nsV_two{ns:List Int}{k:Nat}(h:k+2≤ns.length):((nsV ns).drop k).take (k+2 - k)=[[.int .i64 (ns.getD k 0)],[.int .i64 (ns.getD (k+1) 0)]]:=by
  have e:ns.drop k=ns.getD k 0::ns.getD (k+1) 0::ns.drop (k+2):=by
    rw [List.drop_eq_getElem_cons (by omega),List.drop_eq_getElem_cons (i:=k+1) (by omega)]
    simp [List.getD_eq_getElem?_getD,List.getElem?_eq_getElem (show k<ns.length by omega),List.getElem?_eq_getElem (show k+1<ns.length by omega)]
  rw [show k+2 - k=2 by omega]
  unfold nsV
  rw [←List.map_drop,e]
  rfl
/-- the pieces, told one after the other; the body always goes on -/
theorem xchunk1(lp b:Nat)(M:Mem)(ns:List Int)(hl0:ns.length≤1000000)(hev:ns.length % 2=0)(R:V→Option Mem→Prop)(I:Nat→Mem→Prop)(h0:I 0 M)(hb:∀ k M',I k M'→M'[b]?=some (.cells .own 99 1 [[.lst (nsV ns)]])∧M'[b+1]?=some (.cells .own 3 1 [[.int .i64 2]]))(hn:∀ M',I ns.length M'→R (.tup []) (some M'))
    (hy:∀ k M',k+2≤ns.length→k % 2=0→I k M'→∀ R':V→Option Mem→Prop,(∀ M2,I (k+2) M2→R' (.bool true) (some M2))→YieldA Tryz.prog lp [.lst [[.int .i64 (ns.getD k 0)],[.int .i64 (ns.getD (k+1) 0)]]] M' R'):
    CallA Tryz.prog 119 [.clo (.yield lp) [] [],.ptr b 0 0,.ptr (b+1) 0 0] M R:=by
  refine CallA_inD Tryz.func119 rfl Tryz.ntmps119 Tryz.results119 (by kernel_rfl) (by simp) fun Q hQ=>?_
  have hg1:=hl0
  have hg2:=hl0
  have hsl:=hl0
  have hdl:=hl0
  have hlx:=nsV_length (l:=ns)
  have hal:(nsV ns).all (fun e=>e.length==1)=true:=nsV_all rfl
  (have FX:=And.intro hg1 (And.intro hg2 (And.intro hlx (And.intro hal (And.intro hsl hdl))));repeat'(first|(refine sx ?_ ?_<;>intro h<;>first|(exfalso;omega)|skip)|refine ny ?_|refine WA_block ?_|(refine uU4_119_3 ?_;refine⟨by kernel_rfl,?_⟩)))
  refine WA_while (σ:=Nat×Mem) [0,1,2,4] (fun s=>[.clo (.yield lp) [] [],.ptr b 0 0,.ptr (b+1) 0 0,.int .i64 s.1]) (fun s=>s.2) (fun s=>(s.1≤ns.length∧s.1 % 2=0)∧I s.1 s.2) (fun s=>ns.length - s.1) (0,M) ⟨⟨Nat.zero_le _,rfl⟩,h0⟩ tv_ (by simp) ?_
  rintro⟨k,M'⟩ ⟨⟨hi1,hi2⟩,hI⟩ K hK
  dsimp only at hi1 hi2 hI
  simp only [zipT]
  clear FX hg1 hg2 hsl hdl
  obtain⟨g1,g2⟩:=hb k M' hI
  have l1:=(List.getElem?_eq_some_iff.1 g1).1
  have l2:=(List.getElem?_eq_some_iff.1 g2).1
  have hg1:∀ X:Mem,(M'++X)[b]?=some (.cells .own 99 1 [[.lst (nsV ns)]]):=fun X=>by rw [List.getElem?_append_left l1];exact g1
  have hg2:∀ X:Mem,(M'++X)[b+1]?=some (.cells .own 3 1 [[.int .i64 2]]):=fun X=>by rw [List.getElem?_append_left l2];exact g2
  rw [show M'=M'++[] from(List.append_nil _).symm]
  rcases Nat.lt_or_ge k ns.length with hlt|hge
  · have hk2:k+2≤ns.length:=by omega
    have hyi:=hy k M' hk2 hi2 hI
    have htw:=nsV_two hk2
    have hsl:List.take ((ns.length:Int) - (k:Int)).toNat (List.drop k (nsV ns))=nsV (ns.drop k):=by
      rw [List.take_of_length_le (by rw [List.length_drop,nsV_length];omega)]
      simp [nsV,List.map_drop]
    have hdl:(((nsV (ns.drop k)).length:Nat):Int)=(ns.length:Int) - k:=by rw [nsV_length,List.length_drop];omega
    (have FX:=And.intro hg1 (And.intro hg2 (And.intro hlx (And.intro hal (And.intro hsl hdl))));repeat'(first|(refine sx ?_ ?_<;>intro h<;>first|(exfalso;omega)|skip)|refine ny ?_|refine WA_block ?_|(refine uU4_119_3 ?_;refine⟨by kernel_rfl,?_⟩)))
    all_goals(try(exfalso;omega))
    have hif:(if (ns.length:Int) - (k:Int)<2 then (ns.length:Int) - (k:Int) else 2)=2:=if_neg (by omega)
    have hk3:(k:Int)+2=((k+2:Nat):Int):=by omega
    simp only [hif,hk3]
    have hsz:szT Tryz.prog 3=1:=by kernel_rfl
    refine g_op ?_
    refine s_sl3 (E:=3) (es:=nsV ns) (l:=k) (h:=k+2) (by exact lk_) (by exact lk_) (by exact lk_) (by exact lk_) (by omega) (by rw [nsV_length];omega) (by rw [nsV_length];omega) (by kernel_rfl) (by rw [hsz];decide) (fun e he=>by rw [hsz];simpa using List.all_eq_true.1 hal e he) rfl ?_
    rw [htw,List.append_nil]
    simp only [tput_some]
    refine g_op ?_
    refine s_yld (hyi _ (fun M2 h2=>?_))
    simp only [Option.getD_some]
    rw [show M2=M2++[] from(List.append_nil _).symm]
    clear FX hg1 hg2
    obtain⟨g1,g2⟩:=hb _ M2 h2
    have l1:=(List.getElem?_eq_some_iff.1 g1).1
    have l2:=(List.getElem?_eq_some_iff.1 g2).1
    have hg1:∀ X:Mem,(M2++X)[b]?=some (.cells .own 99 1 [[.lst (nsV ns)]]):=fun X=>by rw [List.getElem?_append_left l1];exact g1
    have hg2:∀ X:Mem,(M2++X)[b+1]?=some (.cells .own 3 1 [[.int .i64 2]]):=fun X=>by rw [List.getElem?_append_left l2];exact g2
    (have FX:=And.intro hg1 (And.intro hg2 (And.intro hlx (And.intro hal (And.intro hsl hdl))));repeat'(first|(refine sx ?_ ?_<;>intro h<;>first|(exfalso;omega)|skip)|refine ny ?_|refine WA_block ?_|(refine uU4_119_3 ?_;refine⟨by kernel_rfl,?_⟩)))
    rw [List.append_nil]
    exact next_ hK (k+2,M2) ⟨⟨by dsimp only;omega,by dsimp only;omega⟩,h2⟩ (by dsimp only;omega)
  · obtain rfl:k=ns.length:=by omega
    have hsl:=hlx
    have hdl:=hlx
    (have FX:=And.intro hg1 (And.intro hg2 (And.intro hlx (And.intro hal (And.intro hsl hdl))));repeat'(first|(refine sx ?_ ?_<;>intro h<;>first|(exfalso;omega)|skip)|refine ny ?_|refine WA_block ?_|(refine uU4_119_3 ?_;refine⟨by kernel_rfl,?_⟩)))
    all_goals(try(exfalso;omega))
    all_goals(refine hQ _ _ _ (by first|exact .inl rfl|exact .inr rfl) _ rfl ?_)
    all_goals(rw [List.append_nil];exact hn _ hI)
end Go.Proofs.YtomkbpoicjabfaaGreatDoor
