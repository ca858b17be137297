/- contracts: the lines of a text -/
import Derived.Test.YtomkbpoicjabfaaGreatDoorGAF
set_option linter.unusedSimpArgs false
set_option linter.unusedVariables false
namespace Go.Proofs.YtomkbpoicjabfaaGreatDoor
open Go.RowKit
attribute [local irreducible] WA WOs WDs WAn qThen qBlock tput
set_option maxHeartbeats 1000000
set_option maxRecDepth 20000
set_option linter.unusedSimpArgs false
set_option linter.unusedVariables false
set_option maxHeartbeats 4000000
/-- the first line, with its end; and what follows it -/
def ln1:Txt→Txt
  |[]=>[]
  |b::l=>if b=10 then [10] else b::ln1 l
def lnR:Txt→Txt
  |[]=>[]
  |b::l=>if b=10 then l else lnR l
theorem ln_none:∀ {s:Txt},Lib.indexByte s 10= -1→ln1 s=s∧lnR s=[]
  |[],_=>⟨rfl,rfl⟩
  | b ::l,h=>by
    unfold Lib.indexByte at h
    split at h
    · simp at h
    · rename_i hb
      have hb:b≠10:=by simpa using hb
      have hge:=Lib.indexByte_ge l 10
      have h1:Lib.indexByte l 10= -1:=by
        split at h
        · rename_i q;simpa using q
        · omega
      obtain⟨h2,h3⟩:=ln_none h1
      simp [ln1,lnR,hb,h2,h3]
theorem ln_some:∀ {s:Txt} {i:Nat},Lib.indexByte s 10=i→ln1 s=s.take (i+1)∧lnR s=s.drop (i+1)∧i+1≤s.length
  |[],i,h=>by unfold Lib.indexByte at h;omega
  | b ::l,i,h=>by
    unfold Lib.indexByte at h
    split at h
    · rename_i hb
      have hb:b=10:=by simpa using hb
      have hi:i=0:=by omega
      subst hi
      simp [ln1,lnR,hb]
    · rename_i hb
      have hb:b≠10:=by simpa using hb
      have hge:=Lib.indexByte_ge l 10
      split at h
      · omega
      · obtain⟨j,hj⟩:∃ j:Nat,Lib.indexByte l 10=j:=⟨(Lib.indexByte l 10).toNat,by
          rename_i q
          have:Lib.indexByte l 10≠ -1:=by simpa using q
          omega⟩
        obtain rfl:i=j+1:=by omega
        obtain⟨h1,h2,h3⟩:=ln_some hj
        simp [ln1,lnR,hb,h1,h2]
        omega
theorem lnR_lt:∀ {s:Txt},s≠[]→(lnR s).length<s.length
  |[],h=>absurd rfl h
  | b ::l,_=>by
    unfold lnR
    split
    · simp
    · by_cases hl:l=[]
      · subst hl;simp [lnR]
      · have:=lnR_lt hl;simp;omega

theorem xlines_o(s:Txt)(m:Mem):CallA Tryz.prog 22 [.str s] m fun v mo=>v= .clo (.func 54) [] [.ptr m.length 0 0]∧mo=some (m++[.cells .own 9 1 [[.str s]]]):=by
  refine CallA_inO Tryz.func22 rfl Tryz.ntmps22 Tryz.results22 (by kernel_rfl) (by simp) fun Q hQ=>?_
  (repeat'(first|(refine sx ?_ ?_<;>intro h<;>first|(exfalso;omega)|skip)|refine ny ?_|refine WA_block ?_))
  all_goals(refine hQ _ _ _ (by first|exact .inl rfl|exact .inr rfl) (.clo (.func 54) [] [.ptr (lend m).length 0 0]) ?_ ⟨_,rfl,?_,rfl⟩)
  · simp (disch:=omega) only [resV,resVs,resOne,tupV,↓ev_move,↓ev_assign,↓ev_pick,↓ev_alloc,↓ev_box,↓ev_load,↓ev_store,↓ev_binOp,↓ev_unOp,↓ev_extract,↓ev_fieldAddr,↓ev_field,↓ev_indexAddr,↓ev_index,↓ev_makeFunc,↓ev_build,↓ev_makeSlice,↓ev_buildSlice,↓ev_convert,↓ev_len,↓ev_max,↓ev_min,↓ev_append,↓ev_slice,maxLen_eq,b_aeq,b_ane,planEq,leafEq,←Bool.decide_and,b_add,b_sub,b_mul,b_quo,b_rem,b_and,b_or,b_xor,b_eql,b_neq,b_lss,b_leq,b_gtr,b_geq,b_sadd,b_seql,b_sneq,u_not,u_neg,okO_some,okR_eq,↓evO_tmp,↓evO_const,↓evO_func,↓evO_glb,gval,ofC_int,ofC_bool,ofC_nilsl,ofC_nilptr,ofC_nilfn,ofC_nilmap,ofC_nilif,ofC_str,tput_some,tput_none,i64w,u64w,Int.one_mul,Int.tdiv_eq_ediv_of_nonneg,ne_eq,not_false_eq_true,not_true_eq_false,Int.reduceEq,↓tg_c,tg_n,↓reduceIte,Nat.reduceEqDiff,true_and,and_true,evMax,evMin,reduceCtorEq,Nat.succ_ne_zero,Nat.zero_ne_one,Nat.one_ne_zero,Bool.not_true,Bool.not_false,argT,Nat.reduceAdd,pickT,List.map_cons,List.map_nil,Nat.reduceMul,Nat.reduceSub,Nat.reduceLT,Nat.reduceLeDiff,Nat.lt_irrefl,Int.reduceToNat,Int.reduceLT,Int.reduceLE,Int.reduceNeg,Int.reduceAdd,Int.reduceMul,Int.toNat_zero,Int.toNat_one,decide_true,decide_false,and_self,List.length_cons,List.length_nil,List.getElem?_cons_zero,List.getElem?_cons_succ,List.drop_zero,List.drop_succ_cons,List.take_zero,List.take_succ_cons,List.take_nil,List.drop_nil,List.cons_append,List.nil_append,List.set_cons_zero,List.set_cons_succ,List.all_cons,List.all_nil,Bool.and_true,Bool.and_self,Option.map_some,List.flatten_cons,List.flatten_nil,↓mg,↓ms,↓mg0,↓ms0,ma,ma2,ml,V.one,cellsV,partV,evLoad,evStore,ldB,wrB,evStrIdx,↓ev_nilCheck,evFA,evF,evIA,evI,evBuild,fillV,setAt,evSlice,evStrSlice,bound,chunks,evLen,evAppend,elsV,beq_self_eq_true,Nat.reduceBEq,evMake,evBuildSl,repL,List.replicate_succ,List.replicate_zero,List.range_succ,List.range_zero,Option.map_none,Int.toNat_natCast,Nat.zero_add,Nat.add_zero,Nat.zero_mul,Nat.one_mul,Int.le_refl,Nat.le_refl,agT106,agT116,agT117,agT122,agT190,agT205,agT225,agT23,agT24,agT25,agT27,agT28,agT3,agT4,agT43,agT46,agT48,agT5,agT51,agT71,agT74,agT76,agT80,agT9,agT96,agT99,arT102,arT106,arT117,arT142,arT200,arT214,arT217,arT218,arT223,arT225,arT226,arT23,arT232,arT233,arT234,arT24,arT25,arT27,arT43,arT46,arT48,arT51,arT55,arT69,arT71,arT74,arT76,arT80,arT9,arT99,eqT116,eqT122,eqT4,eqT43,eqT51,eqT74,eqT76,eqT80,eqT9,fdT106f0,fdT106f1,fdT119f0,fdT119f1,fdT214f0,fdT214f1,fdT214f2,fdT225f0,fdT225f1,fdT232f0,fdT27f0,fdT27f1,fdT27f2,fdT27f3,fdT43f0,fdT43f1,fdT48f0,fdT69f0,fdT69f1,fdT71f0,fdT71f1,fdT71f2,fdT71f3,fdT71f4,fdT74f0,fdT74f1,fdT74f2,fdT74f3,fdT76f0,fdT76f1,fdT80f0,fdT80f1,fdT96f0,intT116,intT117,intT168,intT174,intT188,intT190,intT2,intT205,intT21,intT3,intT5,intT9,kdT116,kdT122,kdT4,kdT43,kdT51,kdT74,kdT76,kdT80,kdT9,slT102,slT117,slT142,slT159,slT200,slT217,slT218,slT223,slT226,slT23,slT233,slT234,slT24,slT25,slT3,slT46,slT55,slT9,slT99,smT106,smT3,smT43,smT5,smT71,smT74,smT76,smT80,smT9,stT106,stT214,stT217,stT225,stT226,stT232,stT233,stT234,stT27,stT43,stT48,stT51,stT69,stT71,stT74,stT76,stT80,strT102,strT117,strT142,strT159,strT200,strT218,strT23,strT24,strT25,strT3,strT46,strT55,strT9,strT99,szT106,szT116,szT117,szT122,szT190,szT205,szT214,szT217,szT225,szT226,szT23,szT232,szT233,szT234,szT24,szT25,szT27,szT28,szT3,szT4,szT43,szT46,szT48,szT5,szT51,szT69,szT71,szT74,szT76,szT80,szT9,szT96,szT99,zeT106,zeT119,zeT200,zeT205,zeT214,zeT217,zeT225,zeT226,zeT232,zeT233,zeT27,zeT28,zeT3,zeT43,zeT48,zeT5,zeT51,zeT69,zeT71,zeT74,zeT76,zeT80,zeT9,zeT96]
  · rw [lend_len]
theorem uX3_54_4{N:Nat}{l:List Oper}{t:List (Nat×V)}{m:Mem}{Q:Exit→List (Nat×V)→Mem→Prop}(h:RgN Tryz.prog N l t m Q (fun i=>if i==9 then .w else if i==0 || i==4 then .q else .p) [.one 0,.one 1,.one 2,.one 3,.one 4,.one 5,.one 6,.one 7,.one 8,.one 9]):WA Tryz.prog N (.region 4 l.toArray true) t m Q:=d_rgN h
/-- the lines, told one after the other -/
theorem xlines1(lp b:Nat)(M:Mem)(s0:Txt)(hl0:s0.length≤1000000)(R:V→Option Mem→Prop)(I:Txt→Mem→Prop)(J:Mem→Prop)(h0:I s0 M)(hb:∀ s M',I s M'→M'[b]?=some (.cells .own 9 1 [[.str s]]))(hn:∀ M',I [] M'→R (.tup []) (some M'))(hj:∀ M',J M'→R (.tup []) (some M'))
    (hy:∀ s M',s≠[]→s.length≤s0.length→I s M'→∀ R':V→Option Mem→Prop,(∀ M2,I (lnR s) M2→R' (.bool true) (some M2))→(∀ M2,J M2→R' (.bool false) (some M2))→YieldA Tryz.prog lp [.str (ln1 s)] (M'.set b (.cells .own 9 1 [[.str (lnR s)]])) R'):
    CallA Tryz.prog 54 [.clo (.yield lp) [] [],.ptr b 0 0] M R:=by
  refine CallA_inD Tryz.func54 rfl Tryz.ntmps54 Tryz.results54 (by kernel_rfl) (by simp) fun Q hQ=>?_
  have hgb:=hl0
  have hsb:=hl0
  have hsl:=hl0
  have hix:=hl0
  (have FX:=And.intro hgb (And.intro hsb (And.intro hsl hix));repeat'(first|(refine sx ?_ ?_<;>intro h<;>first|(exfalso;omega)|skip)|(refine g_op ?_;refine g_call ?_;refine g_args ?_;(first|refine s_fn (xindex_c s 10 _) ?_)<;>try first|omega|assumption)|refine ny ?_|refine WA_block ?_|(refine uX3_54_4 ?_;refine⟨by kernel_rfl,?_⟩)|((first|refine grp_cons (fun _=>xindex_c s 10 _) ?_)<;>try first|omega|assumption)|(refine g_d ?_;refine d_args ?_;(first|refine d_fn (xindex_c s 10 _) ?_|refine d_fnQ (fun _=>xindex_c s 10 _) ?_)<;>try first|omega|assumption)|(refine g_d ?_;(first|refine d_fnY (xindex_c s 10 _) ?_)<;>try first|omega|assumption)))
  refine WA_while (σ:=Txt×Mem) [0,1] (fun s=>[.clo (.yield lp) [] [],.ptr b 0 0]) (fun s=>s.2) (fun s=>s.1.length≤s0.length∧I s.1 s.2) (fun s=>s.1.length) (s0,M) ⟨Nat.le_refl _,h0⟩ tv_ (by simp) ?_
  rintro⟨s,M'⟩ ⟨hi1,hI⟩ K hK
  dsimp only at hi1 hI
  simp only [zipT]
  clear FX hgb hsb hsl hix
  have hbs:=hb s M' hI
  have hblt:=(List.getElem?_eq_some_iff.1 hbs).1
  have hgb:∀ X:Mem,(M'++X)[b]?=some (.cells .own 9 1 [[.str s]]):=fun X=>by rw [List.getElem?_append_left hblt];exact hbs
  have hsb:∀ (X:Mem) z,(M'++X).set b z=M'.set b z++X:=fun X z=>List.set_append_left _ _ hblt
  have hsl:s.length≤1000000:=by omega
  rw [show M'=M'++[] from(List.append_nil _).symm]
  by_cases hs:s=[]
  · subst hs
    have hix:=hsl
    (have FX:=And.intro hgb (And.intro hsb (And.intro hsl hix));repeat'(first|(refine sx ?_ ?_<;>intro h<;>first|(exfalso;omega)|skip)|(refine g_op ?_;refine g_call ?_;refine g_args ?_;(first|refine s_fn (xindex_c s 10 _) ?_)<;>try first|omega|assumption)|refine ny ?_|refine WA_block ?_|(refine uX3_54_4 ?_;refine⟨by kernel_rfl,?_⟩)|((first|refine grp_cons (fun _=>xindex_c s 10 _) ?_)<;>try first|omega|assumption)|(refine g_d ?_;refine d_args ?_;(first|refine d_fn (xindex_c s 10 _) ?_|refine d_fnQ (fun _=>xindex_c s 10 _) ?_)<;>try first|omega|assumption)|(refine g_d ?_;(first|refine d_fnY (xindex_c s 10 _) ?_)<;>try first|omega|assumption)))
    all_goals(try(exfalso;simp at *;done))
    all_goals(refine hQ _ _ _ (by first|exact .inl rfl|exact .inr rfl) _ rfl ?_)
    all_goals(rw [List.append_nil];exact hn _ hI)
  have hs1:0<s.length:=List.length_pos_iff.2 hs
  have hyi:=hy s M' hs hi1 hI
  have hlt:=lnR_lt hs
  rcases Int.lt_or_le (Lib.indexByte s 10) 0 with q|q
  · have hix:Lib.indexByte s 10= -1:=by have:=Lib.indexByte_ge s 10;omega
    obtain⟨e1,e2⟩:=ln_none hix
    rw [e1,e2] at hyi
    rw [e2] at hlt
    (have FX:=And.intro hgb (And.intro hsb (And.intro hsl hix));repeat'(first|(refine sx ?_ ?_<;>intro h<;>first|(exfalso;omega)|skip)|(refine g_op ?_;refine g_call ?_;refine g_args ?_;(first|refine s_fn (xindex_c s 10 _) ?_)<;>try first|omega|assumption)|refine ny ?_|refine WA_block ?_|(refine uX3_54_4 ?_;refine⟨by kernel_rfl,?_⟩)|((first|refine grp_cons (fun _=>xindex_c s 10 _) ?_)<;>try first|omega|assumption)|(refine g_d ?_;refine d_args ?_;(first|refine d_fn (xindex_c s 10 _) ?_|refine d_fnQ (fun _=>xindex_c s 10 _) ?_)<;>try first|omega|assumption)|(refine g_d ?_;(first|refine d_fnY (xindex_c s 10 _) ?_)<;>try first|omega|assumption)))
    all_goals(try(exfalso;omega))
    all_goals(rw [List.append_nil])
    all_goals(refine g_op ?_;refine s_yld ((hyi _ (fun M2 h2=>?_) (fun M2 h2=>?_))))
    all_goals simp only [Option.getD_some]
    all_goals(rw [show M2=M2++[] from(List.append_nil _).symm])
    all_goals(have FX:=And.intro hgb (And.intro hsb (And.intro hsl hix));repeat'(first|(refine sx ?_ ?_<;>intro h<;>first|(exfalso;omega)|skip)|(refine g_op ?_;refine g_call ?_;refine g_args ?_;(first|refine s_fn (xindex_c s 10 _) ?_)<;>try first|omega|assumption)|refine ny ?_|refine WA_block ?_|(refine uX3_54_4 ?_;refine⟨by kernel_rfl,?_⟩)|((first|refine grp_cons (fun _=>xindex_c s 10 _) ?_)<;>try first|omega|assumption)|(refine g_d ?_;refine d_args ?_;(first|refine d_fn (xindex_c s 10 _) ?_|refine d_fnQ (fun _=>xindex_c s 10 _) ?_)<;>try first|omega|assumption)|(refine g_d ?_;(first|refine d_fnY (xindex_c s 10 _) ?_)<;>try first|omega|assumption)))
    all_goals first
      | (rw [List.append_nil]
         refine next_ hK (_,M2) ⟨by dsimp only;omega,h2⟩ hlt
         done)
      | (rw [List.append_nil]
         exact hQ _ _ _ (by first|exact .inl rfl|exact .inr rfl) _ rfl (hj _ h2))
      |trace_state
  · obtain⟨i,hi⟩:∃ i:Nat,Lib.indexByte s 10=i:=⟨(Lib.indexByte s 10).toNat,by omega⟩
    obtain⟨e1,e2,e3⟩:=ln_some hi
    have g1:s.take (i+1)=List.take ((i:Int)+1 - ((0:Nat):Int)).toNat s:=by rw [show((i:Int)+1 - ((0:Nat):Int)).toNat=i+1 by omega]
    have g2:s.drop (i+1)=List.take ((s.length:Int) - ((i:Int)+1)).toNat (s.drop (i+1)):=by rw [List.take_of_length_le (by rw [List.length_drop];omega)]
    rw [e1,e2,g1,g2] at hyi
    rw [e2,g2] at hlt
    have hix:=And.intro hi (show((i:Int)+1).toNat=i+1 by omega)
    (have FX:=And.intro hgb (And.intro hsb (And.intro hsl hix));repeat' first|(first|(refine sx ?_ ?_<;>intro h<;>first|(exfalso;omega)|skip)|(refine g_op ?_;refine g_call ?_;refine g_args ?_;(first|refine s_fn (xindex_c s 10 _) ?_)<;>try first|omega|assumption)|refine ny ?_|refine WA_block ?_|(refine uX3_54_4 ?_;refine⟨by kernel_rfl,?_⟩)|((first|refine grp_cons (fun _=>xindex_c s 10 _) ?_)<;>try first|omega|assumption)|(refine g_d ?_;refine d_args ?_;(first|refine d_fn (xindex_c s 10 _) ?_|refine d_fnQ (fun _=>xindex_c s 10 _) ?_)<;>try first|omega|assumption)|(refine g_d ?_;(first|refine d_fnY (xindex_c s 10 _) ?_)<;>try first|omega|assumption))|refine d_alt ?_|refine wg_0 ?_|refine wg_b ?_|refine wg_c ?_ ?_|refine wg_n ?_|refine wm_cons ?_ ?_|exact wm_nil|refine wg_op ?_)
    all_goals(try(exfalso;omega))
    all_goals(rw [List.append_nil])
    all_goals(refine g_op ?_;refine s_yld ((hyi _ (fun M2 h2=>?_) (fun M2 h2=>?_))))
    all_goals simp only [Option.getD_some]
    all_goals(rw [show M2=M2++[] from(List.append_nil _).symm])
    all_goals(have FX:=And.intro hgb (And.intro hsb (And.intro hsl hix));repeat'(first|(refine sx ?_ ?_<;>intro h<;>first|(exfalso;omega)|skip)|(refine g_op ?_;refine g_call ?_;refine g_args ?_;(first|refine s_fn (xindex_c s 10 _) ?_)<;>try first|omega|assumption)|refine ny ?_|refine WA_block ?_|(refine uX3_54_4 ?_;refine⟨by kernel_rfl,?_⟩)|((first|refine grp_cons (fun _=>xindex_c s 10 _) ?_)<;>try first|omega|assumption)|(refine g_d ?_;refine d_args ?_;(first|refine d_fn (xindex_c s 10 _) ?_|refine d_fnQ (fun _=>xindex_c s 10 _) ?_)<;>try first|omega|assumption)|(refine g_d ?_;(first|refine d_fnY (xindex_c s 10 _) ?_)<;>try first|omega|assumption)))
    all_goals first
      | (rw [List.append_nil]
         refine next_ hK (_,M2) ⟨by dsimp only;omega,h2⟩ hlt
         done)
      | (rw [List.append_nil]
         exact hQ _ _ _ (by first|exact .inl rfl|exact .inr rfl) _ rfl (hj _ h2))
      |trace_state
end Go.Proofs.YtomkbpoicjabfaaGreatDoor
