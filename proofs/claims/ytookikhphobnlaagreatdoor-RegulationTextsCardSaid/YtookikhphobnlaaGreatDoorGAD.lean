import Derived.Test.YtookikhphobnlaaGreatDoorGAC
set_option linter.unusedSimpArgs false
set_option linter.unusedVariables false
/- contracts: the lines of a text -/
namespace Go.Proofs.YtookikhphobnlaaGreatDoor
open Go.RowKit
attribute [local irreducible] WA WOs WDs WAn qThen qBlock tput
set_option maxHeartbeats 1000000
set_option maxRecDepth 20000
set_option linter.unusedSimpArgs false
set_option linter.unusedVariables false
set_option maxHeartbeats 4000000
/-- the first line, with its end; and what follows it -/
def ln1:Txt→Txt
  |[]=>[]
  |b::l=>if b=10 then [10] else b::ln1 l
def lnR:Txt→Txt
  |[]=>[]
  |b::l=>if b=10 then l else lnR l
theorem ln_none:∀ {s:Txt},Lib.indexByte s 10= -1→ln1 s=s∧lnR s=[]
  |[],_=>⟨rfl,rfl⟩
  | b ::l,h=>by
    unfold Lib.indexByte at h
    split at h
    · simp at h
    · rename_i hb
      have hb:b≠10:=by simpa using hb
      have hge:=Lib.indexByte_ge l 10
      have h1:Lib.indexByte l 10= -1:=by
        split at h
        · rename_i q;simpa using q
        · omega
      obtain⟨h2,h3⟩:=ln_none h1
      simp [ln1,lnR,hb,h2,h3]
theorem ln_some:∀ {s:Txt} {i:Nat},Lib.indexByte s 10=i→ln1 s=s.take (i+1)∧lnR s=s.drop (i+1)∧i+1≤s.length
  |[],i,h=>by unfold Lib.indexByte at h;omega
  | b ::l,i,h=>by
    unfold Lib.indexByte at h
    split at h
    · rename_i hb
      have hb:b=10:=by simpa using hb
      have hi:i=0:=by omega
      subst hi
      simp [ln1,lnR,hb]
    · rename_i hb
      have hb:b≠10:=by simpa using hb
      have hge:=Lib.indexByte_ge l 10
      split at h
      · omega
      · obtain⟨j,hj⟩:∃ j:Nat,Lib.indexByte l 10=j:=⟨(Lib.indexByte l 10).toNat,by
          rename_i q
          have:Lib.indexByte l 10≠ -1:=by simpa using q
          omega⟩
        obtain rfl:i=j+1:=by omega
        obtain⟨h1,h2,h3⟩:=ln_some hj
        simp [ln1,lnR,hb,h1,h2]
        omega
theorem lnR_lt:∀ {s:Txt},s≠[]→(lnR s).length<s.length
  |[],h=>absurd rfl h
  | b ::l,_=>by
    unfold lnR
    split
    · simp
    · by_cases hl:l=[]
      · subst hl;simp [lnR]
      · have:=lnR_lt hl;simp;omega

theorem xlines_o(s:Txt)(m:Mem):CallA Tryz.prog 28 [.str s] m fun v mo=>v= .clo (.func 64) [] [.ptr m.length 0 0]∧mo=some (m++[.cells .own 9 1 [[.str s]]]):=by
  refine CallA_inO Tryz.func28 rfl Tryz.ntmps28 Tryz.results28 (by kernel_rfl) (by simp) fun Q hQ=>?_
  (repeat'(first|(refine sx ?_ ?_<;>intro h<;>first|(exfalso;omega)|skip)|refine ny ?_|refine WA_block ?_))
  all_goals(refine hQ _ _ _ (by first|exact .inl rfl|exact .inr rfl) (.clo (.func 64) [] [.ptr (lend m).length 0 0]) ?_ ⟨_,rfl,?_,rfl⟩)
  · simp (disch:=omega) only [resV,resVs,resOne,tupV,↓ev_move,↓ev_assign,↓ev_pick,↓ev_alloc,↓ev_box,↓ev_load,↓ev_store,↓ev_binOp,↓ev_unOp,↓ev_extract,↓ev_fieldAddr,↓ev_field,↓ev_indexAddr,↓ev_index,↓ev_makeFunc,↓ev_build,↓ev_makeSlice,↓ev_buildSlice,↓ev_convert,↓ev_len,↓ev_max,↓ev_min,↓ev_append,↓ev_slice,maxLen_eq,b_aeq,b_ane,planEq,leafEq,←Bool.decide_and,b_add,b_sub,b_mul,b_quo,b_rem,b_and,b_or,b_xor,b_eql,b_neq,b_lss,b_leq,b_gtr,b_geq,b_sadd,b_seql,b_sneq,u_not,u_neg,okO_some,okR_eq,↓evO_tmp,↓evO_const,↓evO_func,↓evO_glb,gval,ofC_int,ofC_bool,ofC_nilsl,ofC_nilptr,ofC_nilfn,ofC_nilmap,ofC_nilif,ofC_str,tput_some,tput_none,i64w,u64w,Int.one_mul,Int.tdiv_eq_ediv_of_nonneg,ne_eq,not_false_eq_true,not_true_eq_false,Int.reduceEq,↓tg_c,tg_n,↓reduceIte,Nat.reduceEqDiff,true_and,and_true,evMax,evMin,reduceCtorEq,Nat.succ_ne_zero,Nat.zero_ne_one,Nat.one_ne_zero,Bool.not_true,Bool.not_false,argT,Nat.reduceAdd,pickT,List.map_cons,List.map_nil,Nat.reduceMul,Nat.reduceSub,Nat.reduceLT,Nat.reduceLeDiff,Nat.lt_irrefl,Int.reduceToNat,Int.reduceLT,Int.reduceLE,Int.reduceNeg,Int.reduceAdd,Int.reduceMul,Int.toNat_zero,Int.toNat_one,decide_true,decide_false,and_self,List.length_cons,List.length_nil,List.getElem?_cons_zero,List.getElem?_cons_succ,List.drop_zero,List.drop_succ_cons,List.take_zero,List.take_succ_cons,List.take_nil,List.drop_nil,List.cons_append,List.nil_append,List.set_cons_zero,List.set_cons_succ,List.all_cons,List.all_nil,Bool.and_true,Bool.and_self,Option.map_some,List.flatten_cons,List.flatten_nil,↓mg,↓ms,↓mg0,↓ms0,ma,ma2,ml,V.one,cellsV,partV,evLoad,evStore,ldB,wrB,evStrIdx,↓ev_nilCheck,evFA,evF,evIA,evI,evBuild,fillV,setAt,evSlice,evStrSlice,bound,chunks,evLen,evAppend,elsV,beq_self_eq_true,Nat.reduceBEq,evMake,evBuildSl,repL,List.replicate_succ,List.replicate_zero,List.range_succ,List.range_zero,Option.map_none,Int.toNat_natCast,Nat.zero_add,Nat.add_zero,Nat.zero_mul,Nat.one_mul,Int.le_refl,Nat.le_refl,agT111,agT117,agT132,agT174,agT198,agT23,agT25,agT26,agT28,agT29,agT3,agT4,agT43,agT5,agT58,agT69,agT71,agT75,agT76,agT78,agT83,agT9,agT91,agT92,agT97,arT117,arT145,arT163,arT173,arT185,arT188,arT190,arT195,arT196,arT198,arT199,arT203,arT204,arT23,arT25,arT26,arT28,arT43,arT58,arT69,arT71,arT75,arT76,arT78,arT83,arT9,arT92,eqT23,eqT43,eqT75,eqT83,eqT9,eqT91,eqT97,fdT117f0,fdT117f1,fdT145f0,fdT145f1,fdT145f2,fdT145f3,fdT185f0,fdT185f1,fdT185f2,fdT195f0,fdT198f0,fdT198f1,fdT23f0,fdT23f1,fdT28f0,fdT28f1,fdT75f0,fdT75f1,fdT75f2,fdT75f3,fdT78f0,fdT78f1,fdT78f2,fdT78f3,fdT78f4,fdT78f5,fdT83f0,fdT83f1,fdT94f0,fdT94f1,intT158,intT174,intT182,intT189,intT2,intT21,intT3,intT5,intT9,intT91,intT92,kdT23,kdT43,kdT75,kdT83,kdT9,kdT91,kdT97,slT103,slT136,slT163,slT173,slT188,slT190,slT196,slT199,slT203,slT204,slT25,slT26,slT3,slT43,slT58,slT69,slT71,slT76,slT9,slT92,smT3,smT43,smT5,smT75,smT78,smT83,smT9,stT117,stT145,stT163,stT185,stT188,stT195,stT198,stT199,stT203,stT204,stT23,stT28,stT75,stT78,stT83,strT103,strT136,strT173,strT190,strT25,strT26,strT3,strT43,strT58,strT69,strT76,strT9,strT92,szT111,szT117,szT132,szT145,szT163,szT174,szT185,szT188,szT195,szT198,szT199,szT203,szT204,szT23,szT25,szT26,szT28,szT29,szT3,szT4,szT43,szT5,szT58,szT69,szT71,szT75,szT76,szT78,szT83,szT9,szT91,szT92,szT97,zeT111,zeT117,zeT132,zeT145,zeT163,zeT173,zeT185,zeT188,zeT195,zeT198,zeT199,zeT203,zeT23,zeT28,zeT29,zeT3,zeT4,zeT43,zeT5,zeT71,zeT75,zeT78,zeT83,zeT9,zeT94]
  · rw [lend_len]
theorem uX3_64_4{N:Nat}{l:List Oper}{t:List (Nat×V)}{m:Mem}{Q:Exit→List (Nat×V)→Mem→Prop}(h:RgT Tryz.prog N l t m Q 9 (fun i=>if i==9 then .f else if i==0 || i==4 then .a else .p) [.one 1,.one 2,.one 5,.one 6,.grp false [] [0,4],.one 3,.one 7,.one 8,.one 9]):WA Tryz.prog N (.region 4 l.toArray true) t m Q:=d_rgT h
/-- the lines, told one after the other -/
theorem xlines1(lp b:Nat)(M:Mem)(s0:Txt)(hl0:s0.length≤1000000)(R:V→Option Mem→Prop)(I:Txt→Mem→Prop)(J:Mem→Prop)(h0:I s0 M)(hb:∀ s M',I s M'→M'[b]?=some (.cells .own 9 1 [[.str s]]))(hn:∀ M',I [] M'→R (.tup []) (some M'))(hj:∀ M',J M'→R (.tup []) (some M'))
    (hy:∀ s M',s≠[]→s.length≤s0.length→I s M'→∀ R':V→Option Mem→Prop,(∀ M2,I (lnR s) M2→R' (.bool true) (some M2))→(∀ M2,J M2→R' (.bool false) (some M2))→YieldA Tryz.prog lp [.str (ln1 s)] (M'.set b (.cells .own 9 1 [[.str (lnR s)]])) R'):
    CallA Tryz.prog 64 [.clo (.yield lp) [] [],.ptr b 0 0] M R:=by
  refine CallA_inD Tryz.func64 rfl Tryz.ntmps64 Tryz.results64 (by kernel_rfl) (by simp) fun Q hQ=>?_
  have hgb:=hl0
  have hsb:=hl0
  have hsl:=hl0
  have hix:=hl0
  (have FX:=And.intro hgb (And.intro hsb (And.intro hsl hix));repeat'(first|(refine sx ?_ ?_<;>intro h<;>first|(exfalso;omega)|skip)|(refine g_op ?_;refine g_call ?_;refine g_args ?_;(first|refine s_fn (xindex_c s 10 _) ?_)<;>try first|omega|assumption)|refine ny ?_|refine WA_block ?_|(refine uX3_64_4 ?_;refine⟨by kernel_rfl,?_⟩)|((first|refine grp_cons (fun _=>xindex_c s 10 _) ?_)<;>try first|omega|assumption)|(refine g_d ?_;refine d_args ?_;(first|refine d_fn (xindex_c s 10 _) ?_|refine d_fnQ (fun _=>xindex_c s 10 _) ?_)<;>try first|omega|assumption)|(refine g_d ?_;(first|refine d_fnY (xindex_c s 10 _) ?_)<;>try first|omega|assumption)))
  refine WA_while (σ:=Txt×Mem) [0,1] (fun s=>[.clo (.yield lp) [] [],.ptr b 0 0]) (fun s=>s.2) (fun s=>s.1.length≤s0.length∧I s.1 s.2) (fun s=>s.1.length) (s0,M) ⟨Nat.le_refl _,h0⟩ tv_ (by simp) ?_
  rintro⟨s,M'⟩ ⟨hi1,hI⟩ K hK
  dsimp only at hi1 hI
  simp only [zipT]
  clear FX hgb hsb hsl hix
  have hbs:=hb s M' hI
  have hblt:=(List.getElem?_eq_some_iff.1 hbs).1
  have hgb:∀ X:Mem,(M'++X)[b]?=some (.cells .own 9 1 [[.str s]]):=fun X=>by rw [List.getElem?_append_left hblt];exact hbs
  have hsb:∀ (X:Mem) z,(M'++X).set b z=M'.set b z++X:=fun X z=>List.set_append_left _ _ hblt
  have hsl:s.length≤1000000:=by omega
  rw [show M'=M'++[] from(List.append_nil _).symm]
  by_cases hs:s=[]
  · subst hs
    have hix:=hsl
    (have FX:=And.intro hgb (And.intro hsb (And.intro hsl hix));repeat'(first|(refine sx ?_ ?_<;>intro h<;>first|(exfalso;omega)|skip)|(refine g_op ?_;refine g_call ?_;refine g_args ?_;(first|refine s_fn (xindex_c s 10 _) ?_)<;>try first|omega|assumption)|refine ny ?_|refine WA_block ?_|(refine uX3_64_4 ?_;refine⟨by kernel_rfl,?_⟩)|((first|refine grp_cons (fun _=>xindex_c s 10 _) ?_)<;>try first|omega|assumption)|(refine g_d ?_;refine d_args ?_;(first|refine d_fn (xindex_c s 10 _) ?_|refine d_fnQ (fun _=>xindex_c s 10 _) ?_)<;>try first|omega|assumption)|(refine g_d ?_;(first|refine d_fnY (xindex_c s 10 _) ?_)<;>try first|omega|assumption)))
    all_goals(try(exfalso;simp at *;done))
    all_goals(refine hQ _ _ _ (by first|exact .inl rfl|exact .inr rfl) _ rfl ?_)
    all_goals(rw [List.append_nil];exact hn _ hI)
  have hs1:0<s.length:=List.length_pos_iff.2 hs
  have hyi:=hy s M' hs hi1 hI
  have hlt:=lnR_lt hs
  rcases Int.lt_or_le (Lib.indexByte s 10) 0 with q|q
  · have hix:Lib.indexByte s 10= -1:=by have:=Lib.indexByte_ge s 10;omega
    obtain⟨e1,e2⟩:=ln_none hix
    rw [e1,e2] at hyi
    rw [e2] at hlt
    (have FX:=And.intro hgb (And.intro hsb (And.intro hsl hix));repeat'(first|(refine sx ?_ ?_<;>intro h<;>first|(exfalso;omega)|skip)|(refine g_op ?_;refine g_call ?_;refine g_args ?_;(first|refine s_fn (xindex_c s 10 _) ?_)<;>try first|omega|assumption)|refine ny ?_|refine WA_block ?_|(refine uX3_64_4 ?_;refine⟨by kernel_rfl,?_⟩)|((first|refine grp_cons (fun _=>xindex_c s 10 _) ?_)<;>try first|omega|assumption)|(refine g_d ?_;refine d_args ?_;(first|refine d_fn (xindex_c s 10 _) ?_|refine d_fnQ (fun _=>xindex_c s 10 _) ?_)<;>try first|omega|assumption)|(refine g_d ?_;(first|refine d_fnY (xindex_c s 10 _) ?_)<;>try first|omega|assumption)))
    all_goals(try(exfalso;omega))
    all_goals(rw [List.append_nil])
    all_goals(refine g_op ?_;refine s_yld ((hyi _ (fun M2 h2=>?_) (fun M2 h2=>?_))))
    all_goals simp only [Option.getD_some]
    all_goals(rw [show M2=M2++[] from(List.append_nil _).symm])
    all_goals(have FX:=And.intro hgb (And.intro hsb (And.intro hsl hix));repeat'(first|(refine sx ?_ ?_<;>intro h<;>first|(exfalso;omega)|skip)|(refine g_op ?_;refine g_call ?_;refine g_args ?_;(first|refine s_fn (xindex_c s 10 _) ?_)<;>try first|omega|assumption)|refine ny ?_|refine WA_block ?_|(refine uX3_64_4 ?_;refine⟨by kernel_rfl,?_⟩)|((first|refine grp_cons (fun _=>xindex_c s 10 _) ?_)<;>try first|omega|assumption)|(refine g_d ?_;refine d_args ?_;(first|refine d_fn (xindex_c s 10 _) ?_|refine d_fnQ (fun _=>xindex_c s 10 _) ?_)<;>try first|omega|assumption)|(refine g_d ?_;(first|refine d_fnY (xindex_c s 10 _) ?_)<;>try first|omega|assumption)))
    all_goals first
      | (rw [List.append_nil]
         refine next_ hK (_,M2) ⟨by dsimp only;omega,h2⟩ hlt
         done)
      | (rw [List.append_nil]
         exact hQ _ _ _ (by first|exact .inl rfl|exact .inr rfl) _ rfl (hj _ h2))
      |trace_state
  · obtain⟨i,hi⟩:∃ i:Nat,Lib.indexByte s 10=i:=⟨(Lib.indexByte s 10).toNat,by omega⟩
    obtain⟨e1,e2,e3⟩:=ln_some hi
    have g1:s.take (i+1)=List.take ((i:Int)+1 - ((0:Nat):Int)).toNat s:=by rw [show((i:Int)+1 - ((0:Nat):Int)).toNat=i+1 by omega]
    have g2:s.drop (i+1)=List.take ((s.length:Int) - ((i:Int)+1)).toNat (s.drop (i+1)):=by rw [List.take_of_length_le (by rw [List.length_drop];omega)]
    rw [e1,e2,g1,g2] at hyi
    rw [e2,g2] at hlt
    have hix:=And.intro hi (show((i:Int)+1).toNat=i+1 by omega)
    (have FX:=And.intro hgb (And.intro hsb (And.intro hsl hix));repeat' first|(first|(refine sx ?_ ?_<;>intro h<;>first|(exfalso;omega)|skip)|(refine g_op ?_;refine g_call ?_;refine g_args ?_;(first|refine s_fn (xindex_c s 10 _) ?_)<;>try first|omega|assumption)|refine ny ?_|refine WA_block ?_|(refine uX3_64_4 ?_;refine⟨by kernel_rfl,?_⟩)|((first|refine grp_cons (fun _=>xindex_c s 10 _) ?_)<;>try first|omega|assumption)|(refine g_d ?_;refine d_args ?_;(first|refine d_fn (xindex_c s 10 _) ?_|refine d_fnQ (fun _=>xindex_c s 10 _) ?_)<;>try first|omega|assumption)|(refine g_d ?_;(first|refine d_fnY (xindex_c s 10 _) ?_)<;>try first|omega|assumption))|refine d_alt ?_|refine wg_0 ?_|refine wg_b ?_|refine wg_c ?_ ?_|refine wg_n ?_|refine wm_cons ?_ ?_|exact wm_nil|refine wg_op ?_)
    all_goals(try(exfalso;omega))
    all_goals(rw [List.append_nil])
    all_goals(refine g_op ?_;refine s_yld ((hyi _ (fun M2 h2=>?_) (fun M2 h2=>?_))))
    all_goals simp only [Option.getD_some]
    all_goals(rw [show M2=M2++[] from(List.append_nil _).symm])
    all_goals(have FX:=And.intro hgb (And.intro hsb (And.intro hsl hix));repeat'(first|(refine sx ?_ ?_<;>intro h<;>first|(exfalso;omega)|skip)|(refine g_op ?_;refine g_call ?_;refine g_args ?_;(first|refine s_fn (xindex_c s 10 _) ?_)<;>try first|omega|assumption)|refine ny ?_|refine WA_block ?_|(refine uX3_64_4 ?_;refine⟨by kernel_rfl,?_⟩)|((first|refine grp_cons (fun _=>xindex_c s 10 _) ?_)<;>try first|omega|assumption)|(refine g_d ?_;refine d_args ?_;(first|refine d_fn (xindex_c s 10 _) ?_|refine d_fnQ (fun _=>xindex_c s 10 _) ?_)<;>try first|omega|assumption)|(refine g_d ?_;(first|refine d_fnY (xindex_c s 10 _) ?_)<;>try first|omega|assumption)))
    all_goals first
      | (rw [List.append_nil]
         refine next_ hK (_,M2) ⟨by dsimp only;omega,h2⟩ hlt
         done)
      | (rw [List.append_nil]
         exact hQ _ _ _ (by first|exact .inl rfl|exact .inr rfl) _ rfl (hj _ h2))
      |trace_state
/-- a word that is a number of at most d digits, as it is written -/
def numP(d:Nat)(w:Txt):Option Int:=match Lib.atoiAll w with
  | .ok n=>if Lib.itoa n=w∧(Lib.trimPrefix w [45]).length≤d then some n else none
  |_=>none
def numsP(d:Nat):List Txt→Option (List Int)
  |[]=>some []
  |w::r=>(numP d w).bind fun n=>(numsP d r).map fun l=>n::l
theorem numsP_app (d:Nat):∀ (a b:List Txt),numsP d (a++b)=(numsP d a).bind fun l=>(numsP d b).map fun r=>l++r
  | [],b=>by
    simp only [List.nil_append,numsP,Option.bind_some]
    cases numsP d b<;>rfl
  | w ::a,b=>by
    simp only [List.cons_append,numsP,numsP_app d a b]
    cases numP d w with
    |none=>rfl
    | some n=>
      cases numsP d a with
      |none=>rfl
      | some l=>
        cases numsP d b<;>rfl
theorem numsP_len {d:Nat}:∀ {ws:List Txt} {l:List Int},numsP d ws=some l→l.length=ws.length
  |[],l,h=>by simp [numsP] at h;subst h;rfl
  | w ::r,l,h=>by
    simp only [numsP] at h
    cases hn:numP d w with
    |none=>rw [hn] at h;cases h
    | some n=>
      rw [hn] at h
      cases hr:numsP d r with
      |none=>rw [hr] at h;cases h
      | some k=>
        rw [hr] at h
        simp at h
        subst h
        simp [numsP_len hr]
theorem xsV_get{ws:List Txt}{i:Nat}(h:i<ws.length):(xsV ws)[i]?=some [.str (ws.getD i [])]:=by
  unfold xsV;rw [List.getElem?_map,List.getD_eq_getElem?_getD,List.getElem?_eq_getElem h];rfl
theorem take_snocT{ws:List Txt}{i:Nat}(h:i<ws.length):ws.take (i+1)=ws.take i++[ws.getD i []]:=by
  rw [List.take_succ_eq_append_getElem h,List.getD_eq_getElem?_getD,List.getElem?_eq_getElem h];rfl
theorem nsV_snocT(l:List Int)(n:Int):nsV (l++[n])=nsV l++[[.int .i64 n]]:=by simp [nsV]
theorem numsP_none{d:Nat}{ws:List Txt}{i:Nat}(h:i<ws.length)(hn:numP d (ws.getD i [])=none):numsP d ws=none:=by
  have e:ws=ws.take (i+1)++ws.drop (i+1):=(List.take_append_drop _ _).symm
  rw [e,numsP_app,take_snocT h,numsP_app]
  cases numsP d (ws.take i) with
  |none=>rfl
  |some l=>simp only [Option.bind_some,numsP,hn,Option.bind_none,Option.map_none]
def nbV(o:Option (List Int)):V:=match o with
  |some l=> .tup [.lst (nsV l),.bool true]
  |none=> .tup [.lst [],.bool false]
def nxSt:List Int→TV
  |[]=> .v .nilsl
  |_::r=> .sl 0 (r.length+1)
def nuEx:List Int→List TB
  |[]=>[]
  |p::r=>[.cells .own 3 1 ((nsV (p::r)).map (List.map TV.v))]
def nuS(ws:List Txt)(s:Nat×List Int):List TV:=[.v (.lst (xsV ws)),.v (.int .i64 ws.length),.v (.int .i64 s.1),nxSt s.2]
theorem nxE_ok{l:List Int}:(nuEx l).all (TB.ok (nuEx l).length)=true:=by
  cases l with
  |nil=>rfl
  |cons p r=>simp only [nuEx,List.all_cons,TB.ok,TV.okT,List.all_nil,Bool.and_true,Bool.and_self,tv_ok,List.length_cons,List.length_nil]
theorem nxS_ok{ws:List Txt}{s:Nat×List Int}:(nuS ws s).all (TV.okT (nuEx s.2).length)=true:=by
  obtain⟨i,l⟩:=s
  cases l<;>simp [nuS,nxSt,nuEx,TV.okT]

theorem gnumbers_c (ws:List Txt) (hl:ws.length≤100000) (hw:∀ i,i<ws.length→(ws.getD i []).length≤100000) (m:Mem):Gives Tryz.prog 35 [.lst (xsV ws)] m (nbV (numsP 7 ws)):=by
  have hlx:=xsV_length (l:=ws)
  suffices key:CallA Tryz.prog 35 [.lst (xsV ws)] m (fun v mo=>mo=none∧WkV v (nbV (numsP 7 ws))) from Gives_ofX key fun v mo h=>h
  refine CallA_in Tryz.func35 rfl Tryz.ntmps35 Tryz.results35 (by kernel_rfl) (by simp) fun Q hQ=>?_
  (have FX:=hlx;repeat'(first|(refine sx ?_ ?_<;>intro h<;>first|(exfalso;omega)|skip)|refine ny ?_|refine WA_block ?_))
  refine WA_whileT (σ:=Nat×List Int) (L:=lend m) [9,10,11,4] (nuS ws) (fun s=>nuEx s.2) (fun s=>s.1≤ws.length∧numsP 7 (ws.take s.1)=some s.2) (fun s=>ws.length - s.1) (0,[]) ⟨Nat.zero_le _,rfl⟩ (by simp only [nuS,nxSt,List.map_cons,List.map_nil,TV.inst];exact tv_) rfl (by decide) (fun _ _=>nxS_ok) (fun _ _=>nxE_ok) ?_
  rintro⟨i,l⟩ ⟨hi,hnl⟩ B ⟨D,hB⟩ K hK
  dsimp only at hi hnl
  clear FX
  have hol:l.length=i:=by rw [numsP_len hnl,List.length_take];omega
  rcases Nat.lt_or_ge i ws.length with hlt|hge
  · have hga :=xsV_get hlt
    have hwl:=hw i hlt
    have hsn:=take_snocT hlt
    have hbad:=numsP_none (d:=7) hlt
    have hnx:∀ n,numP 7 (ws.getD i [])=some n→numsP 7 (ws.take (i+1))=some (l++[n]):=fun n hn=>by
      rw [hsn,numsP_app,hnl]
      simp only [Option.bind_some,numsP,hn,Option.map_some]
    have hny:=fun n (_:numP 7 (ws.getD i [])=some n)=>hK (i+1,l++[n])
    generalize ws.getD i []=w at *
    cases ha:Lib.atoiAll w
    · rename_i n
      obtain⟨b0,b1⟩:=Lib.atoiAll_bounds ha
      have hat:=fun m=>xatoi_ok w n (by omega) ha m
      have hit:=fun m=>xitoa_c n b0 b1 m
      have htr:=fun m=>xtrim_c w [45] m
      have hnp:numP 7 w=if Lib.itoa n=w∧(Lib.trimPrefix w [45]).length≤7 then some n else none:=by unfold numP;rw [ha]
      generalize Lib.itoa n=ii at *
      generalize Lib.trimPrefix w [45]=tt at *
      cases l with
      | nil=>
        have hll:=hlx
        have hlt2:=hlx
        have hsv:nsV ([]++[n])=[[V.int .i64 n]]:=rfl
        simp only [nuS,nxSt,nuEx]
        simp only [List.map_cons,List.map_nil,TB.inst,TV.inst,tv_map,zipT,List.cons_append,List.nil_append,Nat.add_zero]
        (have FX:=And.intro hlx (And.intro hga (And.intro hll hlt2));repeat'(first|(refine sx ?_ ?_<;>intro h<;>first|(exfalso;omega)|skip)|(refine g_op ?_;refine g_call ?_;refine g_args ?_;(first|refine s_fn (hat _) ?_|refine s_fn (hit _) ?_|refine s_fn (htr _) ?_)<;>try first|omega|assumption)|refine ny ?_|refine WA_block ?_))
        all_goals(try(exfalso;omega))
        all_goals(refine g_op ?_;refine s_niN ?_)
        all_goals(have FX:=And.intro hlx (And.intro hga (And.intro hll hlt2));repeat'(first|(refine sx ?_ ?_<;>intro h<;>first|(exfalso;omega)|skip)|(refine g_op ?_;refine g_call ?_;refine g_args ?_;(first|refine s_fn (hat _) ?_|refine s_fn (hit _) ?_|refine s_fn (htr _) ?_)<;>try first|omega|assumption)|refine ny ?_|refine WA_block ?_))
        all_goals(try(exfalso;omega))
        all_goals first
          | (have hnn:numP 7 w=none:=by rw [hnp,if_neg (fun q=>by first|exact absurd q.1 (by assumption)|omega)]
             rw [hbad hnn] at hQ
             refine r_esA hQ (v':= .tup [.nilsl,.bool false]) (.inl ⟨rfl,rfl,show WkV _ (.tup [.lst [],.bool false]) from wk_tup ⟨wk_nil,WkV.refl _,trivial⟩⟩)
             done)
          | (have hnn:numP 7 w=some n:=by rw [hnp,if_pos ⟨by assumption,by omega⟩]
             have hnz:=fun(_:Unit)=>hny n hnn
             (refine nextU_ hnz (()) [1] (⟨hlt,hnx n hnn⟩) (by dsimp only;omega) ?_ (ht:=?_);(focus (simp only [nuEx,hsv,List.nil_append,List.map_cons,List.map_nil,TB.inst,TV.inst,tv_map,List.cons_append,List.nil_append];first|rfl|(simp [ptsV,ptV];done)|(simp [hpsV,hpV];done)|(simp [frsV,frV];done)|(simp [txV];done)|(simp [prtsV,prtV];done)));(simp only [nuS,nxSt,List.nil_append,List.length_nil,List.map_cons,List.map_nil,TV.inst,List.getD_cons_zero,List.getD_cons_succ];exact tv_))
             done)
          | (have hnn:numP 7 w=none:=by rw [hnp,if_neg (fun q=>by first|exact absurd q.1 (by assumption)|omega)]
             rw [hbad hnn] at hQ
             refine r_esA hQ (v':= .tup [.nilsl,.bool false]) ?_)
          |trace_state
      | cons p r=>
        simp only [List.length_cons] at hol
        have hll:(nsV (p::r)).length=r.length+1:=nsV_length
        have hlt2:(nsV (p::r)).take (r.length+1)=nsV (p::r):=by rw [List.take_of_length_le (by rw [hll];exact Nat.le_refl _)]
        have hsv:nsV (p::(r++[n]))=nsV (p::r)++[[V.int .i64 n]]:=nsV_snocT (p::r) n
        simp only [nuS,nxSt,nuEx]
        simp only [List.map_cons,List.map_nil,TB.inst,TV.inst,tv_map,zipT,List.cons_append,List.nil_append,Nat.add_zero]
        (have FX:=And.intro hlx (And.intro hga (And.intro hll hlt2));repeat'(first|(refine sx ?_ ?_<;>intro h<;>first|(exfalso;omega)|skip)|(refine g_op ?_;refine g_call ?_;refine g_args ?_;(first|refine s_fn (hat _) ?_|refine s_fn (hit _) ?_|refine s_fn (htr _) ?_)<;>try first|omega|assumption)|refine ny ?_|refine WA_block ?_))
        all_goals(try(exfalso;omega))
        all_goals(refine g_op ?_;refine s_niN ?_)
        all_goals(have FX:=And.intro hlx (And.intro hga (And.intro hll hlt2));repeat'(first|(refine sx ?_ ?_<;>intro h<;>first|(exfalso;omega)|skip)|(refine g_op ?_;refine g_call ?_;refine g_args ?_;(first|refine s_fn (hat _) ?_|refine s_fn (hit _) ?_|refine s_fn (htr _) ?_)<;>try first|omega|assumption)|refine ny ?_|refine WA_block ?_))
        all_goals(try(exfalso;omega))
        all_goals first
          | (have hnn:numP 7 w=none:=by rw [hnp,if_neg (fun q=>by first|exact absurd q.1 (by assumption)|omega)]
             rw [hbad hnn] at hQ
             refine r_esA hQ (v':= .tup [.nilsl,.bool false]) (.inl ⟨rfl,rfl,show WkV _ (.tup [.lst [],.bool false]) from wk_tup ⟨wk_nil,WkV.refl _,trivial⟩⟩)
             done)
          | (have hnn:numP 7 w=some n:=by rw [hnp,if_pos ⟨by assumption,by omega⟩]
             have hnz:=fun(_:Unit)=>hny n hnn
             (refine nextU_ hnz (()) [2] (⟨hlt,hnx n hnn⟩) (by dsimp only;omega) ?_ (ht:=?_);(focus (simp only [nuEx,hsv,List.cons_append,List.map_cons,List.map_nil,TB.inst,TV.inst,tv_map,List.cons_append,List.nil_append];first|rfl|(simp [ptsV,ptV];done)|(simp [hpsV,hpV];done)|(simp [frsV,frV];done)|(simp [txV];done)|(simp [prtsV,prtV];done)));(simp only [nuS,nxSt,List.cons_append,List.length_append,List.length_cons,List.length_nil,Nat.zero_add,List.map_cons,List.map_nil,TV.inst,List.getD_cons_zero,List.getD_cons_succ];exact tv_))
             done)
          |trace_state
    · have hnn:numP 7 w=none:=by unfold numP;rw [ha]
      rw [hbad hnn] at hQ
      have hll:=hlx
      have hlt2:=hlx
      simp only [nuS]
      simp only [List.map_cons,List.map_nil,TB.inst,TV.inst,tv_map,zipT,List.cons_append,List.nil_append,Nat.add_zero]
      (have FX:=And.intro hlx (And.intro hga (And.intro hll hlt2));repeat'(first|(refine sx ?_ ?_<;>intro h<;>first|(exfalso;omega)|skip)|refine ny ?_|refine WA_block ?_))
      all_goals(try(exfalso;omega))
      refine g_op ?_;refine g_call ?_;refine g_args ?_;refine s_fnA (xatoi_bad w (by omega) (fun v q=>by rw [ha] at q;cases q) _) ?_
      rintro v mo ⟨rfl,n,rfl⟩
      simp only [Option.getD_none]
      (have FX:=And.intro hlx (And.intro hga (And.intro hll hlt2));repeat'(first|(refine sx ?_ ?_<;>intro h<;>first|(exfalso;omega)|skip)|refine ny ?_|refine WA_block ?_))
      refine s_ifN ?_
      (have FX:=And.intro hlx (And.intro hga (And.intro hll hlt2));repeat'(first|(refine sx ?_ ?_<;>intro h<;>first|(exfalso;omega)|skip)|refine ny ?_|refine WA_block ?_))
      all_goals(try(exfalso;omega))
      refine r_esA hQ (v':= .tup [.nilsl,.bool false]) (.inl ⟨rfl,rfl,show WkV _ (.tup [.lst [],.bool false]) from wk_tup ⟨wk_nil,WkV.refl _,trivial⟩⟩)
    · have hnn:numP 7 w=none:=by unfold numP;rw [ha]
      rw [hbad hnn] at hQ
      have hll:=hlx
      have hlt2:=hlx
      simp only [nuS]
      simp only [List.map_cons,List.map_nil,TB.inst,TV.inst,tv_map,zipT,List.cons_append,List.nil_append,Nat.add_zero]
      (have FX:=And.intro hlx (And.intro hga (And.intro hll hlt2));repeat'(first|(refine sx ?_ ?_<;>intro h<;>first|(exfalso;omega)|skip)|refine ny ?_|refine WA_block ?_))
      all_goals(try(exfalso;omega))
      refine g_op ?_;refine g_call ?_;refine g_args ?_;refine s_fnA (xatoi_bad w (by omega) (fun v q=>by rw [ha] at q;cases q) _) ?_
      rintro v mo ⟨rfl,n,rfl⟩
      simp only [Option.getD_none]
      (have FX:=And.intro hlx (And.intro hga (And.intro hll hlt2));repeat'(first|(refine sx ?_ ?_<;>intro h<;>first|(exfalso;omega)|skip)|refine ny ?_|refine WA_block ?_))
      refine s_ifN ?_
      (have FX:=And.intro hlx (And.intro hga (And.intro hll hlt2));repeat'(first|(refine sx ?_ ?_<;>intro h<;>first|(exfalso;omega)|skip)|refine ny ?_|refine WA_block ?_))
      all_goals(try(exfalso;omega))
      refine r_esA hQ (v':= .tup [.nilsl,.bool false]) (.inl ⟨rfl,rfl,show WkV _ (.tup [.lst [],.bool false]) from wk_tup ⟨wk_nil,WkV.refl _,trivial⟩⟩)
  · obtain rfl:i=ws.length:=by omega
    rw [List.take_of_length_le (Nat.le_refl _)] at hnl
    rw [hnl] at hQ
    have hga:=hlx
    clear hK
    cases l with
    | nil=>
      have hll:=hlx
      have hlt2:=hlx
      simp only [nuS,nxSt,nuEx]
      simp only [List.map_cons,List.map_nil,TB.inst,TV.inst,tv_map,zipT,List.cons_append,List.nil_append,Nat.add_zero]
      (have FX:=And.intro hlx (And.intro hga (And.intro hll hlt2));repeat'(first|(refine sx ?_ ?_<;>intro h<;>first|(exfalso;omega)|skip)|refine ny ?_|refine WA_block ?_))
      all_goals(try(exfalso;omega))
      refine r_esA hQ (v':= .tup [.nilsl,.bool true]) (.inl ⟨rfl,rfl,show WkV _ (.tup [.lst [],.bool true]) from wk_tup ⟨wk_nil,WkV.refl _,trivial⟩⟩)
    | cons p r=>
      have hll:(nsV (p::r)).length=r.length+1:=nsV_length
      have hlt2:(nsV (p::r)).take (r.length+1)=nsV (p::r):=by rw [List.take_of_length_le (by rw [hll];exact Nat.le_refl _)]
      simp only [nuS,nxSt,nuEx]
      simp only [List.map_cons,List.map_nil,TB.inst,TV.inst,tv_map,zipT,List.cons_append,List.nil_append,Nat.add_zero]
      (have FX:=And.intro hlx (And.intro hga (And.intro hll hlt2));repeat'(first|(refine sx ?_ ?_<;>intro h<;>first|(exfalso;omega)|skip)|refine ny ?_|refine WA_block ?_))
      all_goals(try(exfalso;omega))
      refine r_esA hQ (v':= .tup [.sl B.length (r.length+1),.bool true]) (fin_sl2 (j:=0) (X:=[.cells .own 3 1 (nsV (p::r))]) hB rfl (by rw [hll];exact Nat.le_refl _) (by rw [hlt2];exact nsV_plain _) (fun m L=>frz_bool m L 3 _) ⟨rfl,by rw [hlt2];exact WkV.refl _⟩)
end Go.Proofs.YtookikhphobnlaaGreatDoor
namespace Go.Proofs.YtookikhphobnlaaGreatDoor
open Go.RowKit
attribute [local irreducible] WA WOs WDs WAn qThen qBlock tput
set_option maxHeartbeats 1000000
set_option maxRecDepth 20000
set_option linter.unusedSimpArgs false
set_option linter.unusedVariables false

theorem gisname_c(s:List UInt8)(hs:s.length≤1000)(m:Mem):Gives Tryz.prog 85 [.str s] m (.bool (decide (nameP s))):=by
  have hgi:=hs
  refine Gives_in Tryz.func85 rfl Tryz.ntmps85 Tryz.results85 (by kernel_rfl) (by simp) rfl fun Q hQ=>?_
  (have FX:=hgi;repeat'(first|(refine sx ?_ ?_<;>intro h<;>first|(exfalso;omega)|skip)|refine ny ?_|refine WA_block ?_))
  refine WA_while (σ:=Nat) [0,2,6,7] (fun i=>[.str s,.bool false,.int .i64 s.length,.int .i64 i]) (fun _=>lend m++[]) (fun i=>i≤s.length∧∀ j,j<i→okC s j) (fun i=>s.length - i) 0 ⟨Nat.zero_le _,fun j h=>absurd h (Nat.not_lt_zero _)⟩ tv_ rfl ?_
  rintro i ⟨hi,hj⟩ L hL
  simp only [zipT]
  clear FX
  rcases Nat.lt_or_ge i s.length with hlt|hge
  · have hgi:=byt_get hlt
    have hok:okC s i↔(letP (byt s i)∨(i≠0∧(digP (byt s i)∨byt s i=45))):=Iff.rfl
    unfold letP digP at hok
    unfold byt at hok
    (have FX:=hgi;repeat'(first|(refine sx ?_ ?_<;>intro h<;>first|(exfalso;omega)|skip)|refine ny ?_|refine WA_block ?_))
    all_goals(try(exfalso;omega))
    all_goals try
      ((refine r_es hQ ?_;try with_reducible rfl)
       exact congrArg V.bool (nameP_bad hlt (fun h=>by have:=hok.1 h;omega)).symm)
    all_goals(refine next_ hL (i+1) ⟨by omega,fun j h=>?_⟩ (by omega))
    all_goals(rcases Nat.lt_or_ge j i with h2|h2)
    all_goals first
      |exact hj j h2
      | (obtain rfl:j=i:=by omega
         exact hok.2 (by omega))
  · have e:i=s.length:=by omega
    subst e
    have hgi:=hs
    have hnm:nameP s↔(1≤s.length∧s.length≤12):=⟨fun h=>⟨h.1,h.2.1⟩,fun h=>⟨h.1,h.2,hj⟩⟩
    have hne:s=[]↔s.length=0:=str_eq_nil
    (have FX:=hgi;repeat'(first|(refine sx ?_ ?_<;>intro h<;>first|(exfalso;omega)|skip)|refine ny ?_|refine WA_block ?_))
    all_goals(try(exfalso;omega))
    all_goals((refine r_es hQ ?_;try with_reducible rfl))
    all_goals(clear hQ hL;simp only [hne] at *)
    all_goals first
      |exact congrArg V.bool (decide_eq_true (hnm.2 (by omega))).symm
      |exact congrArg V.bool (decide_eq_false (fun h=>by have:=hnm.1 h;omega)).symm

theorem bisletter_c(c:Int)(m:Mem):Gives Tryz.prog 109 [.int .u8 c] m (.bool (decide (letP c))):=by
  refine Gives_in Tryz.func109 rfl Tryz.ntmps109 Tryz.results109 (by kernel_rfl) (by simp) rfl fun Q hQ=>?_
  (repeat'(first|(refine sx ?_ ?_<;>intro h<;>first|(exfalso;omega)|skip)|refine ny ?_|refine WA_block ?_))
  all_goals((refine r_es hQ ?_;try with_reducible rfl);unfold letP)
  all_goals(first|exact congrArg V.bool (decide_eq_true (by first|omega|simp_all)).symm|exact congrArg V.bool (decide_eq_false (by first|omega|simp_all)).symm|exact congrArg V.bool (decide_eq_decide.2 (by omega)))

theorem bisdigit_c(c:Int)(m:Mem):Gives Tryz.prog 71 [.int .u8 c] m (.bool (decide (digP c))):=by
  refine Gives_in Tryz.func71 rfl Tryz.ntmps71 Tryz.results71 (by kernel_rfl) (by simp) rfl fun Q hQ=>?_
  (repeat'(first|(refine sx ?_ ?_<;>intro h<;>first|(exfalso;omega)|skip)|refine ny ?_|refine WA_block ?_))
  all_goals((refine r_es hQ ?_;try with_reducible rfl);unfold digP)
  all_goals(first|exact congrArg V.bool (decide_eq_true (by first|omega|simp_all)).symm|exact congrArg V.bool (decide_eq_false (by first|omega|simp_all)).symm|exact congrArg V.bool (decide_eq_decide.2 (by omega)))

theorem bisname_c (s:List UInt8) (m:Mem):Gives Tryz.prog 80 [.str s] m (.bool (decide (nameP s))):=by
  rcases Nat.eq_zero_or_pos s.length with hz|hz
  · have hgi:=hz
    refine Gives_in Tryz.func80 rfl Tryz.ntmps80 Tryz.results80 (by kernel_rfl) (by simp) rfl fun Q hQ=>?_
    (have FX:=hgi;repeat'(first|(refine sx ?_ ?_<;>intro h<;>first|(exfalso;omega)|skip)|(refine g_op ?_;refine g_call ?_;refine g_args ?_;(first|refine s_fn (bisletter_c _ _) ?_|refine s_fn (bisdigit_c _ _) ?_)<;>try first|omega|assumption)|refine ny ?_|refine WA_block ?_))
    all_goals(try(exfalso;omega))
    all_goals((refine r_es hQ ?_;try with_reducible rfl))
    all_goals(exact congrArg V.bool (decide_eq_false (fun h=>by have:=h.1;omega)).symm)
  · have hgi:s[0]?=some (s.getD 0 0):=byt_get hz
    have hbd:byt s 0=((s.getD 0 0).toNat:Int):=rfl
    have hn0:nameP s→letP ((s.getD 0 0).toNat:Int):=fun hn=>by
      rcases hn.2.2 0 hz with h2|h2
      · exact h2
      · exact absurd rfl h2.1
    refine Gives_in Tryz.func80 rfl Tryz.ntmps80 Tryz.results80 (by kernel_rfl) (by simp) rfl fun Q hQ=>?_
    (have FX:=hgi;repeat'(first|(refine sx ?_ ?_<;>intro h<;>first|(exfalso;omega)|skip)|(refine g_op ?_;refine g_call ?_;refine g_args ?_;(first|refine s_fn (bisletter_c _ _) ?_|refine s_fn (bisdigit_c _ _) ?_)<;>try first|omega|assumption)|refine ny ?_|refine WA_block ?_))
    all_goals try
      ((refine r_es hQ ?_;try with_reducible rfl)
       exact congrArg V.bool (decide_eq_false (fun hn=>by first|(have h1:=hn.2.1;omega)|exact absurd (hn0 hn) (by assumption))).symm)
    have h0:letP ((s.getD 0 0).toNat:Int):=by assumption
    have h12:s.length≤12:=by omega
    refine WA_while (σ:=Nat) [0,2,3] (fun i=>[.str s,.bool false,.int .i64 i]) (fun _=>lend m++[]) (fun i=>i≤s.length∧∀ j,j<i→okC s j) (fun i=>s.length - i) 0 ⟨Nat.zero_le _,fun j h=>absurd h (Nat.not_lt_zero _)⟩ tv_ rfl ?_
    rintro i ⟨hi,hj⟩ L hL
    simp only [zipT]
    clear FX hgi
    rcases Nat.lt_or_ge i s.length with hlt|hge
    · have hgi:=byt_get hlt
      have hbi:byt s i=((s.getD i 0).toNat:Int):=rfl
      have hok:okC s i↔(letP ((s.getD i 0).toNat:Int)∨(i≠0∧(digP ((s.getD i 0).toNat:Int)∨((s.getD i 0).toNat:Int)=45))):=Iff.rfl
      have hz0:i=0→letP ((s.getD i 0).toNat:Int):=fun h=>by subst h;exact h0
      (have FX:=hgi;repeat'(first|(refine sx ?_ ?_<;>intro h<;>first|(exfalso;omega)|skip)|(refine g_op ?_;refine g_call ?_;refine g_args ?_;(first|refine s_fn (bisletter_c _ _) ?_|refine s_fn (bisdigit_c _ _) ?_)<;>try first|omega|assumption)|refine ny ?_|refine WA_block ?_))
      all_goals(try(exfalso;omega))
      all_goals try
        ((refine r_es hQ ?_;try with_reducible rfl)
         exact congrArg V.bool (nameP_bad hlt (fun h=>by have:=hok.1 h;grind)).symm)
      all_goals(refine next_ hL (i+1) ⟨by omega,fun j h=>?_⟩ (by omega))
      all_goals(rcases Nat.lt_or_ge j i with h2|h2)
      all_goals first
        |exact hj j h2
        | (obtain rfl:j=i:=by omega
           exact hok.2 (by grind))
    · have e:i=s.length:=by omega
      subst e
      have hgi:=hbd
      (have FX:=hgi;repeat'(first|(refine sx ?_ ?_<;>intro h<;>first|(exfalso;omega)|skip)|(refine g_op ?_;refine g_call ?_;refine g_args ?_;(first|refine s_fn (bisletter_c _ _) ?_|refine s_fn (bisdigit_c _ _) ?_)<;>try first|omega|assumption)|refine ny ?_|refine WA_block ?_))
      all_goals(try(exfalso;omega))
      all_goals((refine r_es hQ ?_;try with_reducible rfl))
      all_goals(exact congrArg V.bool (decide_eq_true ⟨hz,h12,hj⟩).symm)

theorem gwithin_c(n lo hi:Int)(m:Mem):Gives Tryz.prog 50 [.int .i64 n,.int .i64 lo,.int .i64 hi] m (.bool (decide (lo≤n∧n≤hi))):=by
  refine Gives_in Tryz.func50 rfl Tryz.ntmps50 Tryz.results50 (by kernel_rfl) (by simp) rfl fun Q hQ=>?_
  (repeat'(first|(refine sx ?_ ?_<;>intro h<;>first|(exfalso;omega)|skip)|refine ny ?_|refine WA_block ?_))
  all_goals((refine r_es hQ ?_;try with_reducible rfl);simp only [V.bool.injEq,decide_eq_true_eq,decide_eq_false_iff_not,eq_comm];first|omega|(simp;omega)|simp)

theorem bwithin_c(n lo hi:Int)(m:Mem):Gives Tryz.prog 13 [.int .i64 n,.int .i64 lo,.int .i64 hi] m (.bool (decide (lo≤n∧n≤hi))):=by
  refine Gives_in Tryz.func13 rfl Tryz.ntmps13 Tryz.results13 (by kernel_rfl) (by simp) rfl fun Q hQ=>?_
  (repeat'(first|(refine sx ?_ ?_<;>intro h<;>first|(exfalso;omega)|skip)|refine ny ?_|refine WA_block ?_))
  all_goals((refine r_es hQ ?_;try with_reducible rfl);simp only [V.bool.injEq,decide_eq_true_eq,decide_eq_false_iff_not,eq_comm];first|omega|(simp;omega)|simp)

theorem babs_c(n:Int)(h1: -9223372036854775807≤n)(h2:n≤9223372036854775807)(m:Mem):Gives Tryz.prog 73 [.int .i64 n] m (.int .i64 (n.natAbs:Int)):=by
  refine Gives_in Tryz.func73 rfl Tryz.ntmps73 Tryz.results73 (by kernel_rfl) (by simp) rfl fun Q hQ=>?_
  (repeat'(first|(refine sx ?_ ?_<;>intro h<;>first|(exfalso;omega)|skip)|refine ny ?_|refine WA_block ?_))
  all_goals((refine r_es hQ ?_;try with_reducible rfl);all_goals(simp only [V.int.injEq,true_and];omega))
def cmpI(x y:Int):Int:=if x<y then -1 else if y<x then 1 else 0
theorem cnan_c(n:Int)(m:Mem):Gives Tryz.prog 95 [.int .i64 n] m (.bool false):=by
  refine Gives_in Tryz.func95 rfl Tryz.ntmps95 Tryz.results95 (by kernel_rfl) (by simp) rfl fun Q hQ=>?_
  (repeat'(first|(refine sx ?_ ?_<;>intro h<;>first|(exfalso;omega)|skip)|refine ny ?_|refine WA_block ?_))
  all_goals((refine r_es hQ ?_;try with_reducible rfl);try simp)

theorem ccompare_c(x y:Int)(m:Mem):Gives Tryz.prog 60 [.int .i64 x,.int .i64 y] m (.int .i64 (cmpI x y)):=by
  refine Gives_in Tryz.func60 rfl Tryz.ntmps60 Tryz.results60 (by kernel_rfl) (by simp) rfl fun Q hQ=>?_
  (repeat'(first|(refine sx ?_ ?_<;>intro h<;>first|(exfalso;omega)|skip)|(refine g_op ?_;refine g_call ?_;refine g_args ?_;(first|refine s_fn (cnan_c _ _) ?_)<;>try first|omega|assumption)|refine ny ?_|refine WA_block ?_))
  all_goals((refine r_es hQ ?_;try with_reducible rfl);unfold cmpI;simp only [V.int.injEq,true_and];repeat (first|rw [if_pos (by assumption)]|rw [if_neg (by assumption)]))

theorem gsize_c(n:Int)(h1: -9223372036854775807≤n)(h2:n≤9223372036854775807)(m:Mem):Gives Tryz.prog 94 [.int .i64 n] m (.int .i64 (n.natAbs:Int)):=by
  refine Gives_in Tryz.func94 rfl Tryz.ntmps94 Tryz.results94 (by kernel_rfl) (by simp) rfl fun Q hQ=>?_
  (repeat'(first|(refine sx ?_ ?_<;>intro h<;>first|(exfalso;omega)|skip)|refine ny ?_|refine WA_block ?_))
  all_goals((refine r_es hQ ?_;try with_reducible rfl);try(simp only [V.int.injEq,true_and];split<;>omega))
end Go.Proofs.YtookikhphobnlaaGreatDoor
