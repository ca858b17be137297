import Derived.Test.YtjonlmpjdhoogaaGreatDoorProg
import Derived.Test.YtjonlmpjdhoogaaGreatDoorYD
import Derived.Orders
import Derived.OrdersIn
set_option linter.unusedSimpArgs false
set_option linter.unusedVariables false
/- facts about the types -/
namespace Go.Proofs.YtjonlmpjdhoogaaGreatDoor
open Go.RowKit
theorem agT127:agT Tryz.prog 127=some false:=by kernel_rfl
theorem agT157:agT Tryz.prog 157=some true:=by kernel_rfl
theorem agT22:agT Tryz.prog 22=some false:=by kernel_rfl
theorem agT25:agT Tryz.prog 25=some false:=by kernel_rfl
theorem agT3:agT Tryz.prog 3=some false:=by kernel_rfl
theorem agT38:agT Tryz.prog 38=some true:=by kernel_rfl
theorem agT39:agT Tryz.prog 39=some true:=by kernel_rfl
theorem agT42:agT Tryz.prog 42=some true:=by kernel_rfl
theorem agT46:agT Tryz.prog 46=some false:=by kernel_rfl
theorem agT47:agT Tryz.prog 47=some true:=by kernel_rfl
theorem agT5:agT Tryz.prog 5=some false:=by kernel_rfl
theorem agT50:agT Tryz.prog 50=some true:=by kernel_rfl
theorem agT54:agT Tryz.prog 54=some true:=by kernel_rfl
theorem agT57:agT Tryz.prog 57=some false:=by kernel_rfl
theorem agT58:agT Tryz.prog 58=some false:=by kernel_rfl
theorem agT62:agT Tryz.prog 62=some true:=by kernel_rfl
theorem agT64:agT Tryz.prog 64=some false:=by kernel_rfl
theorem agT86:agT Tryz.prog 86=some true:=by kernel_rfl
theorem agT9:agT Tryz.prog 9=some false:=by kernel_rfl
theorem arT102:arT Tryz.prog 102=none:=by kernel_rfl
theorem arT126:arT Tryz.prog 126=some (24,5):=by kernel_rfl
theorem arT144:arT Tryz.prog 144=some (20,127):=by kernel_rfl
theorem arT146:arT Tryz.prog 146=some (65,5):=by kernel_rfl
theorem arT152:arT Tryz.prog 152=none:=by kernel_rfl
theorem arT155:arT Tryz.prog 155=some (256,5):=by kernel_rfl
theorem arT157:arT Tryz.prog 157=none:=by kernel_rfl
theorem arT158:arT Tryz.prog 158=some (16,157):=by kernel_rfl
theorem arT164:arT Tryz.prog 164=none:=by kernel_rfl
theorem arT165:arT Tryz.prog 165=some (32,5):=by kernel_rfl
theorem arT166:arT Tryz.prog 166=some (64,5):=by kernel_rfl
theorem arT22:arT Tryz.prog 22=none:=by kernel_rfl
theorem arT38:arT Tryz.prog 38=none:=by kernel_rfl
theorem arT39:arT Tryz.prog 39=some (3,38):=by kernel_rfl
theorem arT42:arT Tryz.prog 42=some (3,3):=by kernel_rfl
theorem arT43:arT Tryz.prog 43=none:=by kernel_rfl
theorem arT46:arT Tryz.prog 46=none:=by kernel_rfl
theorem arT47:arT Tryz.prog 47=some (2,3):=by kernel_rfl
theorem arT48:arT Tryz.prog 48=none:=by kernel_rfl
theorem arT50:arT Tryz.prog 50=none:=by kernel_rfl
theorem arT54:arT Tryz.prog 54=none:=by kernel_rfl
theorem arT58:arT Tryz.prog 58=none:=by kernel_rfl
theorem arT62:arT Tryz.prog 62=none:=by kernel_rfl
theorem arT78:arT Tryz.prog 78=none:=by kernel_rfl
theorem arT86:arT Tryz.prog 86=some (3,3):=by kernel_rfl
theorem arT9:arT Tryz.prog 9=none:=by kernel_rfl
theorem arT97:arT Tryz.prog 97=none:=by kernel_rfl
theorem eqT38:eqT Tryz.prog 38=some [(0,0),(1,0)]:=by kernel_rfl
theorem eqT50:eqT Tryz.prog 50=some [(0,0),(1,0)]:=by kernel_rfl
theorem eqT57:eqT Tryz.prog 57=none:=by kernel_rfl
theorem eqT62:eqT Tryz.prog 62=some [(0,0),(1,0),(2,0),(3,0),(4,0),(5,0)]:=by kernel_rfl
theorem eqT64:eqT Tryz.prog 64=none:=by kernel_rfl
theorem eqT86:eqT Tryz.prog 86=some [(0,0),(1,0),(2,0)]:=by kernel_rfl
theorem eqT9:eqT Tryz.prog 9=none:=by kernel_rfl
theorem fdT152f0:fdT Tryz.prog 152 0=some (0,9):=by kernel_rfl
theorem fdT152f1:fdT Tryz.prog 152 1=some (1,9):=by kernel_rfl
theorem fdT152f2:fdT Tryz.prog 152 2=some (2,64):=by kernel_rfl
theorem fdT157f0:fdT Tryz.prog 157 0=some (0,5):=by kernel_rfl
theorem fdT157f1:fdT Tryz.prog 157 1=some (1,5):=by kernel_rfl
theorem fdT164f0:fdT Tryz.prog 164 0=some (0,9):=by kernel_rfl
theorem fdT38f0:fdT Tryz.prog 38 0=some (0,3):=by kernel_rfl
theorem fdT38f1:fdT Tryz.prog 38 1=some (1,3):=by kernel_rfl
theorem fdT50f0:fdT Tryz.prog 50 0=some (0,3):=by kernel_rfl
theorem fdT50f1:fdT Tryz.prog 50 1=some (1,3):=by kernel_rfl
theorem fdT54f0:fdT Tryz.prog 54 0=some (0,3):=by kernel_rfl
theorem fdT54f1:fdT Tryz.prog 54 1=some (1,3):=by kernel_rfl
theorem fdT54f2:fdT Tryz.prog 54 2=some (2,3):=by kernel_rfl
theorem fdT54f3:fdT Tryz.prog 54 3=some (3,3):=by kernel_rfl
theorem fdT54f4:fdT Tryz.prog 54 4=some (4,3):=by kernel_rfl
theorem fdT60f0:fdT Tryz.prog 60 0=some (0,57):=by kernel_rfl
theorem fdT60f1:fdT Tryz.prog 60 1=some (1,58):=by kernel_rfl
theorem fdT62f0:fdT Tryz.prog 62 0=some (0,42):=by kernel_rfl
theorem fdT62f1:fdT Tryz.prog 62 1=some (3,42):=by kernel_rfl
theorem fdT97f0:fdT Tryz.prog 97 0=some (0,3):=by kernel_rfl
theorem fdT97f1:fdT Tryz.prog 97 1=some (1,3):=by kernel_rfl
theorem intT116:intT Tryz.prog 116=some .u64:=by kernel_rfl
theorem intT117:intT Tryz.prog 117=none:=by kernel_rfl
theorem intT127:intT Tryz.prog 127=some .u64:=by kernel_rfl
theorem intT145:intT Tryz.prog 145=some .u32:=by kernel_rfl
theorem intT2:intT Tryz.prog 2=some .i64:=by kernel_rfl
theorem intT21:intT Tryz.prog 21=some .i32:=by kernel_rfl
theorem intT3:intT Tryz.prog 3=some .i64:=by kernel_rfl
theorem intT5:intT Tryz.prog 5=some .u8:=by kernel_rfl
theorem intT57:intT Tryz.prog 57=none:=by kernel_rfl
theorem intT58:intT Tryz.prog 58=none:=by kernel_rfl
theorem intT9:intT Tryz.prog 9=none:=by kernel_rfl
theorem kdT38:kdT Tryz.prog 38=0:=by kernel_rfl
theorem kdT50:kdT Tryz.prog 50=0:=by kernel_rfl
theorem kdT57:kdT Tryz.prog 57=1:=by kernel_rfl
theorem kdT62:kdT Tryz.prog 62=0:=by kernel_rfl
theorem kdT64:kdT Tryz.prog 64=6:=by kernel_rfl
theorem kdT86:kdT Tryz.prog 86=0:=by kernel_rfl
theorem kdT9:kdT Tryz.prog 9=0:=by kernel_rfl
theorem slT102:slT Tryz.prog 102=some 46:=by kernel_rfl
theorem slT104:slT Tryz.prog 104=none:=by kernel_rfl
theorem slT126:slT Tryz.prog 126=none:=by kernel_rfl
theorem slT144:slT Tryz.prog 144=none:=by kernel_rfl
theorem slT146:slT Tryz.prog 146=none:=by kernel_rfl
theorem slT155:slT Tryz.prog 155=none:=by kernel_rfl
theorem slT158:slT Tryz.prog 158=none:=by kernel_rfl
theorem slT165:slT Tryz.prog 165=none:=by kernel_rfl
theorem slT166:slT Tryz.prog 166=none:=by kernel_rfl
theorem slT22:slT Tryz.prog 22=some 62:=by kernel_rfl
theorem slT3:slT Tryz.prog 3=none:=by kernel_rfl
theorem slT39:slT Tryz.prog 39=none:=by kernel_rfl
theorem slT42:slT Tryz.prog 42=none:=by kernel_rfl
theorem slT43:slT Tryz.prog 43=some 50:=by kernel_rfl
theorem slT46:slT Tryz.prog 46=some 3:=by kernel_rfl
theorem slT47:slT Tryz.prog 47=none:=by kernel_rfl
theorem slT48:slT Tryz.prog 48=some 47:=by kernel_rfl
theorem slT58:slT Tryz.prog 58=some 5:=by kernel_rfl
theorem slT78:slT Tryz.prog 78=some 9:=by kernel_rfl
theorem slT86:slT Tryz.prog 86=none:=by kernel_rfl
theorem slT9:slT Tryz.prog 9=none:=by kernel_rfl
theorem smT3:smT Tryz.prog 3=true:=by kernel_rfl
theorem smT46:smT Tryz.prog 46=true:=by kernel_rfl
theorem smT47:smT Tryz.prog 47=true:=by kernel_rfl
theorem smT5:smT Tryz.prog 5=true:=by kernel_rfl
theorem smT50:smT Tryz.prog 50=true:=by kernel_rfl
theorem smT62:smT Tryz.prog 62=true:=by kernel_rfl
theorem smT9:smT Tryz.prog 9=true:=by kernel_rfl
theorem stT144:stT Tryz.prog 144=false:=by kernel_rfl
theorem stT152:stT Tryz.prog 152=true:=by kernel_rfl
theorem stT157:stT Tryz.prog 157=true:=by kernel_rfl
theorem stT158:stT Tryz.prog 158=false:=by kernel_rfl
theorem stT164:stT Tryz.prog 164=true:=by kernel_rfl
theorem stT165:stT Tryz.prog 165=false:=by kernel_rfl
theorem stT166:stT Tryz.prog 166=false:=by kernel_rfl
theorem stT38:stT Tryz.prog 38=true:=by kernel_rfl
theorem stT42:stT Tryz.prog 42=false:=by kernel_rfl
theorem stT47:stT Tryz.prog 47=false:=by kernel_rfl
theorem stT50:stT Tryz.prog 50=true:=by kernel_rfl
theorem stT54:stT Tryz.prog 54=true:=by kernel_rfl
theorem stT62:stT Tryz.prog 62=true:=by kernel_rfl
theorem stT86:stT Tryz.prog 86=false:=by kernel_rfl
theorem stT97:stT Tryz.prog 97=true:=by kernel_rfl
theorem strT102:strT Tryz.prog 102=false:=by kernel_rfl
theorem strT104:strT Tryz.prog 104=false:=by kernel_rfl
theorem strT126:strT Tryz.prog 126=false:=by kernel_rfl
theorem strT146:strT Tryz.prog 146=false:=by kernel_rfl
theorem strT22:strT Tryz.prog 22=false:=by kernel_rfl
theorem strT3:strT Tryz.prog 3=false:=by kernel_rfl
theorem strT42:strT Tryz.prog 42=false:=by kernel_rfl
theorem strT43:strT Tryz.prog 43=false:=by kernel_rfl
theorem strT46:strT Tryz.prog 46=false:=by kernel_rfl
theorem strT48:strT Tryz.prog 48=false:=by kernel_rfl
theorem strT58:strT Tryz.prog 58=false:=by kernel_rfl
theorem strT78:strT Tryz.prog 78=false:=by kernel_rfl
theorem strT86:strT Tryz.prog 86=false:=by kernel_rfl
theorem strT9:strT Tryz.prog 9=true:=by kernel_rfl
theorem szT127:szT Tryz.prog 127=1:=by kernel_rfl
theorem szT144:szT Tryz.prog 144=20:=by kernel_rfl
theorem szT152:szT Tryz.prog 152=3:=by kernel_rfl
theorem szT157:szT Tryz.prog 157=2:=by kernel_rfl
theorem szT158:szT Tryz.prog 158=32:=by kernel_rfl
theorem szT164:szT Tryz.prog 164=1:=by kernel_rfl
theorem szT165:szT Tryz.prog 165=32:=by kernel_rfl
theorem szT166:szT Tryz.prog 166=64:=by kernel_rfl
theorem szT22:szT Tryz.prog 22=1:=by kernel_rfl
theorem szT25:szT Tryz.prog 25=1:=by kernel_rfl
theorem szT3:szT Tryz.prog 3=1:=by kernel_rfl
theorem szT38:szT Tryz.prog 38=2:=by kernel_rfl
theorem szT39:szT Tryz.prog 39=6:=by kernel_rfl
theorem szT42:szT Tryz.prog 42=3:=by kernel_rfl
theorem szT46:szT Tryz.prog 46=1:=by kernel_rfl
theorem szT47:szT Tryz.prog 47=2:=by kernel_rfl
theorem szT5:szT Tryz.prog 5=1:=by kernel_rfl
theorem szT50:szT Tryz.prog 50=2:=by kernel_rfl
theorem szT54:szT Tryz.prog 54=5:=by kernel_rfl
theorem szT57:szT Tryz.prog 57=1:=by kernel_rfl
theorem szT58:szT Tryz.prog 58=1:=by kernel_rfl
theorem szT62:szT Tryz.prog 62=6:=by kernel_rfl
theorem szT64:szT Tryz.prog 64=1:=by kernel_rfl
theorem szT86:szT Tryz.prog 86=3:=by kernel_rfl
theorem szT9:szT Tryz.prog 9=1:=by kernel_rfl
theorem szT97:szT Tryz.prog 97=2:=by kernel_rfl
theorem zeT126:zeT Tryz.prog 126=some [.int .u8 0,.int .u8 0,.int .u8 0,.int .u8 0,.int .u8 0,.int .u8 0,.int .u8 0,.int .u8 0,.int .u8 0,.int .u8 0,.int .u8 0,.int .u8 0,.int .u8 0,.int .u8 0,.int .u8 0,.int .u8 0,.int .u8 0,.int .u8 0,.int .u8 0,.int .u8 0,.int .u8 0,.int .u8 0,.int .u8 0,.int .u8 0]:=by kernel_rfl
theorem zeT144:zeT Tryz.prog 144=some [.int .u64 0,.int .u64 0,.int .u64 0,.int .u64 0,.int .u64 0,.int .u64 0,.int .u64 0,.int .u64 0,.int .u64 0,.int .u64 0,.int .u64 0,.int .u64 0,.int .u64 0,.int .u64 0,.int .u64 0,.int .u64 0,.int .u64 0,.int .u64 0,.int .u64 0,.int .u64 0]:=by kernel_rfl
theorem zeT152:zeT Tryz.prog 152=some [.str [],.str [],.nilif]:=by kernel_rfl
theorem zeT157:zeT Tryz.prog 157=some [.int .u8 0,.int .u8 0]:=by kernel_rfl
theorem zeT158:zeT Tryz.prog 158=some [.int .u8 0,.int .u8 0,.int .u8 0,.int .u8 0,.int .u8 0,.int .u8 0,.int .u8 0,.int .u8 0,.int .u8 0,.int .u8 0,.int .u8 0,.int .u8 0,.int .u8 0,.int .u8 0,.int .u8 0,.int .u8 0,.int .u8 0,.int .u8 0,.int .u8 0,.int .u8 0,.int .u8 0,.int .u8 0,.int .u8 0,.int .u8 0,.int .u8 0,.int .u8 0,.int .u8 0,.int .u8 0,.int .u8 0,.int .u8 0,.int .u8 0,.int .u8 0]:=by kernel_rfl
theorem zeT164:zeT Tryz.prog 164=some [.str []]:=by kernel_rfl
theorem zeT165:zeT Tryz.prog 165=some [.int .u8 0,.int .u8 0,.int .u8 0,.int .u8 0,.int .u8 0,.int .u8 0,.int .u8 0,.int .u8 0,.int .u8 0,.int .u8 0,.int .u8 0,.int .u8 0,.int .u8 0,.int .u8 0,.int .u8 0,.int .u8 0,.int .u8 0,.int .u8 0,.int .u8 0,.int .u8 0,.int .u8 0,.int .u8 0,.int .u8 0,.int .u8 0,.int .u8 0,.int .u8 0,.int .u8 0,.int .u8 0,.int .u8 0,.int .u8 0,.int .u8 0,.int .u8 0]:=by kernel_rfl
theorem zeT22:zeT Tryz.prog 22=some [.nilsl]:=by kernel_rfl
theorem zeT25:zeT Tryz.prog 25=some [.int .i64 0]:=by kernel_rfl
theorem zeT3:zeT Tryz.prog 3=some [.int .i64 0]:=by kernel_rfl
theorem zeT38:zeT Tryz.prog 38=some [.int .i64 0,.int .i64 0]:=by kernel_rfl
theorem zeT39:zeT Tryz.prog 39=some [.int .i64 0,.int .i64 0,.int .i64 0,.int .i64 0,.int .i64 0,.int .i64 0]:=by kernel_rfl
theorem zeT42:zeT Tryz.prog 42=some [.int .i64 0,.int .i64 0,.int .i64 0]:=by kernel_rfl
theorem zeT46:zeT Tryz.prog 46=some [.nilsl]:=by kernel_rfl
theorem zeT47:zeT Tryz.prog 47=some [.int .i64 0,.int .i64 0]:=by kernel_rfl
theorem zeT5:zeT Tryz.prog 5=some [.int .u8 0]:=by kernel_rfl
theorem zeT50:zeT Tryz.prog 50=some [.int .i64 0,.int .i64 0]:=by kernel_rfl
theorem zeT54:zeT Tryz.prog 54=some [.int .i64 0,.int .i64 0,.int .i64 0,.int .i64 0,.int .i64 0]:=by kernel_rfl
theorem zeT60:zeT Tryz.prog 60=some [.nilptr,.nilsl]:=by kernel_rfl
theorem zeT62:zeT Tryz.prog 62=some [.int .i64 0,.int .i64 0,.int .i64 0,.int .i64 0,.int .i64 0,.int .i64 0]:=by kernel_rfl
theorem zeT86:zeT Tryz.prog 86=some [.int .i64 0,.int .i64 0,.int .i64 0]:=by kernel_rfl
theorem zeT9:zeT Tryz.prog 9=some [.str []]:=by kernel_rfl
theorem zeT97:zeT Tryz.prog 97=some [.int .i64 0,.int .i64 0]:=by kernel_rfl
end Go.Proofs.YtjonlmpjdhoogaaGreatDoor
namespace Go.Proofs.YtjonlmpjdhoogaaGreatDoor
open Go.RowKit
attribute [local irreducible] WA WOs WDs WAn qThen qBlock
set_option linter.unusedVariables false
theorem ma2{L ext:Mem}{a b:Blk}:(L++ext)++[a,b]=L++(ext++[a,b]):=List.append_assoc ..
theorem ofC_nilsl:ofC (.slice none 0 0)= .nilsl:=rfl
theorem ofC_nilptr:ofC (.pointer none)= .nilptr:=rfl
theorem ofC_nilfn:ofC .nilFunc= .nilfn:=rfl
theorem ofC_nilmap:ofC (.map none)= .nilmap:=rfl
theorem ofC_nilif:ofC .nilIface= .nilif:=rfl
theorem ofC_str{s:ByteArray}:ofC (.string s)= .str s.data.toList:=rfl
theorem tg_c{i j:Nat}{v:V}{r:List (Nat×V)}:tget ((i,v)::r) j=if i=j then v else tget r j:=rfl
theorem tg_n{j:Nat}:tget [] j= .any:=rfl
theorem lk_{α:Type}{a b:α}(h:a=b:=by first|(simp only [Bool.not_true,Bool.not_false,↓evO_tmp,↓evO_const,↓evO_func,↓evO_glb,gval,↓ev_s2a,evS2A,List.headD_cons,ofC_int,ofC_bool,ofC_nilsl,ofC_nilptr,ofC_nilfn,ofC_nilmap,ofC_nilif,ofC_str,↓tg_c,tg_n,↓reduceIte,Nat.reduceEqDiff,Nat.succ_ne_zero,Nat.zero_ne_one,Nat.one_ne_zero,argT,↓List.map_cons,List.map_nil,Nat.reduceAdd,List.cons_append,List.nil_append]<;>with_reducible exact rfl)|fail):a=b:=h
theorem rv_{α:Type}{a b:α}(h:a=b:=by first|(simp (disch:=omega) only [resV,resVs,resOne,tupV,↓ev_move,↓ev_assign,↓ev_pick,↓ev_alloc,↓ev_box,↓ev_load,↓ev_store,↓ev_binOp,↓ev_unOp,↓ev_extract,↓ev_fieldAddr,↓ev_field,↓ev_indexAddr,↓ev_index,↓ev_makeFunc,↓ev_build,↓ev_makeSlice,↓ev_buildSlice,↓ev_convert,↓ev_len,↓ev_max,↓ev_min,↓ev_append,↓ev_slice,maxLen_eq,b_aeq,b_ane,planEq,leafEq,←Bool.decide_and,b_add,b_sub,b_mul,b_quo,b_rem,b_and,b_or,b_xor,b_eql,b_neq,b_lss,b_leq,b_gtr,b_geq,b_sadd,b_seql,b_sneq,u_not,u_neg,okO_some,okR_eq,↓evO_tmp,↓evO_const,↓evO_func,↓evO_glb,gval,↓ev_s2a,evS2A,List.headD_cons,ofC_int,ofC_bool,ofC_nilsl,ofC_nilptr,ofC_nilfn,ofC_nilmap,ofC_nilif,ofC_str,tput_some,tput_none,i64w,u64w,Int.one_mul,Int.tdiv_eq_ediv_of_nonneg,ne_eq,not_false_eq_true,not_true_eq_false,Int.reduceEq,↓tg_c,tg_n,↓reduceIte,Nat.reduceEqDiff,true_and,and_true,evMax,evMin,reduceCtorEq,Nat.succ_ne_zero,Nat.zero_ne_one,Nat.one_ne_zero,Bool.not_true,Bool.not_false,argT,Nat.reduceAdd,pickT,List.map_cons,List.map_nil,Nat.reduceMul,Nat.reduceSub,Nat.reduceLT,Nat.reduceLeDiff,Nat.lt_irrefl,Int.reduceToNat,Int.reduceLT,Int.reduceLE,Int.reduceNeg,Int.reduceAdd,Int.reduceMul,Int.toNat_zero,Int.toNat_one,decide_true,decide_false,and_self,List.length_cons,List.length_nil,List.getElem?_cons_zero,List.getElem?_cons_succ,List.drop_zero,List.drop_succ_cons,List.take_zero,List.take_succ_cons,List.take_nil,List.drop_nil,List.cons_append,List.nil_append,List.set_cons_zero,List.set_cons_succ,List.all_cons,List.all_nil,Bool.and_true,Bool.and_self,Option.map_some,List.flatten_cons,List.flatten_nil,↓mg,↓ms,↓mg0,↓ms0,ma,ma2,ml,V.one,cellsV,partV,evLoad,evStore,ldB,wrB,evStrIdx,↓ev_nilCheck,evFA,evF,evIA,evI,evBuild,fillV,setAt,evSlice,evStrSlice,bound,chunks,evLen,evAppend,elsV,beq_self_eq_true,Nat.reduceBEq,evMake,evBuildSl,repL,List.replicate_succ,List.replicate_zero,List.range_succ,List.range_zero,Option.map_none,Int.toNat_natCast,Nat.zero_add,Nat.add_zero,Nat.zero_mul,Nat.one_mul,Int.le_refl,Nat.le_refl,agT127,agT157,agT22,agT25,agT3,agT38,agT39,agT42,agT46,agT47,agT5,agT50,agT54,agT57,agT58,agT62,agT64,agT86,agT9,arT102,arT126,arT144,arT146,arT152,arT155,arT157,arT158,arT164,arT165,arT166,arT22,arT38,arT39,arT42,arT43,arT46,arT47,arT48,arT50,arT54,arT58,arT62,arT78,arT86,arT9,arT97,eqT38,eqT50,eqT57,eqT62,eqT64,eqT86,eqT9,fdT152f0,fdT152f1,fdT152f2,fdT157f0,fdT157f1,fdT164f0,fdT38f0,fdT38f1,fdT50f0,fdT50f1,fdT54f0,fdT54f1,fdT54f2,fdT54f3,fdT54f4,fdT60f0,fdT60f1,fdT62f0,fdT62f1,fdT97f0,fdT97f1,intT116,intT117,intT127,intT145,intT2,intT21,intT3,intT5,intT57,intT58,intT9,kdT38,kdT50,kdT57,kdT62,kdT64,kdT86,kdT9,slT102,slT104,slT126,slT144,slT146,slT155,slT158,slT165,slT166,slT22,slT3,slT39,slT42,slT43,slT46,slT47,slT48,slT58,slT78,slT86,slT9,smT3,smT46,smT47,smT5,smT50,smT62,smT9,stT144,stT152,stT157,stT158,stT164,stT165,stT166,stT38,stT42,stT47,stT50,stT54,stT62,stT86,stT97,strT102,strT104,strT126,strT146,strT22,strT3,strT42,strT43,strT46,strT48,strT58,strT78,strT86,strT9,szT127,szT144,szT152,szT157,szT158,szT164,szT165,szT166,szT22,szT25,szT3,szT38,szT39,szT42,szT46,szT47,szT5,szT50,szT54,szT57,szT58,szT62,szT64,szT86,szT9,szT97,zeT126,zeT144,zeT152,zeT157,zeT158,zeT164,zeT165,zeT22,zeT25,zeT3,zeT38,zeT39,zeT42,zeT46,zeT47,zeT5,zeT50,zeT54,zeT60,zeT62,zeT86,zeT9,zeT97,FX]<;>with_reducible exact rfl)|(simp (disch:=omega) only [resV,resVs,resOne,tupV,↓ev_move,↓ev_assign,↓ev_pick,↓ev_alloc,↓ev_box,↓ev_load,↓ev_store,↓ev_binOp,↓ev_unOp,↓ev_extract,↓ev_fieldAddr,↓ev_field,↓ev_indexAddr,↓ev_index,↓ev_makeFunc,↓ev_build,↓ev_makeSlice,↓ev_buildSlice,↓ev_convert,↓ev_len,↓ev_max,↓ev_min,↓ev_append,↓ev_slice,maxLen_eq,b_aeq,b_ane,planEq,leafEq,←Bool.decide_and,b_add,b_sub,b_mul,b_quo,b_rem,b_and,b_or,b_xor,b_eql,b_neq,b_lss,b_leq,b_gtr,b_geq,b_sadd,b_seql,b_sneq,u_not,u_neg,okO_some,okR_eq,↓evO_tmp,↓evO_const,↓evO_func,↓evO_glb,gval,↓ev_s2a,evS2A,List.headD_cons,ofC_int,ofC_bool,ofC_nilsl,ofC_nilptr,ofC_nilfn,ofC_nilmap,ofC_nilif,ofC_str,tput_some,tput_none,i64w,u64w,Int.one_mul,Int.tdiv_eq_ediv_of_nonneg,ne_eq,not_false_eq_true,not_true_eq_false,Int.reduceEq,↓tg_c,tg_n,↓reduceIte,Nat.reduceEqDiff,true_and,and_true,evMax,evMin,reduceCtorEq,Nat.succ_ne_zero,Nat.zero_ne_one,Nat.one_ne_zero,Bool.not_true,Bool.not_false,argT,Nat.reduceAdd,pickT,List.map_cons,List.map_nil,Nat.reduceMul,Nat.reduceSub,Nat.reduceLT,Nat.reduceLeDiff,Nat.lt_irrefl,Int.reduceToNat,Int.reduceLT,Int.reduceLE,Int.reduceNeg,Int.reduceAdd,Int.reduceMul,Int.toNat_zero,Int.toNat_one,decide_true,decide_false,and_self,List.length_cons,List.length_nil,List.getElem?_cons_zero,List.getElem?_cons_succ,List.drop_zero,List.drop_succ_cons,List.take_zero,List.take_succ_cons,List.take_nil,List.drop_nil,List.cons_append,List.nil_append,List.set_cons_zero,List.set_cons_succ,List.all_cons,List.all_nil,Bool.and_true,Bool.and_self,Option.map_some,List.flatten_cons,List.flatten_nil,↓mg,↓ms,↓mg0,↓ms0,ma,ma2,ml,V.one,cellsV,partV,evLoad,evStore,ldB,wrB,evStrIdx,↓ev_nilCheck,evFA,evF,evIA,evI,evBuild,fillV,setAt,evSlice,evStrSlice,bound,chunks,evLen,evAppend,elsV,beq_self_eq_true,Nat.reduceBEq,evMake,evBuildSl,repL,List.replicate_succ,List.replicate_zero,List.range_succ,List.range_zero,Option.map_none,Int.toNat_natCast,Nat.zero_add,Nat.add_zero,Nat.zero_mul,Nat.one_mul,Int.le_refl,Nat.le_refl,agT127,agT157,agT22,agT25,agT3,agT38,agT39,agT42,agT46,agT47,agT5,agT50,agT54,agT57,agT58,agT62,agT64,agT86,agT9,arT102,arT126,arT144,arT146,arT152,arT155,arT157,arT158,arT164,arT165,arT166,arT22,arT38,arT39,arT42,arT43,arT46,arT47,arT48,arT50,arT54,arT58,arT62,arT78,arT86,arT9,arT97,eqT38,eqT50,eqT57,eqT62,eqT64,eqT86,eqT9,fdT152f0,fdT152f1,fdT152f2,fdT157f0,fdT157f1,fdT164f0,fdT38f0,fdT38f1,fdT50f0,fdT50f1,fdT54f0,fdT54f1,fdT54f2,fdT54f3,fdT54f4,fdT60f0,fdT60f1,fdT62f0,fdT62f1,fdT97f0,fdT97f1,intT116,intT117,intT127,intT145,intT2,intT21,intT3,intT5,intT57,intT58,intT9,kdT38,kdT50,kdT57,kdT62,kdT64,kdT86,kdT9,slT102,slT104,slT126,slT144,slT146,slT155,slT158,slT165,slT166,slT22,slT3,slT39,slT42,slT43,slT46,slT47,slT48,slT58,slT78,slT86,slT9,smT3,smT46,smT47,smT5,smT50,smT62,smT9,stT144,stT152,stT157,stT158,stT164,stT165,stT166,stT38,stT42,stT47,stT50,stT54,stT62,stT86,stT97,strT102,strT104,strT126,strT146,strT22,strT3,strT42,strT43,strT46,strT48,strT58,strT78,strT86,strT9,szT127,szT144,szT152,szT157,szT158,szT164,szT165,szT166,szT22,szT25,szT3,szT38,szT39,szT42,szT46,szT47,szT5,szT50,szT54,szT57,szT58,szT62,szT64,szT86,szT9,szT97,zeT126,zeT144,zeT152,zeT157,zeT158,zeT164,zeT165,zeT22,zeT25,zeT3,zeT38,zeT39,zeT42,zeT46,zeT47,zeT5,zeT50,zeT54,zeT60,zeT62,zeT86,zeT9,zeT97]<;>with_reducible exact rfl)|fail):a=b:=h
theorem ev_{α:Type}{a b:α}(h:a=b:=by first|(simp (disch:=omega) only [↓ev_move,↓ev_assign,↓ev_pick,↓ev_alloc,↓ev_box,↓ev_load,↓ev_store,↓ev_binOp,↓ev_unOp,↓ev_extract,↓ev_fieldAddr,↓ev_field,↓ev_indexAddr,↓ev_index,↓ev_makeFunc,↓ev_build,↓ev_makeSlice,↓ev_buildSlice,↓ev_convert,↓ev_len,↓ev_max,↓ev_min,↓ev_append,↓ev_slice,maxLen_eq,b_aeq,b_ane,planEq,leafEq,←Bool.decide_and,b_add,b_sub,b_mul,b_quo,b_rem,b_and,b_or,b_xor,b_eql,b_neq,b_lss,b_leq,b_gtr,b_geq,b_sadd,b_seql,b_sneq,u_not,u_neg,okO_some,okR_eq,↓evO_tmp,↓evO_const,↓evO_func,↓evO_glb,gval,↓ev_s2a,evS2A,List.headD_cons,ofC_int,ofC_bool,ofC_nilsl,ofC_nilptr,ofC_nilfn,ofC_nilmap,ofC_nilif,ofC_str,tput_some,tput_none,i64w,u64w,Int.one_mul,Int.tdiv_eq_ediv_of_nonneg,ne_eq,not_false_eq_true,not_true_eq_false,Int.reduceEq,↓tg_c,tg_n,↓reduceIte,Nat.reduceEqDiff,true_and,and_true,evMax,evMin,reduceCtorEq,Nat.succ_ne_zero,Nat.zero_ne_one,Nat.one_ne_zero,Bool.not_true,Bool.not_false,argT,Nat.reduceAdd,pickT,List.map_cons,List.map_nil,Nat.reduceMul,Nat.reduceSub,Nat.reduceLT,Nat.reduceLeDiff,Nat.lt_irrefl,Int.reduceToNat,Int.reduceLT,Int.reduceLE,Int.reduceNeg,Int.reduceAdd,Int.reduceMul,Int.toNat_zero,Int.toNat_one,decide_true,decide_false,and_self,List.length_cons,List.length_nil,List.getElem?_cons_zero,List.getElem?_cons_succ,List.drop_zero,List.drop_succ_cons,List.take_zero,List.take_succ_cons,List.take_nil,List.drop_nil,List.cons_append,List.nil_append,List.set_cons_zero,List.set_cons_succ,List.all_cons,List.all_nil,Bool.and_true,Bool.and_self,Option.map_some,List.flatten_cons,List.flatten_nil,↓mg,↓ms,↓mg0,↓ms0,ma,ma2,ml,V.one,cellsV,partV,evLoad,evStore,ldB,wrB,evStrIdx,↓ev_nilCheck,evFA,evF,evIA,evI,evBuild,fillV,setAt,evSlice,evStrSlice,bound,chunks,evLen,evAppend,elsV,beq_self_eq_true,Nat.reduceBEq,evMake,evBuildSl,repL,List.replicate_succ,List.replicate_zero,List.range_succ,List.range_zero,Option.map_none,Int.toNat_natCast,Nat.zero_add,Nat.add_zero,Nat.zero_mul,Nat.one_mul,Int.le_refl,Nat.le_refl,agT127,agT157,agT22,agT25,agT3,agT38,agT39,agT42,agT46,agT47,agT5,agT50,agT54,agT57,agT58,agT62,agT64,agT86,agT9,arT102,arT126,arT144,arT146,arT152,arT155,arT157,arT158,arT164,arT165,arT166,arT22,arT38,arT39,arT42,arT43,arT46,arT47,arT48,arT50,arT54,arT58,arT62,arT78,arT86,arT9,arT97,eqT38,eqT50,eqT57,eqT62,eqT64,eqT86,eqT9,fdT152f0,fdT152f1,fdT152f2,fdT157f0,fdT157f1,fdT164f0,fdT38f0,fdT38f1,fdT50f0,fdT50f1,fdT54f0,fdT54f1,fdT54f2,fdT54f3,fdT54f4,fdT60f0,fdT60f1,fdT62f0,fdT62f1,fdT97f0,fdT97f1,intT116,intT117,intT127,intT145,intT2,intT21,intT3,intT5,intT57,intT58,intT9,kdT38,kdT50,kdT57,kdT62,kdT64,kdT86,kdT9,slT102,slT104,slT126,slT144,slT146,slT155,slT158,slT165,slT166,slT22,slT3,slT39,slT42,slT43,slT46,slT47,slT48,slT58,slT78,slT86,slT9,smT3,smT46,smT47,smT5,smT50,smT62,smT9,stT144,stT152,stT157,stT158,stT164,stT165,stT166,stT38,stT42,stT47,stT50,stT54,stT62,stT86,stT97,strT102,strT104,strT126,strT146,strT22,strT3,strT42,strT43,strT46,strT48,strT58,strT78,strT86,strT9,szT127,szT144,szT152,szT157,szT158,szT164,szT165,szT166,szT22,szT25,szT3,szT38,szT39,szT42,szT46,szT47,szT5,szT50,szT54,szT57,szT58,szT62,szT64,szT86,szT9,szT97,zeT126,zeT144,zeT152,zeT157,zeT158,zeT164,zeT165,zeT22,zeT25,zeT3,zeT38,zeT39,zeT42,zeT46,zeT47,zeT5,zeT50,zeT54,zeT60,zeT62,zeT86,zeT9,zeT97,FX]<;>with_reducible exact rfl)|(simp (disch:=omega) only [↓ev_move,↓ev_assign,↓ev_pick,↓ev_alloc,↓ev_box,↓ev_load,↓ev_store,↓ev_binOp,↓ev_unOp,↓ev_extract,↓ev_fieldAddr,↓ev_field,↓ev_indexAddr,↓ev_index,↓ev_makeFunc,↓ev_build,↓ev_makeSlice,↓ev_buildSlice,↓ev_convert,↓ev_len,↓ev_max,↓ev_min,↓ev_append,↓ev_slice,maxLen_eq,b_aeq,b_ane,planEq,leafEq,←Bool.decide_and,b_add,b_sub,b_mul,b_quo,b_rem,b_and,b_or,b_xor,b_eql,b_neq,b_lss,b_leq,b_gtr,b_geq,b_sadd,b_seql,b_sneq,u_not,u_neg,okO_some,okR_eq,↓evO_tmp,↓evO_const,↓evO_func,↓evO_glb,gval,↓ev_s2a,evS2A,List.headD_cons,ofC_int,ofC_bool,ofC_nilsl,ofC_nilptr,ofC_nilfn,ofC_nilmap,ofC_nilif,ofC_str,tput_some,tput_none,i64w,u64w,Int.one_mul,Int.tdiv_eq_ediv_of_nonneg,ne_eq,not_false_eq_true,not_true_eq_false,Int.reduceEq,↓tg_c,tg_n,↓reduceIte,Nat.reduceEqDiff,true_and,and_true,evMax,evMin,reduceCtorEq,Nat.succ_ne_zero,Nat.zero_ne_one,Nat.one_ne_zero,Bool.not_true,Bool.not_false,argT,Nat.reduceAdd,pickT,List.map_cons,List.map_nil,Nat.reduceMul,Nat.reduceSub,Nat.reduceLT,Nat.reduceLeDiff,Nat.lt_irrefl,Int.reduceToNat,Int.reduceLT,Int.reduceLE,Int.reduceNeg,Int.reduceAdd,Int.reduceMul,Int.toNat_zero,Int.toNat_one,decide_true,decide_false,and_self,List.length_cons,List.length_nil,List.getElem?_cons_zero,List.getElem?_cons_succ,List.drop_zero,List.drop_succ_cons,List.take_zero,List.take_succ_cons,List.take_nil,List.drop_nil,List.cons_append,List.nil_append,List.set_cons_zero,List.set_cons_succ,List.all_cons,List.all_nil,Bool.and_true,Bool.and_self,Option.map_some,List.flatten_cons,List.flatten_nil,↓mg,↓ms,↓mg0,↓ms0,ma,ma2,ml,V.one,cellsV,partV,evLoad,evStore,ldB,wrB,evStrIdx,↓ev_nilCheck,evFA,evF,evIA,evI,evBuild,fillV,setAt,evSlice,evStrSlice,bound,chunks,evLen,evAppend,elsV,beq_self_eq_true,Nat.reduceBEq,evMake,evBuildSl,repL,List.replicate_succ,List.replicate_zero,List.range_succ,List.range_zero,Option.map_none,Int.toNat_natCast,Nat.zero_add,Nat.add_zero,Nat.zero_mul,Nat.one_mul,Int.le_refl,Nat.le_refl,agT127,agT157,agT22,agT25,agT3,agT38,agT39,agT42,agT46,agT47,agT5,agT50,agT54,agT57,agT58,agT62,agT64,agT86,agT9,arT102,arT126,arT144,arT146,arT152,arT155,arT157,arT158,arT164,arT165,arT166,arT22,arT38,arT39,arT42,arT43,arT46,arT47,arT48,arT50,arT54,arT58,arT62,arT78,arT86,arT9,arT97,eqT38,eqT50,eqT57,eqT62,eqT64,eqT86,eqT9,fdT152f0,fdT152f1,fdT152f2,fdT157f0,fdT157f1,fdT164f0,fdT38f0,fdT38f1,fdT50f0,fdT50f1,fdT54f0,fdT54f1,fdT54f2,fdT54f3,fdT54f4,fdT60f0,fdT60f1,fdT62f0,fdT62f1,fdT97f0,fdT97f1,intT116,intT117,intT127,intT145,intT2,intT21,intT3,intT5,intT57,intT58,intT9,kdT38,kdT50,kdT57,kdT62,kdT64,kdT86,kdT9,slT102,slT104,slT126,slT144,slT146,slT155,slT158,slT165,slT166,slT22,slT3,slT39,slT42,slT43,slT46,slT47,slT48,slT58,slT78,slT86,slT9,smT3,smT46,smT47,smT5,smT50,smT62,smT9,stT144,stT152,stT157,stT158,stT164,stT165,stT166,stT38,stT42,stT47,stT50,stT54,stT62,stT86,stT97,strT102,strT104,strT126,strT146,strT22,strT3,strT42,strT43,strT46,strT48,strT58,strT78,strT86,strT9,szT127,szT144,szT152,szT157,szT158,szT164,szT165,szT166,szT22,szT25,szT3,szT38,szT39,szT42,szT46,szT47,szT5,szT50,szT54,szT57,szT58,szT62,szT64,szT86,szT9,szT97,zeT126,zeT144,zeT152,zeT157,zeT158,zeT164,zeT165,zeT22,zeT25,zeT3,zeT38,zeT39,zeT42,zeT46,zeT47,zeT5,zeT50,zeT54,zeT60,zeT62,zeT86,zeT9,zeT97]<;>with_reducible exact rfl)|fail):a=b:=h
theorem ev2_{α:Type}{a b:α}(h:a=b:=by first|(simp (disch:=omega) only [↓ev_move,↓ev_assign,↓ev_pick,↓ev_alloc,↓ev_box,↓ev_load,↓ev_store,↓ev_binOp,↓ev_unOp,↓ev_extract,↓ev_fieldAddr,↓ev_field,↓ev_indexAddr,↓ev_index,↓ev_makeFunc,↓ev_build,↓ev_makeSlice,↓ev_buildSlice,↓ev_convert,↓ev_len,↓ev_max,↓ev_min,↓ev_append,↓ev_slice,maxLen_eq,b_aeq,b_ane,planEq,leafEq,←Bool.decide_and,b_add,b_sub,b_mul,b_quo,b_rem,b_and,b_or,b_xor,b_eql,b_neq,b_lss,b_leq,b_gtr,b_geq,b_sadd,b_seql,b_sneq,u_not,u_neg,okO_some,okR_eq,↓evO_tmp,↓evO_const,↓evO_func,↓evO_glb,gval,↓ev_s2a,evS2A,List.headD_cons,ofC_int,ofC_bool,ofC_nilsl,ofC_nilptr,ofC_nilfn,ofC_nilmap,ofC_nilif,ofC_str,tput_some,tput_none,i64w,u64w,Int.one_mul,Int.tdiv_eq_ediv_of_nonneg,ne_eq,not_false_eq_true,not_true_eq_false,Int.reduceEq,↓tg_c,tg_n,↓reduceIte,Nat.reduceEqDiff,true_and,and_true,evMax,evMin,reduceCtorEq,Nat.succ_ne_zero,Nat.zero_ne_one,Nat.one_ne_zero,Bool.not_true,Bool.not_false,argT,Nat.reduceAdd,pickT,List.map_cons,List.map_nil,Nat.reduceMul,Nat.reduceSub,Nat.reduceLT,Nat.reduceLeDiff,Nat.lt_irrefl,Int.reduceToNat,Int.reduceLT,Int.reduceLE,Int.reduceNeg,Int.reduceAdd,Int.reduceMul,Int.toNat_zero,Int.toNat_one,decide_true,decide_false,and_self,List.length_cons,List.length_nil,List.getElem?_cons_zero,List.getElem?_cons_succ,List.drop_zero,List.drop_succ_cons,List.take_zero,List.take_succ_cons,List.take_nil,List.drop_nil,List.cons_append,List.nil_append,List.set_cons_zero,List.set_cons_succ,List.all_cons,List.all_nil,Bool.and_true,Bool.and_self,Option.map_some,List.flatten_cons,List.flatten_nil,↓mg,↓ms,↓mg0,↓ms0,ma,ma2,ml,V.one,cellsV,partV,evLoad,evStore,ldB,wrB,evStrIdx,↓ev_nilCheck,evFA,evF,evIA,evI,evBuild,fillV,setAt,evSlice,evStrSlice,bound,chunks,evLen,evAppend,elsV,beq_self_eq_true,Nat.reduceBEq,evMake,evBuildSl,repL,List.replicate_succ,List.replicate_zero,List.range_succ,List.range_zero,Option.map_none,Int.toNat_natCast,Nat.zero_add,Nat.add_zero,Nat.zero_mul,Nat.one_mul,Int.le_refl,Nat.le_refl,agT127,agT157,agT22,agT25,agT3,agT38,agT39,agT42,agT46,agT47,agT5,agT50,agT54,agT57,agT58,agT62,agT64,agT86,agT9,arT102,arT126,arT144,arT146,arT152,arT155,arT157,arT158,arT164,arT165,arT166,arT22,arT38,arT39,arT42,arT43,arT46,arT47,arT48,arT50,arT54,arT58,arT62,arT78,arT86,arT9,arT97,eqT38,eqT50,eqT57,eqT62,eqT64,eqT86,eqT9,fdT152f0,fdT152f1,fdT152f2,fdT157f0,fdT157f1,fdT164f0,fdT38f0,fdT38f1,fdT50f0,fdT50f1,fdT54f0,fdT54f1,fdT54f2,fdT54f3,fdT54f4,fdT60f0,fdT60f1,fdT62f0,fdT62f1,fdT97f0,fdT97f1,intT116,intT117,intT127,intT145,intT2,intT21,intT3,intT5,intT57,intT58,intT9,kdT38,kdT50,kdT57,kdT62,kdT64,kdT86,kdT9,slT102,slT104,slT126,slT144,slT146,slT155,slT158,slT165,slT166,slT22,slT3,slT39,slT42,slT43,slT46,slT47,slT48,slT58,slT78,slT86,slT9,smT3,smT46,smT47,smT5,smT50,smT62,smT9,stT144,stT152,stT157,stT158,stT164,stT165,stT166,stT38,stT42,stT47,stT50,stT54,stT62,stT86,stT97,strT102,strT104,strT126,strT146,strT22,strT3,strT42,strT43,strT46,strT48,strT58,strT78,strT86,strT9,szT127,szT144,szT152,szT157,szT158,szT164,szT165,szT166,szT22,szT25,szT3,szT38,szT39,szT42,szT46,szT47,szT5,szT50,szT54,szT57,szT58,szT62,szT64,szT86,szT9,szT97,zeT126,zeT144,zeT152,zeT157,zeT158,zeT164,zeT165,zeT22,zeT25,zeT3,zeT38,zeT39,zeT42,zeT46,zeT47,zeT5,zeT50,zeT54,zeT60,zeT62,zeT86,zeT9,zeT97,FX]<;>exact rfl)|(simp (disch:=omega) only [↓ev_move,↓ev_assign,↓ev_pick,↓ev_alloc,↓ev_box,↓ev_load,↓ev_store,↓ev_binOp,↓ev_unOp,↓ev_extract,↓ev_fieldAddr,↓ev_field,↓ev_indexAddr,↓ev_index,↓ev_makeFunc,↓ev_build,↓ev_makeSlice,↓ev_buildSlice,↓ev_convert,↓ev_len,↓ev_max,↓ev_min,↓ev_append,↓ev_slice,maxLen_eq,b_aeq,b_ane,planEq,leafEq,←Bool.decide_and,b_add,b_sub,b_mul,b_quo,b_rem,b_and,b_or,b_xor,b_eql,b_neq,b_lss,b_leq,b_gtr,b_geq,b_sadd,b_seql,b_sneq,u_not,u_neg,okO_some,okR_eq,↓evO_tmp,↓evO_const,↓evO_func,↓evO_glb,gval,↓ev_s2a,evS2A,List.headD_cons,ofC_int,ofC_bool,ofC_nilsl,ofC_nilptr,ofC_nilfn,ofC_nilmap,ofC_nilif,ofC_str,tput_some,tput_none,i64w,u64w,Int.one_mul,Int.tdiv_eq_ediv_of_nonneg,ne_eq,not_false_eq_true,not_true_eq_false,Int.reduceEq,↓tg_c,tg_n,↓reduceIte,Nat.reduceEqDiff,true_and,and_true,evMax,evMin,reduceCtorEq,Nat.succ_ne_zero,Nat.zero_ne_one,Nat.one_ne_zero,Bool.not_true,Bool.not_false,argT,Nat.reduceAdd,pickT,List.map_cons,List.map_nil,Nat.reduceMul,Nat.reduceSub,Nat.reduceLT,Nat.reduceLeDiff,Nat.lt_irrefl,Int.reduceToNat,Int.reduceLT,Int.reduceLE,Int.reduceNeg,Int.reduceAdd,Int.reduceMul,Int.toNat_zero,Int.toNat_one,decide_true,decide_false,and_self,List.length_cons,List.length_nil,List.getElem?_cons_zero,List.getElem?_cons_succ,List.drop_zero,List.drop_succ_cons,List.take_zero,List.take_succ_cons,List.take_nil,List.drop_nil,List.cons_append,List.nil_append,List.set_cons_zero,List.set_cons_succ,List.all_cons,List.all_nil,Bool.and_true,Bool.and_self,Option.map_some,List.flatten_cons,List.flatten_nil,↓mg,↓ms,↓mg0,↓ms0,ma,ma2,ml,V.one,cellsV,partV,evLoad,evStore,ldB,wrB,evStrIdx,↓ev_nilCheck,evFA,evF,evIA,evI,evBuild,fillV,setAt,evSlice,evStrSlice,bound,chunks,evLen,evAppend,elsV,beq_self_eq_true,Nat.reduceBEq,evMake,evBuildSl,repL,List.replicate_succ,List.replicate_zero,List.range_succ,List.range_zero,Option.map_none,Int.toNat_natCast,Nat.zero_add,Nat.add_zero,Nat.zero_mul,Nat.one_mul,Int.le_refl,Nat.le_refl,agT127,agT157,agT22,agT25,agT3,agT38,agT39,agT42,agT46,agT47,agT5,agT50,agT54,agT57,agT58,agT62,agT64,agT86,agT9,arT102,arT126,arT144,arT146,arT152,arT155,arT157,arT158,arT164,arT165,arT166,arT22,arT38,arT39,arT42,arT43,arT46,arT47,arT48,arT50,arT54,arT58,arT62,arT78,arT86,arT9,arT97,eqT38,eqT50,eqT57,eqT62,eqT64,eqT86,eqT9,fdT152f0,fdT152f1,fdT152f2,fdT157f0,fdT157f1,fdT164f0,fdT38f0,fdT38f1,fdT50f0,fdT50f1,fdT54f0,fdT54f1,fdT54f2,fdT54f3,fdT54f4,fdT60f0,fdT60f1,fdT62f0,fdT62f1,fdT97f0,fdT97f1,intT116,intT117,intT127,intT145,intT2,intT21,intT3,intT5,intT57,intT58,intT9,kdT38,kdT50,kdT57,kdT62,kdT64,kdT86,kdT9,slT102,slT104,slT126,slT144,slT146,slT155,slT158,slT165,slT166,slT22,slT3,slT39,slT42,slT43,slT46,slT47,slT48,slT58,slT78,slT86,slT9,smT3,smT46,smT47,smT5,smT50,smT62,smT9,stT144,stT152,stT157,stT158,stT164,stT165,stT166,stT38,stT42,stT47,stT50,stT54,stT62,stT86,stT97,strT102,strT104,strT126,strT146,strT22,strT3,strT42,strT43,strT46,strT48,strT58,strT78,strT86,strT9,szT127,szT144,szT152,szT157,szT158,szT164,szT165,szT166,szT22,szT25,szT3,szT38,szT39,szT42,szT46,szT47,szT5,szT50,szT54,szT57,szT58,szT62,szT64,szT86,szT9,szT97,zeT126,zeT144,zeT152,zeT157,zeT158,zeT164,zeT165,zeT22,zeT25,zeT3,zeT38,zeT39,zeT42,zeT46,zeT47,zeT5,zeT50,zeT54,zeT60,zeT62,zeT86,zeT9,zeT97]<;>exact rfl)|fail):a=b:=h
theorem tv_{α:Type}{a b:α}(h:a=b:=by first|(simp (disch:=omega) only [↓ev_move,↓ev_assign,↓ev_pick,↓ev_alloc,↓ev_box,↓ev_load,↓ev_store,↓ev_binOp,↓ev_unOp,↓ev_extract,↓ev_fieldAddr,↓ev_field,↓ev_indexAddr,↓ev_index,↓ev_makeFunc,↓ev_build,↓ev_makeSlice,↓ev_buildSlice,↓ev_convert,↓ev_len,↓ev_max,↓ev_min,↓ev_append,↓ev_slice,maxLen_eq,b_aeq,b_ane,planEq,leafEq,←Bool.decide_and,b_add,b_sub,b_mul,b_quo,b_rem,b_and,b_or,b_xor,b_eql,b_neq,b_lss,b_leq,b_gtr,b_geq,b_sadd,b_seql,b_sneq,u_not,u_neg,okO_some,okR_eq,↓evO_tmp,↓evO_const,↓evO_func,↓evO_glb,gval,↓ev_s2a,evS2A,List.headD_cons,ofC_int,ofC_bool,ofC_nilsl,ofC_nilptr,ofC_nilfn,ofC_nilmap,ofC_nilif,ofC_str,tput_some,tput_none,i64w,u64w,Int.one_mul,Int.tdiv_eq_ediv_of_nonneg,ne_eq,not_false_eq_true,not_true_eq_false,Int.reduceEq,↓tg_c,tg_n,↓reduceIte,Nat.reduceEqDiff,true_and,and_true,evMax,evMin,reduceCtorEq,Nat.succ_ne_zero,Nat.zero_ne_one,Nat.one_ne_zero,Bool.not_true,Bool.not_false,argT,Nat.reduceAdd,pickT,List.map_cons,List.map_nil,Nat.reduceMul,Nat.reduceSub,Nat.reduceLT,Nat.reduceLeDiff,Nat.lt_irrefl,Int.reduceToNat,Int.reduceLT,Int.reduceLE,Int.reduceNeg,Int.reduceAdd,Int.reduceMul,Int.toNat_zero,Int.toNat_one,decide_true,decide_false,and_self,List.length_cons,List.length_nil,List.getElem?_cons_zero,List.getElem?_cons_succ,List.drop_zero,List.drop_succ_cons,List.take_zero,List.take_succ_cons,List.take_nil,List.drop_nil,List.cons_append,List.nil_append,List.set_cons_zero,List.set_cons_succ,List.all_cons,List.all_nil,Bool.and_true,Bool.and_self,Option.map_some,List.flatten_cons,List.flatten_nil,↓mg,↓ms,↓mg0,↓ms0,ma,ma2,ml,V.one,cellsV,partV,evLoad,evStore,ldB,wrB,evStrIdx,↓ev_nilCheck,evFA,evF,evIA,evI,evBuild,fillV,setAt,evSlice,evStrSlice,bound,chunks,evLen,evAppend,elsV,beq_self_eq_true,Nat.reduceBEq,evMake,evBuildSl,repL,List.replicate_succ,List.replicate_zero,List.range_succ,List.range_zero,Option.map_none,Int.toNat_natCast,Nat.zero_add,Nat.add_zero,Nat.zero_mul,Nat.one_mul,Int.le_refl,Nat.le_refl]<;>exact rfl)|fail):a=b:=h
theorem mixed:Tryz.prog.follows .mixedOrders=true:=by kernel_rfl
section
variable {P:Program} {N:Nat} {t:List (Nat×V)} {m:Mem} {Q:List (Nat×V)→Mem→Prop} {ops:Array Oper} {rest:List Oper} {d:Nat} {k:Option Nat} {op:Op} {ty:TypeId} {pos:String} {af:Array Edge} {g:FuncId} {ts:Array TypeId} {l:List Operand} {vs:List V} {v:V} {m':Mem} {p:Prop} {kd:Nat→Kd} {is:List El} {LL:Lim} {i j e:Nat} {want:Bool}
def OpG(P:Program)(N:Nat)(ops:Array Oper)(rest:List Oper)(t:List (Nat×V))(m:Mem)(Q:List (Nat×V)→Mem→Prop)(k:Option Nat)(op:Op)(ty:TypeId)(pos:String)(af:Array Edge):Prop:=WOs P N ops (⟨k,op,ty,pos,af,none⟩::rest) t m Q
def ArgG(P:Program)(N:Nat)(ops:Array Oper)(rest:List Oper)(t:List (Nat×V))(m:Mem)(Q:List (Nat×V)→Mem→Prop)(d:Nat)(fs cs:List V)(g:FuncId)(vs:List V):Prop:=∀ (f:Operand) (l:List Operand) (ts:Array TypeId) (ty:TypeId) (pos:String) (af:Array Edge),dOk N (some d)→evO t f= .clo (.func g) fs cs→fs++l.toArray.toList.map (evO t)++cs=vs→WOs P N ops (⟨some d,.call ⟨.value f,l.toArray,ts⟩,ty,pos,af,none⟩::rest) t m Q
def GuardG(P:Program)(N:Nat)(ops:Array Oper)(rest:List Oper)(t:List (Nat×V))(m:Mem)(Q:List (Nat×V)→Mem→Prop)(k:Option Nat)(op:Op)(ty:TypeId)(pos:String)(af:Array Edge)(j:Nat)(want:Bool):Prop:=WOs P N ops (⟨k,op,ty,pos,af,some (j,want)⟩::rest) t m Q
def DG(P:Program)(N:Nat)(ops:Array Oper)(kd:Nat→Kd)(LL:Lim)(i:Nat)(is:List El)(t:List (Nat×V))(m:Mem)(Q:List (Nat×V)→Mem→Prop):Prop:=WDs P N ops kd LL (.one i::is) t m Q
def DArgG(P:Program)(N:Nat)(ops:Array Oper)(kd:Nat→Kd)(LL:Lim)(i:Nat)(is:List El)(t:List (Nat×V))(m:Mem)(Q:List (Nat×V)→Mem→Prop)(d:Nat)(g:FuncId)(vs:List V):Prop:=∀ (l:List Operand) (ts:Array TypeId) (ty:TypeId) (pos:String) (af:Array Edge),dOk N (some d)→ops[i]?=some ⟨some d,.call ⟨.value (.func g),l.toArray,ts⟩,ty,pos,af,none⟩→l.map (evO t)=vs→WDs P N ops kd LL (.one i::is) t m Q
def CondG(P:Program)(N:Nat)(c:Operand)(x y:Code)(t:List (Nat×V))(m:Mem)(Q:Exit→List (Nat×V)→Mem→Prop):Prop:=WA P N (.cond c x y) t m Q
theorem g_op(h:OpG P N ops rest t m Q k op ty pos af):WOs P N ops (⟨k,op,ty,pos,af,none⟩::rest) t m Q:=h
theorem g_gd(h:GuardG P N ops rest t m Q k op ty pos af j want):WOs P N ops (⟨k,op,ty,pos,af,some (j,want)⟩::rest) t m Q:=h
theorem g_d(h:DG P N ops kd LL i is t m Q):WDs P N ops kd LL (.one i::is) t m Q:=h
theorem op_of(hd:dOk N k)(hev:evA P t m op=some (p,v,m'))(hp:p)(h:WOs P N ops rest (tput t k v) m' Q):WOs P N ops (⟨k,op,ty,pos,af,none⟩::rest) t m Q:=
  WOs_op hd fun K hK=>by rw [hev];exact⟨hp,hK _ _ h⟩
theorem s_op(h:WOs P N ops rest (tput t k v) m' Q)(hd:dOkB N k=true:=by first|exact rfl|fail)(hev:evA P t m op=some (p,v,m'):=by first|exact ev_|fail)(hp:p:=by first|exact trivial|assumption|omega):
    OpG P N ops rest t m Q k op ty pos af:=op_of (dOk_b hd) hev hp h
theorem s_mv{x:Operand}(h:WOs P N ops rest (tput t k v) m Q)(hd:dOkB N k=true:=by first|exact rfl|fail)(hv:evO t x=v:=by first|exact lk_|fail):OpG P N ops rest t m Q k (.move x) ty pos af:=op_of (dOk_b hd) (by rw [ev_move,hv]) trivial h
theorem s_as{x:Operand}(h:WOs P N ops rest (tput t k v) m Q)(hd:dOkB N k=true:=by first|exact rfl|fail)(hv:evO t x=v:=by first|exact lk_|fail):OpG P N ops rest t m Q k (.assign x) ty pos af:=op_of (dOk_b hd) (by rw [ev_assign,hv]) trivial h
theorem s_bin{o:BinOp}{T T':TypeId}{x y:Operand}{vx vy:V}(h:WOs P N ops rest (tput t k v) m Q)(hd:dOkB N k=true:=by first|exact rfl|fail)(hx:evO t x=vx:=by first|exact lk_|fail)(hy:evO t y=vy:=by first|exact lk_|fail)(hb:∀ m,evB P m o T vx vy=some (p,v,m):=by intro m;first|exact ev_|fail)(hp:p:=by first|exact trivial|assumption|omega):OpG P N ops rest t m Q k (.binOp o T x y T') ty pos af:=op_of (dOk_b hd) (by rw [ev_binOp,hx,hy,hb]) hp h
theorem s_un{o:UnOp}{T:TypeId}{x:Operand}{vx:V}(h:WOs P N ops rest (tput t k v) m Q)(hd:dOkB N k=true:=by first|exact rfl|fail)(hx:evO t x=vx:=by first|exact lk_|fail)(hb:evUn o vx=some v:=by first|exact ev_|fail):OpG P N ops rest t m Q k (.unOp o T x) ty pos af:=op_of (p:=True) (dOk_b hd) (by rw [ev_unOp,hx,hb];rfl) trivial h
theorem s_fa{T:TypeId}{x:Operand}{i:Nat}{vx:V}(h:WOs P N ops rest (tput t k v) m Q)(hd:dOkB N k=true:=by first|exact rfl|fail)(hx:evO t x=vx:=by first|exact lk_|fail)(hb:∀ m,evFA P m T i vx=some (p,v,m):=by intro m;first|exact ev_|fail)(hp:p:=by first|exact trivial|assumption|omega):OpG P N ops rest t m Q k (.fieldAddr T x i) ty pos af:=op_of (dOk_b hd) (by rw [ev_fieldAddr,hx,hb]) hp h
theorem s_fd{T:TypeId}{x:Operand}{i:Nat}{vx:V}(h:WOs P N ops rest (tput t k v) m Q)(hd:dOkB N k=true:=by first|exact rfl|fail)(hx:evO t x=vx:=by first|exact lk_|fail)(hb:∀ m,evF P m T i vx=some (p,v,m):=by intro m;first|exact ev_|fail)(hp:p:=by first|exact trivial|assumption|omega):OpG P N ops rest t m Q k (.field T x i) ty pos af:=op_of (dOk_b hd) (by rw [ev_field,hx,hb]) hp h
theorem s_ix{T:TypeId}{x y:Operand}{vx vy:V}(h:WOs P N ops rest (tput t k v) m Q)(hd:dOkB N k=true:=by first|exact rfl|fail)(hx:evO t x=vx:=by first|exact lk_|fail)(hy:evO t y=vy:=by first|exact lk_|fail)(hb:∀ m,evI P m T vx vy=some (p,v,m):=by intro m;first|exact ev_|fail)(hp:p:=by first|exact trivial|assumption|omega):OpG P N ops rest t m Q k (.index T x y) ty pos af:=op_of (dOk_b hd) (by rw [ev_index,hx,hy,hb]) hp h
theorem s_ia{T:TypeId}{x y:Operand}{vx vy:V}(h:WOs P N ops rest (tput t k v) m' Q)(hd:dOkB N k=true:=by first|exact rfl|fail)(hx:evO t x=vx:=by first|exact lk_|fail)(hy:evO t y=vy:=by first|exact lk_|fail)(hb:evIA P m T vx vy=some (p,v,m'):=by first|exact ev_|fail)(hp:p:=by first|exact trivial|assumption|omega):OpG P N ops rest t m Q k (.indexAddr T x y) ty pos af:=op_of (dOk_b hd) (by rw [ev_indexAddr,hx,hy,hb]) hp h
theorem s_ld{T:TypeId}{x:Operand}{vx:V}(h:WOs P N ops rest (tput t k v) m' Q)(hd:dOkB N k=true:=by first|exact rfl|fail)(hx:evO t x=vx:=by first|exact lk_|fail)(hb:evLoad P m T vx=some (p,v,m'):=by first|exact ev_|fail)(hp:p:=by first|exact trivial|assumption|omega):OpG P N ops rest t m Q k (.load T x) ty pos af:=op_of (dOk_b hd) (by rw [ev_load,hx,hb]) hp h
theorem s_tp(h:WOs P N ops rest ((d,v)::t) m Q):WOs P N ops rest (tput t (some d) v) m Q:=h
theorem s_tn(h:WOs P N ops rest t m Q):WOs P N ops rest (tput t none v) m Q:=h
theorem s_yes(h:WOs P N ops (⟨k,op,ty,pos,af,none⟩::rest) t m Q)(hj:(ops[j]?).bind (·.dst)=some e:=by first|exact rfl|fail)(ht:tget t e= .bool want:=by first|exact lk_|fail):GuardG P N ops rest t m Q k op ty pos af j want:=WOs_yes hj ht h
theorem s_no(h:WOs P N ops rest (tput t k (.tup [])) m Q)(hj:(ops[j]?).bind (·.dst)=some e:=by first|exact rfl|fail)(hd:dOkB N k=true:=by first|exact rfl|fail)(ht:tget t e= .bool (!want):=by first|exact lk_|fail):GuardG P N ops rest t m Q k op ty pos af j want:=WOs_no' hj (dOk_b hd) ht h
theorem s_noU(h:WOs P N ops rest (tput t k (.tup [])) m Q)(hj:(ops[j]?).bind (·.dst)=some e:=by first|exact rfl|fail)(hd:dOkB N k=true:=by first|exact rfl|fail)(ht:tget t e= .tup []:=by first|exact lk_|fail):GuardG P N ops rest t m Q k op ty pos af j want:=WOs_noU hj (dOk_b hd) ht h
theorem fn_args'{t:List (Nat×V)}{l:List Operand}{vs:List V}(h:l.map (evO t)=vs):([]:List V)++l.toArray.toList.map (evO t)++[]=vs:=by simpa using h
def CallG(P:Program)(N:Nat)(ops:Array Oper)(rest:List Oper)(t:List (Nat×V))(m:Mem)(Q:List (Nat×V)→Mem→Prop)(d:Nat)(g:FuncId)(l:List Operand)(ts:Array TypeId)(ty:TypeId)(pos:String)(af:Array Edge):Prop:=WOs P N ops (⟨some d,.call ⟨.value (.func g),l.toArray,ts⟩,ty,pos,af,none⟩::rest) t m Q
theorem g_call(h:CallG P N ops rest t m Q d g l ts ty pos af):OpG P N ops rest t m Q (some d) (.call ⟨.value (.func g),l.toArray,ts⟩) ty pos af:=h
def DynG(P:Program)(N:Nat)(ops:Array Oper)(rest:List Oper)(t:List (Nat×V))(m:Mem)(Q:List (Nat×V)→Mem→Prop)(d:Nat)(f:Operand)(l:List Operand)(ts:Array TypeId)(ty:TypeId)(pos:String)(af:Array Edge):Prop:=WOs P N ops (⟨some d,.call ⟨.value f,l.toArray,ts⟩,ty,pos,af,none⟩::rest) t m Q
theorem g_dyn{f:Operand}(h:DynG P N ops rest t m Q d f l ts ty pos af):OpG P N ops rest t m Q (some d) (.call ⟨.value f,l.toArray,ts⟩) ty pos af:=h
theorem g_args(h:ArgG P N ops rest t m Q d [] [] g vs)(hd:dOkB N (some d)=true:=by first|exact rfl|fail)(ha:l.map (evO t)=vs:=by first|exact lk_|fail):CallG P N ops rest t m Q d g l ts ty pos af:=h _ _ _ _ _ _ (dOk_b hd) rfl (fn_args' ha)
theorem g_dargs{f:Operand}{fs cs:List V}(h:ArgG P N ops rest t m Q d fs cs g vs)(hd:dOkB N (some d)=true:=by first|exact rfl|fail)(hf:evO t f= .clo (.func g) fs cs:=by first|exact ev_|fail)(ha:fs++l.map (evO t)++cs=vs:=by first|exact ev_|fail):DynG P N ops rest t m Q d f l ts ty pos af:=h _ _ _ _ _ _ (dOk_b hd) hf (by simpa using ha)
theorem s_fn{fs cs:List V}(hc:Gives P g vs m v)(h:WOs P N ops rest ((d,v)::t) m Q):ArgG P N ops rest t m Q d fs cs g vs:=fun _ _ _ _ _ _ hd hf ha=>WOs_gives hd hf ha hc h
theorem s_fnA{fs cs:List V}{R:V→Option Mem→Prop}(hc:CallA P g vs m R)(h:∀ v mo,R v mo→WOs P N ops rest ((d,v)::t) (mo.getD m) Q):ArgG P N ops rest t m Q d fs cs g vs:=fun _ _ _ _ _ _ hd hf ha=>WOs_call hd hf ha hc h
theorem s_fz1{fs cs:List V}{B X:Mem}{n:Nat}{st:Sta}{ty sz:Nat}{es:List (List V)}{vs':List V}(j:Nat)(p:Nat)(hc:Gives P g vs' m' v)(h:WOs P N ops rest ((d,v)::t) m' Q)(hm:m=B++X:=by first|exact rfl|fail)(hX:X[j]?=some (.cells st ty sz es):=by first|exact rfl|fail)(hp:vs[p]?=some (.sl (B.length+j) n):=by first|exact rfl|fail)(hn:n≤es.length:=by first|exact Nat.le_refl _|(simp;omega))(hvs:vs.set p (.lst (es.take n))=vs':=by first|exact rfl|fail)(hm':B++X.set j (.cells .ro ty sz es)=m':=by first|exact rfl|fail):ArgG P N ops rest t m Q d fs cs g vs:=by
  subst hm;subst hvs;subst hm'
  refine s_fnA (CallA_fz1 hX hp hn hc) ?_
  rintro v mo ⟨mo0,⟨rfl,rfl⟩,rfl⟩
  exact h
theorem s_fz2{fs cs:List V}{B X:Mem}{n n2:Nat}{st st2:Sta}{ty sz ty2 sz2:Nat}{es es2:List (List V)}{vs':List V}(j:Nat)(p:Nat)(j2:Nat)(p2:Nat)(hc:Gives P g vs' m' v)(h:WOs P N ops rest ((d,v)::t) m' Q)(hm:m=B++X:=by first|exact rfl|fail)(hX:X[j]?=some (.cells st ty sz es):=by first|exact rfl|fail)(hp:vs[p]?=some (.sl (B.length+j) n):=by first|exact rfl|fail)(hn:n≤es.length:=by first|exact Nat.le_refl _|(simp;omega))(hX2:(X.set j (.cells .ro ty sz es))[j2]?=some (.cells st2 ty2 sz2 es2):=by first|exact rfl|fail)(hp2:(vs.set p (.lst (es.take n)))[p2]?=some (.sl (B.length+j2) n2):=by first|exact rfl|fail)(hn2:n2≤es2.length:=by first|exact Nat.le_refl _|(simp;omega))(hvs:(vs.set p (.lst (es.take n))).set p2 (.lst (es2.take n2))=vs':=by first|exact rfl|fail)(hm':B++(X.set j (.cells .ro ty sz es)).set j2 (.cells .ro ty2 sz2 es2)=m':=by first|exact rfl|fail):ArgG P N ops rest t m Q d fs cs g vs:=by
  subst hm;subst hvs;subst hm'
  refine s_fnA (CallA_fz1 hX hp hn (CallA_fz1 hX2 hp2 hn2 hc)) ?_
  rintro v mo ⟨mo0,⟨mo1,⟨rfl,rfl⟩,rfl⟩,rfl⟩
  exact h
theorem d_op(h:WDs P N ops kd LL is (tput t k v) m' Q)(hi:ops[i]?=some ⟨k,op,ty,pos,af,none⟩:=by first|exact rfl|fail)(hd:dOkB N k=true:=by first|exact rfl|fail)(hev:evA P t m op=some (p,v,m'):=by first|exact ev_|fail)(hp:p:=by first|exact trivial|assumption|omega)(hk:kOk P LL (kd i) t op m m' v:=by first|(simp [kOk,isPure,isFresh,isRd,isLd,V.det,detL];done)|exact⟨rfl,rfl,Or.inr (Or.inl ⟨rfl,Or.inr ⟨_,_,rfl,ev_⟩⟩)⟩|exact⟨rfl,rfl,Or.inr (Or.inl ⟨rfl,Or.inr ⟨_,_,rfl,ev2_⟩⟩)⟩|exact⟨rfl,rfl,Or.inr (Or.inr ⟨rfl,Or.inr ⟨_,ev_,trivial⟩⟩)⟩|exact Or.inr (Or.inl ⟨_,_,_,_,_,_,_,_,_,rfl,lk_,lk_,rfl,rfl⟩)|exact Or.inr (Or.inr ⟨_,rfl,rfl⟩)|(refine Or.inr (Or.inl ⟨_,_,_,_,_,_,rfl,lk_,Or.inl ?_⟩);simp only [List.length_append,List.length_cons,List.length_nil];omega)|(exact Or.inr (Or.inl ⟨_,_,_,_,_,_,rfl,lk_,Or.inr ⟨_,ev_,rfl⟩⟩))|(refine Or.inr (Or.inr ⟨_,_,_,_,_,rfl,Or.inr ⟨lk_,Or.inl ?_⟩⟩);simp only [List.length_append,List.length_cons,List.length_nil];omega)|(exact Or.inr (Or.inr ⟨_,_,_,0,0,rfl,Or.inl lk_⟩))|(exact Or.inr (Or.inr ⟨_,_,_,_,_,rfl,Or.inr ⟨lk_,Or.inr ⟨_,ev_,rfl⟩⟩⟩))):DG P N ops kd LL i is t m Q:=
  WDs_op hi (dOk_b hd) fun K hK=>by rw [hev];exact⟨hp,hk,hK _ _ h⟩
theorem d_yes(h:WDs P N ops kd LL is (tput t k v) m' Q)(hi:ops[i]?=some ⟨k,op,ty,pos,af,some (j,want)⟩:=by first|exact rfl|fail)(hj:(ops[j]?).bind (·.dst)=some e:=by first|exact rfl|fail)(ht:tget t e= .bool want:=by first|exact lk_|fail)(hd:dOkB N k=true:=by first|exact rfl|fail)(hev:evA P t m op=some (p,v,m'):=by first|exact ev_|fail)(hp:p:=by first|exact trivial|assumption|omega)(hk:kOk P LL (kd i) t op m m' v:=by first|(simp [kOk,isPure,isFresh,isRd,isLd,V.det,detL];done)|exact⟨rfl,rfl,Or.inr (Or.inl ⟨rfl,Or.inr ⟨_,_,rfl,ev_⟩⟩)⟩|exact⟨rfl,rfl,Or.inr (Or.inl ⟨rfl,Or.inr ⟨_,_,rfl,ev2_⟩⟩)⟩|exact⟨rfl,rfl,Or.inr (Or.inr ⟨rfl,Or.inr ⟨_,ev_,trivial⟩⟩)⟩|exact Or.inr (Or.inl ⟨_,_,_,_,_,_,_,_,_,rfl,lk_,lk_,rfl,rfl⟩)|exact Or.inr (Or.inr ⟨_,rfl,rfl⟩)|(refine Or.inr (Or.inl ⟨_,_,_,_,_,_,rfl,lk_,Or.inl ?_⟩);simp only [List.length_append,List.length_cons,List.length_nil];omega)|(exact Or.inr (Or.inl ⟨_,_,_,_,_,_,rfl,lk_,Or.inr ⟨_,ev_,rfl⟩⟩))|(refine Or.inr (Or.inr ⟨_,_,_,_,_,rfl,Or.inr ⟨lk_,Or.inl ?_⟩⟩);simp only [List.length_append,List.length_cons,List.length_nil];omega)|(exact Or.inr (Or.inr ⟨_,_,_,0,0,rfl,Or.inl lk_⟩))|(exact Or.inr (Or.inr ⟨_,_,_,_,_,rfl,Or.inr ⟨lk_,Or.inr ⟨_,ev_,rfl⟩⟩⟩))):DG P N ops kd LL i is t m Q:=
  WDs_yes hi hj ht (dOk_b hd) fun K hK=>by rw [hev];exact⟨hp,hk,hK _ _ h⟩
theorem d_no(h:WDs P N ops kd LL is (tput t k (.tup [])) m Q)(hi:ops[i]?=some ⟨k,op,ty,pos,af,some (j,want)⟩:=by first|exact rfl|fail)(hj:(ops[j]?).bind (·.dst)=some e:=by first|exact rfl|fail)(hd:dOkB N k=true:=by first|exact rfl|fail)(ht:tget t e= .bool (!want):=by first|exact lk_|fail):DG P N ops kd LL i is t m Q:=WDs_no' hi hj (dOk_b hd) ht h
theorem d_noU(h:WDs P N ops kd LL is (tput t k (.tup [])) m Q)(hi:ops[i]?=some ⟨k,op,ty,pos,af,some (j,want)⟩:=by first|exact rfl|fail)(hj:(ops[j]?).bind (·.dst)=some e:=by first|exact rfl|fail)(hd:dOkB N k=true:=by first|exact rfl|fail)(ht:tget t e= .tup []:=by first|exact lk_|fail):DG P N ops kd LL i is t m Q:=WDs_noU hi hj (dOk_b hd) ht h
theorem d_args(h:DArgG P N ops kd LL i is t m Q d g vs)(hi:ops[i]?=some ⟨some d,.call ⟨.value (.func g),l.toArray,ts⟩,ty,pos,af,none⟩:=by first|exact rfl|fail)(hd:dOkB N (some d)=true:=by first|exact rfl|fail)(ha:l.map (evO t)=vs:=by first|exact lk_|fail):DG P N ops kd LL i is t m Q:=h _ _ _ _ _ (dOk_b hd) hi ha
theorem d_fn(hc:Gives P g vs m v)(h:WDs P N ops kd LL is ((d,v)::t) m Q)(hk:(kd i= .q∧v.det=true∧LL.ty=none)∨kd i= .a∨kd i= .w:=by first|exact .inl ⟨rfl,by simp [V.det,detL],rfl⟩|exact .inr (.inl rfl)|exact .inr (.inr rfl)|fail):DArgG P N ops kd LL i is t m Q d g vs:=fun _ _ _ _ _ hd hi ha=>WDs_fn hi hd ha hc hk h
def CallsTo(P:Program)(N:Nat)(ops:Array Oper)(kd:Nat→Kd)(LL:Lim)(cs:List Nat)(vs:List V)(t:List (Nat×V))(m:Mem)(t':List (Nat×V))(mf:Mem):Prop:=CallsOk P N ops kd LL cs vs t m mf∧callsT ops cs vs t=t'
theorem cl_nil:CallsTo P N ops kd LL [] [] t m t m:=⟨⟨rfl,rfl⟩,rfl⟩
theorem cl_step{c:Nat}{cs:List Nat}{vs':List V}{t':List (Nat×V)}{m1 mf:Mem}(h:CallsTo P N ops kd LL cs vs' ((d,v)::t) m1 t' mf)(ho:ops[c]?=some ⟨some d,op,ty,pos,af,none⟩)(hd:dOkB N (some d)=true)(hs:GStep P kd LL c op t m v m1):CallsTo P N ops kd LL (c::cs) (v::vs') t m t' mf:=by
  have hdst:dstOf ops c=some d:=by unfold dstOf;rw [ho];rfl
  obtain⟨h1,h2⟩:=h
  refine⟨⟨v,vs',m1,rfl,⟨_,ho,dOk_b hd,hs⟩,by rw [hdst];exact h1⟩,?_⟩
  simp only [callsT,hdst]
  exact h2
theorem cl_{c:Nat}{cs:List Nat}{f:Operand}{fs cc:List V}{vs':List V}{t':List (Nat×V)}{mf:Mem}(hc:∀ m',Gives P g vs m' v)(h:CallsTo P N ops kd LL cs vs' ((d,v)::t) m t' mf)(hk:kd c= .a)(ho:ops[c]?=some ⟨some d,.call ⟨.value f,l.toArray,ts⟩,ty,pos,af,none⟩)(hd:dOkB N (some d)=true)(hf:evO t f= .clo (.func g) fs cc)(ha:fs++l.map (evO t)++cc=vs):CallsTo P N ops kd LL (c::cs) (v::vs') t m t' mf:=by
  subst ha
  exact cl_step h ho hd (.inl ⟨hk,rfl,f,l.toArray,ts,g,fs,cc,rfl,hf,by simpa using hc⟩)
theorem clP{c:Nat}{cs:List Nat}{vs':List V}{t':List (Nat×V)}{mf:Mem}(h:CallsTo P N ops kd LL cs vs' ((d,v)::t) m t' mf)(hk:kd c= .a)(ho:ops[c]?=some ⟨some d,op,ty,pos,af,none⟩)(hd:dOkB N (some d)=true)(hpu:isPure op=true)(hev:∀ m,evA P t m op=some (p,v,m))(hp:p):CallsTo P N ops kd LL (c::cs) (v::vs') t m t' mf:=
  cl_step h ho hd (.inr (.inl ⟨hk,rfl,hpu,p,hp,hev⟩))
theorem mkP{n:Nat}{blk:Blk}(ho:ops[n]?=some ⟨k,op,ty,pos,af,none⟩:=by first|exact rfl|fail)(hd:dOkB N k=true:=by first|exact rfl|fail)(h1:isFresh op=true:=by first|exact rfl|fail)(h3:∀ m,evA P t m op=some (p,.ptr m.length 0 0,m++[blk]):=by intro m;first|exact ev_|fail)(hp:p:=by first|exact trivial|assumption|omega)(h2:blk.flat=true:=by first|exact rfl|simp [Blk.flat,plainL,V.plain]):MkOk P N ops t n (.ptr 0 0 0) blk:=
  ⟨_,p,ho,dOk_b hd,⟨h1,h2,.inr ⟨_,_,rfl⟩⟩,h3,hp⟩
theorem mkS{n q:Nat}{blk:Blk}(ho:ops[n]?=some ⟨k,op,ty,pos,af,none⟩:=by first|exact rfl|fail)(hd:dOkB N k=true:=by first|exact rfl|fail)(h1:isFresh op=true:=by first|exact rfl|fail)(h3:∀ m,evA P t m op=some (p,.sl m.length q,m++[blk]):=by intro m;first|exact ev_|fail)(hp:p:=by first|exact trivial|assumption|omega)(h2:blk.flat=true:=by first|exact rfl|simp [Blk.flat,plainL,V.plain]):MkOk P N ops t n (.sl 0 q) blk:=
  ⟨_,p,ho,dOk_b hd,⟨h1,h2,.inl ⟨_,rfl⟩⟩,h3,hp⟩
theorem d_g1{cs:List Nat}{n1 d1:Nat}{v1:TV}{b1:Blk}{t':List (Nat×V)}{mf:Mem}(hc:CallsTo P N ops kd LL cs vs t m t' mf)(h1:MkOk P N ops t n1 v1 b1)(hd1:dstOf ops n1=some d1)(h:WDs P N ops kd LL is ((d1,v1.inst fun _=>m.length+1)::t') ((mf++[.dead])++[b1]) Q):WDs P N ops kd LL (.grp true cs [n1]::is) t m Q:=by
  unfold WDs
  refine⟨vs,fun _=>v1,fun _=>b1,mf,hc.1,fun n hn=>?_,?_⟩
  · rw [List.mem_singleton.1 hn];exact h1
  · simp only [mksT,hd1,hc.2]
    exact h
theorem d_g2{cs:List Nat}{n1 d1 n2 d2:Nat}{v1 v2:TV}{b1 b2:Blk}{t':List (Nat×V)}{mf:Mem}(hc:CallsTo P N ops kd LL cs vs t m t' mf)(hne:(n2==n1)=false)(h1:MkOk P N ops t n1 v1 b1)(h2:MkOk P N ops t n2 v2 b2)(hd1:dstOf ops n1=some d1)(hd2:dstOf ops n2=some d2)(h:WDs P N ops kd LL is ((d2,v2.inst fun _=>m.length+3)::(d1,v1.inst fun _=>m.length+2)::t') ((mf++[.dead,.dead])++[b1,b2]) Q):WDs P N ops kd LL (.grp true cs [n1,n2]::is) t m Q:=by
  unfold WDs
  have e1:(if n1==n1 then v1 else v2)=v1:=by simp
  have e2:(if n2==n1 then v1 else v2)=v2:=by rw [hne];rfl
  have e3:(if n1==n1 then b1 else b2)=b1:=by simp
  have e4:(if n2==n1 then b1 else b2)=b2:=by rw [hne];rfl
  refine⟨vs,fun n=>if n==n1 then v1 else v2,fun n=>if n==n1 then b1 else b2,mf,hc.1,fun n hn=>?_,?_⟩
  · rcases List.mem_cons.1 hn with rfl|hn
    · simp only [e1,e3];exact h1
    · rw [List.mem_singleton.1 hn];simp only [e2,e4];exact h2
  · simp only [mksT,hd1,hd2,hc.2,e1,e2,List.map_cons,List.map_nil,e3,e4]
    exact h
theorem d_gP{cs:List Nat}{n1 d1 k1:Nat}{b1:Blk}{t':List (Nat×V)}{mf:Mem}(hc:CallsTo P N ops kd LL cs vs t m t' mf)(h1:MkOk P N ops t n1 (.ptr 0 0 0) b1)(h:WDs P N ops kd LL is ((d1,.ptr k1 0 0)::t') m' Q)(hd1:dstOf ops n1=some d1:=by first|exact rfl|fail)(hk1:m.length+1=k1:=by first|(simp only [ml,List.length_cons,List.length_nil,Nat.add_assoc,Nat.reduceAdd,Nat.zero_add]<;>with_reducible exact rfl)|fail)(hm:((mf++[.dead])++[b1])=m':=by first|exact ev_|fail):WDs P N ops kd LL (.grp true cs [n1]::is) t m Q:=d_g1 hc h1 hd1 (by rw [hm];subst hk1;exact h)
theorem d_gPP{cs:List Nat}{n1 d1 n2 d2 k1 k2:Nat}{b1 b2:Blk}{t':List (Nat×V)}{mf:Mem}(hc:CallsTo P N ops kd LL cs vs t m t' mf)(h1:MkOk P N ops t n1 (.ptr 0 0 0) b1)(h2:MkOk P N ops t n2 (.ptr 0 0 0) b2)(h:WDs P N ops kd LL is ((d2,.ptr k2 0 0)::(d1,.ptr k1 0 0)::t') m' Q)(hne:(n2==n1)=false:=by first|exact rfl|fail)(hd1:dstOf ops n1=some d1:=by first|exact rfl|fail)(hd2:dstOf ops n2=some d2:=by first|exact rfl|fail)(hk1:m.length+2=k1:=by first|(simp only [ml,List.length_cons,List.length_nil,Nat.add_assoc,Nat.reduceAdd,Nat.zero_add]<;>with_reducible exact rfl)|fail)(hk2:m.length+3=k2:=by first|(simp only [ml,List.length_cons,List.length_nil,Nat.add_assoc,Nat.reduceAdd,Nat.zero_add]<;>with_reducible exact rfl)|fail)(hm:((mf++[.dead,.dead])++[b1,b2])=m':=by first|exact ev_|fail):WDs P N ops kd LL (.grp true cs [n1,n2]::is) t m Q:=d_g2 hc hne h1 h2 hd1 hd2 (by rw [hm];subst hk1;subst hk2;exact h)
theorem d_gSS{cs:List Nat}{n1 d1 n2 d2 k1 k2 q1 q2:Nat}{b1 b2:Blk}{t':List (Nat×V)}{mf:Mem}(hc:CallsTo P N ops kd LL cs vs t m t' mf)(h1:MkOk P N ops t n1 (.sl 0 q1) b1)(h2:MkOk P N ops t n2 (.sl 0 q2) b2)(h:WDs P N ops kd LL is ((d2,.sl k2 q2)::(d1,.sl k1 q1)::t') m' Q)(hne:(n2==n1)=false:=by first|exact rfl|fail)(hd1:dstOf ops n1=some d1:=by first|exact rfl|fail)(hd2:dstOf ops n2=some d2:=by first|exact rfl|fail)(hk1:m.length+2=k1:=by first|(simp only [ml,List.length_cons,List.length_nil,Nat.add_assoc,Nat.reduceAdd,Nat.zero_add]<;>with_reducible exact rfl)|fail)(hk2:m.length+3=k2:=by first|(simp only [ml,List.length_cons,List.length_nil,Nat.add_assoc,Nat.reduceAdd,Nat.zero_add]<;>with_reducible exact rfl)|fail)(hm:((mf++[.dead,.dead])++[b1,b2])=m':=by first|exact ev_|fail):WDs P N ops kd LL (.grp true cs [n1,n2]::is) t m Q:=d_g2 hc hne h1 h2 hd1 hd2 (by rw [hm];subst hk1;subst hk2;exact h)
/-- a call that looks at no memory of this call's, in a region with calls that write -/
theorem d_fnQ(hc:∀ m,Gives P g vs m v)(h:WDs P N ops kd LL is ((d,v)::t) m Q)(hk:kd i= .q∧v.det=true:=by first|exact⟨rfl,by simp [V.det,detL]⟩|fail):DArgG P N ops kd LL i is t m Q d g vs:=fun _ _ _ _ _ hd hi ha=>WDs_givesQ hi hd rfl (fn_args' ha) hk hc h
theorem d_tp(h:WDs P N ops kd LL is ((d,v)::t) m Q):WDs P N ops kd LL is (tput t (some d) v) m Q:=h
theorem d_tn(h:WDs P N ops kd LL is t m Q):WDs P N ops kd LL is (tput t none v) m Q:=h
end
section
variable {N:Nat} {t:List (Nat×V)} {m:Mem} {c:Operand} {x y:Code} {Q:Exit→List (Nat×V)→Mem→Prop}
theorem g_c{P:Program}(h:CondG P N c x y t m Q):WA P N (.cond c x y) t m Q:=h
theorem c_T{P:Program}(h:WA P N x t m Q)(hc:evO t c= .bool true:=by first|exact lk_|fail):CondG P N c x y t m Q:=WA_condT hc h
theorem c_F{P:Program}(h:WA P N y t m Q)(hc:evO t c= .bool false:=by first|exact lk_|fail):CondG P N c x y t m Q:=WA_condF hc h
abbrev RgN(P:Program)(N:Nat)(l:List Oper)(t:List (Nat×V))(m:Mem)(Q:Exit→List (Nat×V)→Mem→Prop)(kd:Nat→Kd)(order:List El):Prop:=okMix l.toArray kd order=true∧WDs P N l.toArray kd ⟨m.length,none,[]⟩ order t m (fun t m=>Q .normal t m)
abbrev RgT(P:Program)(N:Nat)(l:List Oper)(t:List (Nat×V))(m:Mem)(Q:Exit→List (Nat×V)→Mem→Prop)(T:Nat)(kd:Nat→Kd)(order:List El):Prop:=okMix l.toArray kd order=true∧WDs P N l.toArray kd ⟨m.length,some T,m⟩ order t m (fun t m=>Q .normal t m)
theorem d_rgN{id:Nat}{l:List Oper}{kd:Nat→Kd}{order:List El}(h:RgN Tryz.prog N l t m Q kd order):WA Tryz.prog N (.region id l.toArray true) t m Q:=WA_draw mixed kd order h.1 h.2
theorem d_rgT{id:Nat}{l:List Oper}{T:Nat}{kd:Nat→Kd}{order:List El}(h:RgT Tryz.prog N l t m Q T kd order):WA Tryz.prog N (.region id l.toArray true) t m Q:=WA_drawL (some T) mixed kd order h.1 h.2
theorem r_es{P:Program}{e:Exit}{v v':V}{rs:List ResultVar}(hQ:∀ e t m',(e= .normal∨e= .ret)→resV P t m' rs=some v→Q e t m')(h:v'=v)(he:e= .normal∨e= .ret:=by first|exact .inl rfl|exact .inr rfl|fail)(hr:resV P t m rs=some v':=by first|exact rv_|fail):Q e t m:=hQ e t m he (h ▸ hr)
theorem r_esA{P:Program}{e:Exit}{m0:Mem}{R:V→Option Mem→Prop}{v':V}{rs:List ResultVar}(hQ:∀ e t m',(e= .normal∨e= .ret)→∀ v,resV P t m' rs=some v→Fin m0 R v m'→Q e t m')(h:Fin m0 R v' m)(he:e= .normal∨e= .ret:=by first|exact .inl rfl|exact .inr rfl|fail)(hr:resV P t m rs=some v':=by first|exact rv_|fail):Q e t m:=hQ e t m he v' hr h
theorem nextM_{σ:Type}{ks:List Nat}{st:σ→List TV}{B:Mem}{E:σ→Mem}{inv:σ→Prop}{lt:σ→Prop}{K:List (Nat×V)→Mem→Prop}(hL:∀ s' js t' m',RoundEnd B ks (st s') (E s') js t' m'→inv s'→lt s'→K t' m')(s':σ)(js:List Nat)(hi:inv s')(hl:lt s'){X:Mem}(hX:js.map (fun j=>X[j]?)=(E s').map some)(hm:m=B++X:=by first|exact rfl|fail)(ht:ks.map (tget t)=(st s').map (TV.inst fun i=>B.length+js.getD i 0):=by first|(simp (disch:=omega) only [↓ev_move,↓ev_assign,↓ev_pick,↓ev_alloc,↓ev_box,↓ev_load,↓ev_store,↓ev_binOp,↓ev_unOp,↓ev_extract,↓ev_fieldAddr,↓ev_field,↓ev_indexAddr,↓ev_index,↓ev_makeFunc,↓ev_build,↓ev_makeSlice,↓ev_buildSlice,↓ev_convert,↓ev_len,↓ev_max,↓ev_min,↓ev_append,↓ev_slice,maxLen_eq,b_aeq,b_ane,planEq,leafEq,←Bool.decide_and,b_add,b_sub,b_mul,b_quo,b_rem,b_and,b_or,b_xor,b_eql,b_neq,b_lss,b_leq,b_gtr,b_geq,b_sadd,b_seql,b_sneq,u_not,u_neg,okO_some,okR_eq,↓evO_tmp,↓evO_const,↓evO_func,↓evO_glb,gval,↓ev_s2a,evS2A,List.headD_cons,ofC_int,ofC_bool,ofC_nilsl,ofC_nilptr,ofC_nilfn,ofC_nilmap,ofC_nilif,ofC_str,tput_some,tput_none,i64w,u64w,Int.one_mul,Int.tdiv_eq_ediv_of_nonneg,ne_eq,not_false_eq_true,not_true_eq_false,Int.reduceEq,↓tg_c,tg_n,↓reduceIte,Nat.reduceEqDiff,true_and,and_true,evMax,evMin,reduceCtorEq,Nat.succ_ne_zero,Nat.zero_ne_one,Nat.one_ne_zero,Bool.not_true,Bool.not_false,argT,Nat.reduceAdd,pickT,List.map_cons,List.map_nil,Nat.reduceMul,Nat.reduceSub,Nat.reduceLT,Nat.reduceLeDiff,Nat.lt_irrefl,Int.reduceToNat,Int.reduceLT,Int.reduceLE,Int.reduceNeg,Int.reduceAdd,Int.reduceMul,Int.toNat_zero,Int.toNat_one,decide_true,decide_false,and_self,List.length_cons,List.length_nil,List.getElem?_cons_zero,List.getElem?_cons_succ,List.drop_zero,List.drop_succ_cons,List.take_zero,List.take_succ_cons,List.take_nil,List.drop_nil,List.cons_append,List.nil_append,List.set_cons_zero,List.set_cons_succ,List.all_cons,List.all_nil,Bool.and_true,Bool.and_self,Option.map_some,List.flatten_cons,List.flatten_nil,↓mg,↓ms,↓mg0,↓ms0,ma,ma2,ml,V.one,cellsV,partV,evLoad,evStore,ldB,wrB,evStrIdx,↓ev_nilCheck,evFA,evF,evIA,evI,evBuild,fillV,setAt,evSlice,evStrSlice,bound,chunks,evLen,evAppend,elsV,beq_self_eq_true,Nat.reduceBEq,evMake,evBuildSl,repL,List.replicate_succ,List.replicate_zero,List.range_succ,List.range_zero,Option.map_none,Int.toNat_natCast,Nat.zero_add,Nat.add_zero,Nat.zero_mul,Nat.one_mul,Int.le_refl,Nat.le_refl,TV.inst,List.getD_cons_zero,List.getD_cons_succ]<;>exact rfl)|fail)(hn:js.Nodup:=by decide):K t m:=hL s' js t m ⟨X,hm,ht,hX,hn⟩ hi hl
theorem nextL_{σ:Type}{ks:List Nat}{st:σ→List V}{L:Mem}{E:σ→Mem}{inv:σ→Prop}{lt:σ→Prop}{K:List (Nat×V)→Mem→Prop}(hL:∀ s' t' m' ext,ks.map (tget t')=st s'→m'=lend L++(E s'++ext)→inv s'→lt s'→K t' m')(s':σ)(hi:inv s')(hl:lt s'){ext:Mem}(ht:ks.map (tget t)=st s':=by first|exact tv_|fail)(hm:m=lend L++(E s'++ext):=by first|exact rfl|fail):K t m:=hL s' t m ext ht hm hi hl
theorem next_{σ:Type}{ks:List Nat}{st:σ→List V}{me:σ→Mem}{inv:σ→Prop}{lt:σ→Prop}{K:List (Nat×V)→Mem→Prop}(hL:∀ s' t' m',ks.map (tget t')=st s'→m'=me s'→inv s'→lt s'→K t' m')(s':σ)(hi:inv s')(hl:lt s')(ht:ks.map (tget t)=st s':=by first|exact tv_|fail)(hm:m=me s':=by first|exact rfl|fail):K t m:=hL s' t m ht hm hi hl
end
end Go.Proofs.YtjonlmpjdhoogaaGreatDoor
namespace Go.Proofs.YtjonlmpjdhoogaaGreatDoor
open Go.RowKit
/- a call behind a guard that holds, in a region that draws its order -/
section
variable {P:Program} {N:Nat} {ops:Array Oper} {kd:Nat→Kd} {LL:Lim} {i d j e:Nat} {is:List El} {t:List (Nat×V)} {m:Mem} {Q:List (Nat×V)→Mem→Prop} {g:FuncId} {vs:List V} {v:V} {l:List Operand} {ts:Array TypeId} {ty:TypeId} {pos:String} {af:Array Edge} {want:Bool}
theorem WDs_fnY(hi:ops[i]?=some ⟨some d,.call ⟨.value (.func g),l.toArray,ts⟩,ty,pos,af,some (j,want)⟩)(hj:(ops[j]?).bind (·.dst)=some e)(ht:tget t e= .bool want)(hd:dOk N (some d))(ha:l.map (evO t)=vs)(hc:Gives P g vs m v)
    (hk:(kd i= .q∧v.det=true∧LL.ty=none)∨kd i= .a∨kd i= .w) (h:WDs P N ops kd LL is ((d,v)::t) m Q):WDs P N ops kd LL (.one i::is) t m Q:=by
  have ha':[]++l.toArray.toList.map (evO t)++[]=vs:=fn_args l ha
  subst ha'
  unfold WDs
  simp only [hi,hj,ht]
  refine⟨fun _=>⟨hd,?_⟩,fun hn=>(hn trivial).elim⟩
  have hf:evO t (.func g)= .clo (.func g) [] []:=rfl
  simp only [hf]
  rcases hk with ⟨e,hdet,hT⟩|e|e<;>rw [e]
  · refine⟨v,hdet,?_,h⟩
    rw [hT]
    have hc':Gives P g ([]++l.toArray.toList.map (evO t)++[]) m v:=by simpa using hc
    exact hc'
  · exact .inl (hc.mono fun v mo hr=>by obtain⟨rfl,rfl⟩:=hr;exact⟨rfl,h⟩)
  · exact hc.mono fun v mo hr=>by obtain⟨rfl,rfl⟩:=hr;exact h
theorem d_fnY(hc:Gives P g vs m v)(h:WDs P N ops kd LL is ((d,v)::t) m Q)(hi:ops[i]?=some ⟨some d,.call ⟨.value (.func g),l.toArray,ts⟩,ty,pos,af,some (j,want)⟩:=by first|exact rfl|fail)(hj:(ops[j]?).bind (·.dst)=some e:=by first|exact rfl|fail)(ht:tget t e= .bool want:=by first|exact lk_|fail)(hd:dOkB N (some d)=true:=by first|exact rfl|fail)(ha:l.map (evO t)=vs:=by first|exact lk_|fail)
    (hk:(kd i= .q∧v.det=true∧LL.ty=none)∨kd i= .a∨kd i= .w:=by first|exact .inl ⟨rfl,by simp [V.det,detL],rfl⟩|exact .inr (.inl rfl)|exact .inr (.inr rfl)|fail):DG P N ops kd LL i is t m Q:=WDs_fnY hi hj ht (dOk_b hd) ha hc hk h
end
end Go.Proofs.YtjonlmpjdhoogaaGreatDoor
namespace Go.Proofs.YtjonlmpjdhoogaaGreatDoor
open Go.RowKit

/-- a block as it is told in an invariant: what it names is counted from the first block of the invariant -/
inductive TB where
  |cells (st:Sta) (ty sz:Nat) (es:List (List TV))
  |obj (st:Sta) (vs:List TV) (φ:Nat→Obj→List Value→Prop)
def TB.inst(f:Nat→Nat):TB→Blk
  | .cells st ty sz es=> .cells st ty sz (es.map (List.map (TV.inst f)))
  | .obj st vs φ=> .obj st (vs.map (TV.inst f)) φ
theorem TB.bad_inst(T:TB)(f g:Nat→Nat):(T.inst f).bad=(T.inst g).bad:=by
  cases T with
  |cells st _ _ _=>cases st<;>rfl
  |obj st _ _=>cases st<;>rfl
theorem TB.own_inst(T:TB)(f g:Nat→Nat):(T.inst f).own=(T.inst g).own:=by
  cases T with
  |cells st _ _ _=>cases st<;>rfl
  |obj st _ _=>cases st<;>rfl
def TV.okT(k:Nat):TV→Bool
  | .v _=>true
  | .ptr i _ _=>decide (i<k)
  | .sl i _=>decide (i<k)
  | .mp i=>decide (i<k)
def TB.ok(k:Nat):TB→Bool
  | .cells _ _ _ es=>es.all (List.all · (TV.okT k))
  | .obj _ vs _=>vs.all (TV.okT k)
theorem tv_ren{w:World}{ρ ρ':List Re}{B B':Nat→Prop}{n n' k:Nat}{js:List Nat}(hB:∀ k,k<w.heap.size→B' k→B k)(hpre:∀ (b:Nat) r,ρ[b]?=some r→ρ'[b]?=some r)
    (hnew:∀ (i j:Nat) r,js[i]?=some j→ρ[n+j]?=some r→ρ'[n'+i]?=some r) (hl:js.length=k) {tv:TV} (hok:tv.okT k=true) {x:Value} (h:RelV w ρ B (tv.inst fun i=>n+js.getD i 0) x):
    RelV w ρ' B' (tv.inst fun i=>n'+i) x:=by
  have hjs:∀ q,q<k→js[q]?=some (js.getD q 0):=by
    intro q hq
    rw [List.getD_eq_getElem?_getD,List.getElem?_eq_getElem (by omega)];rfl
  cases tv with
  |v y=>exact h.mono (Nat.le_refl _) (fun _ _ _=>rfl) hB hpre
  | ptr q a o=>
    simp only [TV.inst,TV.okT,decide_eq_true_eq] at h hok ⊢
    cases h with|ptr _ _ _ r hr=>exact .ptr _ _ _ r (hnew q _ r (hjs q hok) hr)
  | sl q c=>
    simp only [TV.inst,TV.okT,decide_eq_true_eq] at h hok ⊢
    cases h with|sl _ _ r hr h1 h2=>exact .sl _ _ r (hnew q _ r (hjs q hok) hr) h1 h2
  | mp q=>
    simp only [TV.inst,TV.okT,decide_eq_true_eq] at h hok ⊢
    cases h with|mp _ r hr=>exact .mp _ r (hnew q _ r (hjs q hok) hr)

theorem renormT {w:World} {ρ:List Re} {B X E:Mem} {Ts:List TB} {js:List Nat} (hM:RelM w ρ (B++X)) (hl':js.length=Ts.length) (hn:js.Nodup)
    (hb':∀ (i j:Nat),js[i]?=some j→X[j]?=(Ts[i]?).map (TB.inst fun i=>B.length+js.getD i 0)) (hE':E=Ts.map (TB.inst fun i=>(B++deadB X).length+i)) (hf:Ts.all (TB.ok Ts.length)=true):
    ∃ ρ',RelM w ρ' ((B++deadB X)++E)∧After w ρ (B++X) w ρ' ((B++deadB X)++E)∧(∀ (i j:Nat) r,js[i]?=some j→ρ[B.length+j]?=some r→ρ'[(B++deadB X).length+i]?=some r):=by
  have hlen:=hM.len
  rw [List.length_append] at hlen
  have hl:js.length=E.length:=by rw [hE',List.length_map,hl']
  have hBX:(B++deadB X).length=ρ.length:=by simp [deadB,hlen]
  -- the new list of real blocks
  have hX:∀ (i j:Nat),js[i]?=some j→∃ T:TB,Ts[i]?=some T∧E[i]?=some (T.inst fun i=>(B++deadB X).length+i)∧X[j]?=some (T.inst fun i=>B.length+js.getD i 0):=by
    intro i j h
    have hi:i<Ts.length:=by rw [←hl'];exact(List.getElem?_eq_some_iff.1 h).1
    have h1:Ts[i]?=some Ts[i]:=List.getElem?_eq_getElem hi
    refine⟨_,h1,?_,?_⟩
    · rw [hE',List.getElem?_map,h1];rfl
    · rw [hb' i j h,h1];rfl
  have hr:∀ (i j:Nat),js[i]?=some j→∃ r,ρ[B.length+j]?=some r:=by
    intro i j h
    obtain⟨blk,_,_,h2⟩:=hX i j h
    have hj:j<X.length:=(List.getElem?_eq_some_iff.1 h2).1
    exact⟨_,List.getElem?_eq_getElem (by omega)⟩
  refine⟨ρ++js.map (fun j=>(ρ[B.length+j]?).getD ⟨0,0,0⟩),?_⟩
  have hnew:∀ (i j:Nat) r,js[i]?=some j→ρ[B.length+j]?=some r→(ρ++js.map (fun j=>(ρ[B.length+j]?).getD ⟨0,0,0⟩))[(B++deadB X).length+i]?=some r:=by
    intro i j r h1 h2
    rw [hBX,List.getElem?_append_right (by omega),Nat.add_sub_cancel_left,List.getElem?_map,h1]
    simp [h2]
  have hold:∀ (b:Nat) r,b<ρ.length→(ρ++js.map (fun j=>(ρ[B.length+j]?).getD ⟨0,0,0⟩))[b]?=some r→ρ[b]?=some r:=by
    intro b r h1 h2
    rwa [List.getElem?_append_left h1] at h2
  -- where a block of the new memory stood
  have key:∀ (b:Nat) blk r,((B++deadB X)++E)[b]?=some blk→blk≠ .dead→(ρ++js.map (fun j=>(ρ[B.length+j]?).getD ⟨0,0,0⟩))[b]?=some r→
      (b<B.length∧(B++X)[b]?=some blk∧ρ[b]?=some r)∨(∃ i j,b=(B++deadB X).length+i∧js[i]?=some j∧(∃ T:TB,Ts[i]?=some T∧blk=T.inst (fun i=>(B++deadB X).length+i)∧(B++X)[B.length+j]?=some (T.inst fun i=>B.length+js.getD i 0))∧ρ[B.length+j]?=some r):=by
    intro b blk r h1 h2 h3
    rcases Nat.lt_or_ge b (B++deadB X).length with q|q
    · rw [List.getElem?_append_left q] at h1
      rcases Nat.lt_or_ge b B.length with p|p
      · rw [List.getElem?_append_left p] at h1
        exact .inl ⟨p,pre_get h1,hold b r (by omega) h3⟩
      · rw [List.getElem?_append_right p] at h1
        simp only [deadB,List.getElem?_map,Option.map_eq_some_iff] at h1
        obtain⟨_,_,rfl⟩:=h1
        exact(h2 rfl).elim
    · rw [List.getElem?_append_right q] at h1
      have hi:b - (B++deadB X).length<js.length:=by rw [hl];exact(List.getElem?_eq_some_iff.1 h1).1
      have hj:js[b - (B++deadB X).length]?=some (js[b - (B++deadB X).length]):=List.getElem?_eq_getElem hi
      obtain⟨r',hr'⟩:=hr _ _ hj
      have:=hnew _ _ _ hj hr'
      rw [show(B++deadB X).length+(b - (B++deadB X).length)=b by omega,h3] at this
      cases this
      obtain⟨T,t1,t2,t3⟩:=hX _ _ hj
      rw [t2] at h1
      refine .inr ⟨_,_,by omega,hj,⟨T,t1,by cases h1;rfl,?_⟩,hr'⟩
      rw [List.getElem?_append_right (by omega),Nat.add_sub_cancel_left]
      exact t3
  have hhas:∀ {p:Blk→Bool} (_:∀ b,p b=true→b≠ .dead) (_:∀ (T:TB) f g,p (T.inst f)=p (T.inst g)) k,has p ((B++deadB X)++E) (ρ++js.map (fun j=>(ρ[B.length+j]?).getD ⟨0,0,0⟩)) k→has p (B++X) ρ k:=by
    intro p hp hp2 k h
    obtain⟨b,blk,r,h1,h2,h3,h4⟩:=h
    rcases key b blk r h1 (hp _ h2) h3 with ⟨_,q1,q2⟩|⟨i,j,_,_,⟨T,_,rfl,q1⟩,q2⟩
    · exact⟨b,blk,r,q1,h2,q2,h4⟩
    · exact⟨_,_,r,q1,(hp2 T _ _).trans h2,q2,h4⟩
  have hbd:∀ k,bad ((B++deadB X)++E) (ρ++js.map (fun j=>(ρ[B.length+j]?).getD ⟨0,0,0⟩)) k→bad (B++X) ρ k:=hhas (fun b h=>Blk.live_of_bad h) TB.bad_inst
  have hpre:∀ (b:Nat) r,ρ[b]?=some r→(ρ++js.map (fun j=>(ρ[B.length+j]?).getD ⟨0,0,0⟩))[b]?=some r:=fun b r h=>pre_get h
  have hmem:RelM w (ρ++js.map (fun j=>(ρ[B.length+j]?).getD ⟨0,0,0⟩)) ((B++deadB X)++E):=by
    refine⟨by rw [List.length_append,List.length_append,hBX,List.length_map,hl],?_,?_,?_,hM.glob.mono fun v x g3=>g3.mono (Nat.le_refl _) (fun _ _ _=>rfl) (fun k _ h=>hbd k h) hpre⟩
    · intro b st ty sz es h
      have hlt:b<(ρ++js.map (fun j=>(ρ[B.length+j]?).getD ⟨0,0,0⟩)).length:=by
        have:=(List.getElem?_eq_some_iff.1 h).1
        simp only [List.length_append,List.length_map] at this ⊢
        simp only [List.length_append] at hBX
        omega
      have hx:=List.getElem?_eq_getElem hlt
      rcases key b _ _ h (by simp) hx with ⟨_,q1,q2⟩|⟨i,j,_,aj,⟨T,q0,qT,q1⟩,q2⟩
      · obtain⟨r,cur,k1,k2,k3,k4,k5,k6,k7,k8,k9⟩:=hM.cells b st ty sz es q1
        rw [q2] at k1;cases k1
        refine⟨_,cur,hx,k2,k3,k4,k5,k6,k7,k8,fun i j e v e1 e2=>?_⟩
        obtain⟨g1,y,g2,g3⟩:=k9 i j e v e1 e2
        exact⟨g1,y,g2,g3.mono (Nat.le_refl _) (fun _ _ _=>rfl) (fun k _ h=>hbd k h) hpre⟩
      · obtain⟨st0,ty0,sz0,ts,rfl⟩:∃ st0 ty0 sz0 ts,T= .cells st0 ty0 sz0 ts:=by
          cases T with
          |cells a b c d=>exact⟨a,b,c,d,rfl⟩
          |obj _ _ _=>simp [TB.inst] at qT
        simp only [TB.inst,Blk.cells.injEq] at qT q1
        obtain⟨rfl,rfl,rfl,rfl⟩:=qT
        obtain⟨r,cur,k1,k2,k3,k4,k5,k6,k7,k8,k9⟩:=hM.cells _ _ _ _ _ q1
        rw [q2] at k1;cases k1
        refine⟨_,cur,hx,k2,k3,k4,k5,by simpa using k6,k7,fun e he=>?_,fun i' j' e v e1 e2=>?_⟩
        · obtain⟨e0,h0,rfl⟩:=List.mem_map.1 he
          have:=k8 _ (List.mem_map.2 ⟨e0,h0,rfl⟩)
          simpa using this
        · rw [List.getElem?_map,Option.map_eq_some_iff] at e1
          obtain⟨e0,e1,rfl⟩:=e1
          rw [List.getElem?_map,Option.map_eq_some_iff] at e2
          obtain⟨tv,e2,rfl⟩:=e2
          obtain⟨g1,y,g2,g3⟩:=k9 i' j' _ (tv.inst fun i=>B.length+js.getD i 0) (by rw [List.getElem?_map,e1];rfl) (by rw [List.getElem?_map,e2];rfl)
          refine⟨by cases tv<;>exact g1,y,g2,?_⟩
          have hok:=List.all_eq_true.1 (List.all_eq_true.1 (List.all_eq_true.1 hf _ (List.mem_of_getElem? q0)) _ (List.mem_of_getElem? e1)) _ (List.mem_of_getElem? e2)
          exact tv_ren (fun k _ h=>hbd k h) hpre (fun i j r h1 h2=>hnew i j r h1 h2) hl' hok g3
    · intro b b' blk blk' r r' h1 h2 h3 h4 h5 h6 h7
      rcases key b blk r h1 h2 h5 with ⟨a0,a1,a2⟩|⟨i,j,rfl,aj,⟨T,_,rfl,a1⟩,a2⟩<;>rcases key b' blk' r' h3 (Blk.live_of_bad h4) h6 with ⟨c0,c1,c2⟩|⟨i',j',rfl,cj,⟨T',_,rfl,c1⟩,c2⟩
      · exact hM.inj b b' blk blk' r r' a1 h2 c1 h4 a2 c2 h7
      · have:=hM.inj _ _ _ _ r r' a1 h2 c1 ((TB.bad_inst T' _ _).trans h4) a2 c2 h7;omega
      · have:=hM.inj _ _ _ _ r r' a1 (by cases T<;>simp [TB.inst]) c1 h4 a2 c2 h7;omega
      · have:=hM.inj _ _ _ _ r r' a1 (by cases T<;>simp [TB.inst]) c1 ((TB.bad_inst T' _ _).trans h4) a2 c2 h7
        have hjj:j=j':=by omega
        subst hjj
        have hi:i<js.length:=(List.getElem?_eq_some_iff.1 aj).1
        have:i=i':=(List.getElem?_inj hi hn).1 (aj.trans cj.symm)
        rw [this]
    · intro b st vs φ h
      have hlt:b<(ρ++js.map (fun j=>(ρ[B.length+j]?).getD ⟨0,0,0⟩)).length:=by
        have:=(List.getElem?_eq_some_iff.1 h).1
        simp only [List.length_append,List.length_map] at this ⊢
        simp only [List.length_append] at hBX
        omega
      have hx:=List.getElem?_eq_getElem hlt
      rcases key b _ _ h (by simp) hx with ⟨_,q1,q2⟩|⟨i,j,_,aj,⟨T,q0,qT,q1⟩,q2⟩
      · obtain⟨r,k1,k2⟩:=hM.objs b st vs φ q1
        rw [q2] at k1;cases k1
        exact⟨_,hx,k2.mono (fun _=>rfl) fun v x g3=>g3.mono (Nat.le_refl _) (fun _ _ _=>rfl) (fun k _ h=>hbd k h) hpre⟩
      · obtain⟨st0,ts,φ0,rfl⟩:∃ st0 ts φ0,T= .obj st0 ts φ0:=by
          cases T with
          |cells a b c d=>simp [TB.inst] at qT
          |obj a b c=>exact⟨a,b,c,rfl⟩
        simp only [TB.inst,Blk.obj.injEq] at qT q1
        obtain⟨rfl,rfl,rfl⟩:=qT
        obtain⟨r,k1,o,xs,k2,k3,k4,k5,k6⟩:=hM.objs _ _ _ _ q1
        rw [q2] at k1;cases k1
        refine⟨_,hx,o,xs,k2,k3,k4,by simpa using k5,fun i' v x e1 e2=>?_⟩
        rw [List.getElem?_map,Option.map_eq_some_iff] at e1
        obtain⟨tv,e1,rfl⟩:=e1
        have g3:=k6 i' (tv.inst fun i=>B.length+js.getD i 0) x (by rw [List.getElem?_map,e1];rfl) e2
        have hok:=List.all_eq_true.1 (List.all_eq_true.1 hf _ (List.mem_of_getElem? q0)) _ (List.mem_of_getElem? e1)
        exact tv_ren (fun k _ h=>hbd k h) hpre (fun i j r h1 h2=>hnew i j r h1 h2) hl' hok g3
  exact⟨hmem,⟨Keep.refl _ _,hpre,hmem,fun k _ h=>hhas (fun b h=>Blk.live_of_bad (Blk.bad_of_own h)) TB.own_inst k h,fun k _ h=>hbd k h⟩,hnew⟩

section
variable {P:Program} {N:Nat} {t:List (Nat×V)} {m:Mem}
/-- what is told where a round ends: the kept blocks stand at the places 'js' behind B -/
def RoundEndT(B:Mem)(ks:List Nat)(vs:List TV)(E:List TB)(js:List Nat)(t':List (Nat×V))(m':Mem):Prop:=
  ∃ X,m'=B++X∧ks.map (tget t')=vs.map (TV.inst fun i=>B.length+js.getD i 0)∧js.map (fun j=>X[j]?)=E.map (fun T=>some (T.inst fun i=>B.length+js.getD i 0))∧js.Nodup
theorem WA_whileT {c:Code} {Q:Exit→List (Nat×V)→Mem→Prop} {σ:Type} {L:Mem} (ks:List Nat) (st:σ→List TV) (E:σ→List TB) (inv:σ→Prop) (μ:σ→Nat) (s0:σ) (h0:inv s0) (ht:ks.map (tget t)=(st s0).map (TV.inst fun i=>L.length+i)) (hm:m=L++(E s0).map (TB.inst fun i=>L.length+i))
    (hks:ks.Nodup) (hst:∀ s,inv s→(st s).all (TV.okT (E s).length)=true) (hf:∀ s,inv s→(E s).all (TB.ok (E s).length)=true)
    (hr:∀ s,inv s→∀ B:Mem,(∃ D,B=L++D)→∀ K:List (Nat×V)→Mem→Prop,(∀ s' js t' m',RoundEndT B ks (st s') (E s') js t' m'→inv s'→μ s'<μ s→K t' m')→WA P N c (zipT ks ((st s).map (TV.inst fun i=>B.length+i))) (B++(E s).map (TB.inst fun i=>B.length+i)) (qThen K Q)):WA P N (.loop c) t m Q:=by
  refine WA_loop (fun n t m=>∃ s B,inv s∧n=μ s∧ks.map (tget t)=(st s).map (TV.inst fun i=>B.length+i)∧m=B++(E s).map (TB.inst fun i=>B.length+i)∧∃ D,B=L++D) (n:=μ s0) ⟨s0,L,h0,rfl,ht,hm,[],by simp⟩ ?_
  rintro n t m1 ⟨s,B,h1,rfl,h2,rfl,hB⟩
  refine WA_forget _ (zipT_get ks _ t h2) ?_
  have h:=hr s h1 B hB (fun t' m'=>∃ s' js,RoundEndT B ks (st s') (E s') js t' m'∧inv s'∧μ s'<μ s) (fun s' js t' m' e1 e2 e3=>⟨s',js,e1,e2,e3⟩)
  intro F hF z w ρ a hR
  refine wpIn_mono (h F hF z w ρ a hR) ?_
  rintro e a1 w1 ⟨t',m',ρ',hq,hR',af⟩
  cases e with
  | normal=>
    obtain⟨s',js,⟨X,rfl,e2,e3,e4⟩,e5,e6⟩:=hq
    have hl:js.length=(E s').length:=by simpa using congrArg List.length e3
    have hb:∀ (i j:Nat),js[i]?=some j→X[j]?=((E s')[i]?).map (TB.inst fun i=>B.length+js.getD i 0):=by
      intro i j h
      have hi:i<(E s').length:=by rw [←hl];exact(List.getElem?_eq_some_iff.1 h).1
      have:=congrArg (fun l=>l[i]?) e3
      simp only [List.getElem?_map,h,Option.map_some] at this
      rw [List.getElem?_eq_getElem hi] at this ⊢
      simpa using this
    obtain⟨ρ'',hM'',af'',hn''⟩:=renormT hR'.mem hl e4 hb rfl (hf s' e5)
    obtain⟨D,rfl⟩:=hB
    refine⟨zipT ks ((st s').map (TV.inst fun i=>((L++D)++deadB X).length+i)),((L++D)++deadB X)++(E s').map (TB.inst fun i=>((L++D)++deadB X).length+i),ρ'',⟨μ s',e6,s',(L++D)++deadB X,e5,rfl,?_,rfl,D++deadB X,by simp⟩,⟨hM'',fun i=>?_,hR'.size,hR'.defers.after af''⟩,af.trans af''⟩
    · exact zipT_map ks _ hks (by simpa using congrArg List.length e2)
    · rcases zipT_at ks ((st s').map (TV.inst fun i=>((L++D)++deadB X).length+i)) i with h|⟨p,p1,p2⟩
      · rw [h];exact .any _
      · rw [List.getElem?_map,Option.map_eq_some_iff] at p2
        obtain⟨tv,q1,q2⟩:=p2
        rw [←q2]
        have hv:tget t' i=TV.inst (fun i=>(L++D).length+js.getD i 0) tv:=by
          have:=congrArg (fun l=>l[p]?) e2
          simpa [List.getElem?_map,p1,q1] using this
        have hx:=hR'.tm i
        rw [hv] at hx
        have hok:=List.all_eq_true.1 (hst s' e5) tv (List.mem_of_getElem? q1)
        exact tv_ren (fun k hk h=>af''.bd k hk h) af''.pre hn'' hl hok hx
  |_=>exact⟨t',m',ρ',hq,hR',af⟩
end
section
variable {P:Program} {N:Nat} {t:List (Nat×V)} {m:Mem} {Q:List (Nat×V)→Mem→Prop} {ops:Array Oper} {d:Nat} {ty:TypeId} {pos:String} {af:Array Edge} {g:FuncId} {ts:Array TypeId} {l:List Operand} {vs:List V} {v:V} {m':Mem} {kd:Nat→Kd} {is:List El} {LL:Lim}
/-- the steps of a group, one after the other -/
def GrpC(P:Program)(N:Nat)(ops:Array Oper)(kd:Nat→Kd)(LL:Lim)(cs:List Nat)(t:List (Nat×V))(m:Mem)(R:List (Nat×V)→Mem→Prop):Prop:=∃ vs t' mf,CallsTo P N ops kd LL cs vs t m t' mf∧R t' mf
def GFin(P:Program)(N:Nat)(ops:Array Oper)(kd:Nat→Kd)(LL:Lim)(is:List El)(t:List (Nat×V))(m:Mem)(Q:List (Nat×V)→Mem→Prop):Prop:=WDs P N ops kd LL is t m Q
theorem g_fin(h:WDs P N ops kd LL is t m' Q)(hm:m=m':=by first|exact ev_|fail):GFin P N ops kd LL is t m Q:=by rw [hm];exact h
theorem grp_nil{R:List (Nat×V)→Mem→Prop}(h:R t m):GrpC P N ops kd LL [] t m R:=⟨[],t,m,cl_nil,h⟩
theorem grp_cons{c:Nat}{cs:List Nat}{f:Operand}{fs cc:List V}{R:List (Nat×V)→Mem→Prop}(hc:∀ m',Gives P g vs m' v)(h:GrpC P N ops kd LL cs ((d,v)::t) m R)(ho:ops[c]?=some ⟨some d,.call ⟨.value f,l.toArray,ts⟩,ty,pos,af,none⟩:=by first|exact rfl|fail)(hd:dOkB N (some d)=true:=by first|exact rfl|fail)(hf:evO t f= .clo (.func g) fs cc:=by first|exact lk_|fail)(ha:fs++l.map (evO t)++cc=vs:=by first|exact lk_|fail)(hk:kd c= .a:=by first|exact rfl|fail):GrpC P N ops kd LL (c::cs) t m R:=by
  obtain⟨vs',t',mf,h1,h2⟩:=h
  exact⟨_,t',mf,cl_ hc h1 hk ho hd hf ha,h2⟩
theorem grp_op{c:Nat}{cs:List Nat}{R:List (Nat×V)→Mem→Prop}{op:Op}{p:Prop}(h:GrpC P N ops kd LL cs ((d,v)::t) m R)(ho:ops[c]?=some ⟨some d,op,ty,pos,af,none⟩:=by first|exact rfl|fail)(hd:dOkB N (some d)=true:=by first|exact rfl|fail)(hpu:isPure op=true:=by first|exact rfl|fail)(hev:∀ m,evA P t m op=some (p,v,m):=by intro m;first|exact ev_|fail)(hp:p:=by first|exact trivial|assumption|omega)(hk:kd c= .a:=by first|exact rfl|fail):GrpC P N ops kd LL (c::cs) t m R:=by
  obtain⟨vs',t',mf,h1,h2⟩:=h
  exact⟨_,t',mf,clP h1 hk ho hd hpu hev hp,h2⟩
theorem d_gPc{cs:List Nat}{n1 d1 k1:Nat}{b1:Blk}(h1:MkOk P N ops t n1 (.ptr 0 0 0) b1)(h:GrpC P N ops kd LL cs t m fun t' mf=>GFin P N ops kd LL is ((d1,.ptr k1 0 0)::t') ((mf++[.dead])++[b1]) Q)(hd1:dstOf ops n1=some d1:=by first|exact rfl|fail)(hk1:m.length+1=k1:=by first|(simp only [ml,List.length_cons,List.length_nil,Nat.add_assoc,Nat.reduceAdd,Nat.zero_add]<;>with_reducible exact rfl)|fail):WDs P N ops kd LL (.grp true cs [n1]::is) t m Q:=by
  obtain⟨vs',t',mf,h2,h3⟩:=h
  exact d_gP h2 h1 h3 hd1 hk1 rfl
theorem d_gSc{cs:List Nat}{n1 d1 k1 q1:Nat}{b1:Blk}(h1:MkOk P N ops t n1 (.sl 0 q1) b1)(h:GrpC P N ops kd LL cs t m fun t' mf=>GFin P N ops kd LL is ((d1,.sl k1 q1)::t') ((mf++[.dead])++[b1]) Q)(hd1:dstOf ops n1=some d1:=by first|exact rfl|fail)(hk1:m.length+1=k1:=by first|(simp only [ml,List.length_cons,List.length_nil,Nat.add_assoc,Nat.reduceAdd,Nat.zero_add]<;>with_reducible exact rfl)|fail):WDs P N ops kd LL (.grp true cs [n1]::is) t m Q:=by
  obtain⟨vs',t',mf,h2,h3⟩:=h
  refine d_g1 h2 h1 hd1 ?_
  subst hk1
  exact h3
theorem d_gPPc{cs:List Nat}{n1 d1 n2 d2 k1 k2:Nat}{b1 b2:Blk}(h1:MkOk P N ops t n1 (.ptr 0 0 0) b1)(h2:MkOk P N ops t n2 (.ptr 0 0 0) b2)(h:GrpC P N ops kd LL cs t m fun t' mf=>GFin P N ops kd LL is ((d2,.ptr k2 0 0)::(d1,.ptr k1 0 0)::t') ((mf++[.dead,.dead])++[b1,b2]) Q)(hne:(n2==n1)=false:=by first|exact rfl|fail)(hd1:dstOf ops n1=some d1:=by first|exact rfl|fail)(hd2:dstOf ops n2=some d2:=by first|exact rfl|fail)(hk1:m.length+2=k1:=by first|(simp only [ml,List.length_cons,List.length_nil,Nat.add_assoc,Nat.reduceAdd,Nat.zero_add]<;>with_reducible exact rfl)|fail)(hk2:m.length+3=k2:=by first|(simp only [ml,List.length_cons,List.length_nil,Nat.add_assoc,Nat.reduceAdd,Nat.zero_add]<;>with_reducible exact rfl)|fail):WDs P N ops kd LL (.grp true cs [n1,n2]::is) t m Q:=by
  obtain⟨vs',t',mf,h3,h4⟩:=h
  exact d_gPP h3 h1 h2 h4 hne hd1 hd2 hk1 hk2 rfl
end
section
variable {P:Program} {m:Mem} {T:TypeId} {a b:Bool}
end
end Go.Proofs.YtjonlmpjdhoogaaGreatDoor
namespace Go.Proofs.YtjonlmpjdhoogaaGreatDoor
open Go.RowKit
section
variable {P:Program} {N:Nat} {z:Zr} {ops:Array Oper}
end
section
variable {P:Program} {N:Nat} {t:List (Nat×V)} {m:Mem} {Q:List (Nat×V)→Mem→Prop} {ops:Array Oper} {rest:List Oper} {d:Nat} {g:FuncId} {fs cs vs:List V}
end
section
variable {t:List (Nat×V)} {m:Mem}
theorem tv_map{f:Nat→Nat}{es:List (List V)}:(es.map (List.map TV.v)).map (List.map (TV.inst f))=es:=by
  rw [List.map_map]
  have:(List.map (TV.inst f) ∘ List.map TV.v)=(id:List V→List V):=by
    funext l
    simp only [Function.comp_apply,List.map_map,id_eq]
    exact(List.map_congr_left (fun _ _=>rfl)).trans (List.map_id l)
  rw [this,List.map_id]
theorem tv_ok{k:Nat}(es:List (List V)):(es.map (List.map TV.v)).all (List.all · (TV.okT k))=true:=by
  simp [List.all_eq_true,TV.okT]
theorem nextU_{σ:Type}{ks:List Nat}{st:σ→List TV}{B:Mem}{E:σ→List TB}{inv:σ→Prop}{lt:σ→Prop}{K:List (Nat×V)→Mem→Prop}(hL:∀ s' js t' m',RoundEndT B ks (st s') (E s') js t' m'→inv s'→lt s'→K t' m')(s':σ)(js:List Nat)(hi:inv s')(hl:lt s'){X:Mem}
    (hX:js.map (fun j=>X[j]?)=(E s').map (fun T=>some (T.inst fun i=>B.length+js.getD i 0))) (hm:m=B++X:=by first|exact rfl|fail)
    (ht:ks.map (tget t)=(st s').map (TV.inst fun i=>B.length+js.getD i 0):=by first|(simp (disch:=omega) only [↓ev_move,↓ev_assign,↓ev_pick,↓ev_alloc,↓ev_box,↓ev_load,↓ev_store,↓ev_binOp,↓ev_unOp,↓ev_extract,↓ev_fieldAddr,↓ev_field,↓ev_indexAddr,↓ev_index,↓ev_makeFunc,↓ev_build,↓ev_makeSlice,↓ev_buildSlice,↓ev_convert,↓ev_len,↓ev_max,↓ev_min,↓ev_append,↓ev_slice,maxLen_eq,b_aeq,b_ane,planEq,leafEq,←Bool.decide_and,b_add,b_sub,b_mul,b_quo,b_rem,b_and,b_or,b_xor,b_eql,b_neq,b_lss,b_leq,b_gtr,b_geq,b_sadd,b_seql,b_sneq,u_not,u_neg,okO_some,okR_eq,↓evO_tmp,↓evO_const,↓evO_func,↓evO_glb,gval,↓ev_s2a,evS2A,List.headD_cons,ofC_int,ofC_bool,ofC_nilsl,ofC_nilptr,ofC_nilfn,ofC_nilmap,ofC_nilif,ofC_str,tput_some,tput_none,i64w,u64w,Int.one_mul,Int.tdiv_eq_ediv_of_nonneg,ne_eq,not_false_eq_true,not_true_eq_false,Int.reduceEq,↓tg_c,tg_n,↓reduceIte,Nat.reduceEqDiff,true_and,and_true,evMax,evMin,reduceCtorEq,Nat.succ_ne_zero,Nat.zero_ne_one,Nat.one_ne_zero,Bool.not_true,Bool.not_false,argT,Nat.reduceAdd,pickT,List.map_cons,List.map_nil,Nat.reduceMul,Nat.reduceSub,Nat.reduceLT,Nat.reduceLeDiff,Nat.lt_irrefl,Int.reduceToNat,Int.reduceLT,Int.reduceLE,Int.reduceNeg,Int.reduceAdd,Int.reduceMul,Int.toNat_zero,Int.toNat_one,decide_true,decide_false,and_self,List.length_cons,List.length_nil,List.getElem?_cons_zero,List.getElem?_cons_succ,List.drop_zero,List.drop_succ_cons,List.take_zero,List.take_succ_cons,List.take_nil,List.drop_nil,List.cons_append,List.nil_append,List.set_cons_zero,List.set_cons_succ,List.all_cons,List.all_nil,Bool.and_true,Bool.and_self,Option.map_some,List.flatten_cons,List.flatten_nil,↓mg,↓ms,↓mg0,↓ms0,ma,ma2,ml,V.one,cellsV,partV,evLoad,evStore,ldB,wrB,evStrIdx,↓ev_nilCheck,evFA,evF,evIA,evI,evBuild,fillV,setAt,evSlice,evStrSlice,bound,chunks,evLen,evAppend,elsV,beq_self_eq_true,Nat.reduceBEq,evMake,evBuildSl,repL,List.replicate_succ,List.replicate_zero,List.range_succ,List.range_zero,Option.map_none,Int.toNat_natCast,Nat.zero_add,Nat.add_zero,Nat.zero_mul,Nat.one_mul,Int.le_refl,Nat.le_refl,TV.inst,List.getD_cons_zero,List.getD_cons_succ]<;>exact rfl)|fail) (hn:js.Nodup:=by decide):K t m:=hL s' js t m ⟨X,hm,ht,hX,hn⟩ hi hl
end
section
variable {P:Program} {N:Nat} {ops:Array Oper} {kd:Nat→Kd} {LL:Lim} {i d:Nat} {is:List El} {t:List (Nat×V)} {m:Mem} {Q:List (Nat×V)→Mem→Prop} {g:FuncId} {fs cs vs:List V} {v:V} {l:List Operand} {ts:Array TypeId} {ty:TypeId} {pos:String} {af:Array Edge} {f:Operand}
end
end Go.Proofs.YtjonlmpjdhoogaaGreatDoor
namespace Go.Proofs.YtjonlmpjdhoogaaGreatDoor
open Go.RowKit

section
variable {P:Program} {N:Nat} {t:List (Nat×V)} {m:Mem}
end
section
variable {P:Program} {N:Nat} {t:List (Nat×V)} {m:Mem}
/-- slots and blocks as they are told, from here on -/
theorem WA_ren {c:Code} {Q:Exit→List (Nat×V)→Mem→Prop} {L:Mem} {ks:List Nat} {vs:List TV} {Ts:List TB} {js:List Nat} (hE:RoundEndT L ks vs Ts js t m) (hks:ks.Nodup) (hst:vs.all (TV.okT Ts.length)=true) (hf:Ts.all (TB.ok Ts.length)=true)
    (h:∀ B:Mem,(∃ D,B=L++D)→WA P N c (zipT ks (vs.map (TV.inst fun i=>B.length+i))) (B++Ts.map (TB.inst fun i=>B.length+i)) Q):WA P N c t m Q:=by
  obtain⟨X,rfl,e2,e3,e4⟩:=hE
  intro F hF z w ρ a hR
  have hl:js.length=Ts.length:=by simpa using congrArg List.length e3
  have hb:∀ (i j:Nat),js[i]?=some j→X[j]?=(Ts[i]?).map (TB.inst fun i=>L.length+js.getD i 0):=by
    intro i j h
    have hi:i<Ts.length:=by rw [←hl];exact(List.getElem?_eq_some_iff.1 h).1
    have:=congrArg (fun l=>l[i]?) e3
    simp only [List.getElem?_map,h,Option.map_some] at this
    rw [List.getElem?_eq_getElem hi] at this ⊢
    simpa using this
  obtain⟨ρ'',hM'',af'',hn''⟩:=renormT hR.mem hl e4 hb rfl hf
  have hR2:Rel N ⟨z,F.round⟩ w ρ'' ((L++deadB X)++Ts.map (TB.inst fun i=>(L++deadB X).length+i)) (zipT ks (vs.map (TV.inst fun i=>(L++deadB X).length+i))) a:=by
    refine⟨hM'',fun i=>?_,hR.size,hR.defers.after af''⟩
    rcases zipT_at ks (vs.map (TV.inst fun i=>(L++deadB X).length+i)) i with h|⟨p,p1,p2⟩
    · rw [h];exact .any _
    · rw [List.getElem?_map,Option.map_eq_some_iff] at p2
      obtain⟨tv,q1,q2⟩:=p2
      rw [←q2]
      have hv:tget t i=TV.inst (fun i=>L.length+js.getD i 0) tv:=by
        have:=congrArg (fun l=>l[p]?) e2
        simpa [List.getElem?_map,p1,q1] using this
      have hx:=hR.tm i
      rw [hv] at hx
      have hok:=List.all_eq_true.1 hst tv (List.mem_of_getElem? q1)
      exact tv_ren (fun k hk h=>af''.bd k hk h) af''.pre hn'' hl hok hx
  exact wpIn_mono (h (L++deadB X) ⟨deadB X,rfl⟩ F hF z w ρ'' a hR2) fun e a' w' h=>h.trans af''
end
theorem rel_nil{w:World}{ρ:List Re}{B:Nat→Prop}{x:Value}(h:RelV w ρ B .nilsl x):RelV w ρ B (.lst []) x:=by
  cases h;exact .lnil none 0 (Nat.zero_le _) (fun _=>rfl)
/-- values one by one at least as told -/
def WkV(v v':V):Prop:=∀ w ρ B x,RelV w ρ B v x→RelV w ρ B v' x
theorem WkV.refl(v:V):WkV v v:=fun _ _ _ _ h=>h
def WkL:List V→List V→Prop
  |[],[]=>True
  |a::r,b::r'=>WkV a b∧WkL r r'
  |_,_=>False
theorem WkL_get:∀ {l l':List V},WkL l l'→l'.length=l.length∧∀ (i:Nat) v',l'[i]?=some v'→∃ v,l[i]?=some v∧WkV v v'
  |[],[],_=>⟨rfl,fun i v h=>by simp at h⟩
  | a::r,b::r',h=>by
    obtain⟨h1,h2⟩:=WkL_get h.2
    refine⟨by simp [h1],fun i v' hv=>?_⟩
    cases i with
    |zero=>simp at hv;subst hv;exact⟨a,rfl,h.1⟩
    |succ i=>exact h2 i v' (by simpa using hv)
  |[],_::_,h=>h.elim
  |_::_,[],h=>h.elim
theorem wk_tup{l l':List V}(h:WkL l l'):WkV (.tup l) (.tup l'):=by
  obtain⟨h1,h2⟩:=WkL_get h
  intro w ρ B x hr
  cases hr with
  | tup _ xs hl hh=>
    refine .tup _ _ (h1.trans hl) fun i c x e1 e2=>?_
    obtain⟨v,g1,g2⟩:=h2 i c e1
    exact g2 _ _ _ _ (hh i v x g1 e2)
theorem wk_nil:WkV .nilsl (.lst []):=fun _ _ _ _ h=>rel_nil h
end Go.Proofs.YtjonlmpjdhoogaaGreatDoor
namespace Go.Proofs.YtjonlmpjdhoogaaGreatDoor
open Go.RowKit
def frzA(b:Nat)(es:List (List V)):V→V
  | .agg cs=> .agg (cs.map (frzV b es))
  |v=>frzV b es v
theorem frzA_rel{w:World}{ρ:List Re}{m:Mem}(hM:RelM w ρ m){b:Nat}{st:Sta}{ty sz:Nat}{es:List (List V)}(hb:m[b]?=some (.cells st ty sz es)){v:V}{x:Value}(h:RelV w ρ (bad m ρ) v x):
    RelV w ρ (bad (m.set b (.cells .ro ty sz es)) ρ) (frzA b es v) x:=by
  unfold frzA
  split
  · cases h with
    | agg cs xs hl hh=>
      refine .agg _ _ (by simpa using hl) fun i c x h1 h2=>?_
      rw [List.getElem?_map,Option.map_eq_some_iff] at h1
      obtain⟨c0,h1,rfl⟩:=h1
      exact frzV_rel hM hb (hh i c0 x h1 h2)
  · exact frzV_rel hM hb h
theorem CallA_freezeA{P:Program}{f:FuncId}{vs:List V}{m:Mem}{R:V→Option Mem→Prop}{b:Nat}{st:Sta}{ty sz:Nat}{es:List (List V)}(hb:m[b]?=some (.cells st ty sz es))(h:CallA P f (vs.map (frzA b es)) (m.set b (.cells .ro ty sz es)) R):
    CallA P f vs m fun v mo=>∃ mo0,R v mo0∧mo=some (mo0.getD (m.set b (.cells .ro ty sz es))):=by
  refine⟨h.1,fun w ρ xs hM hA=>?_⟩
  have af:=After.of_ro hM hb
  refine(h.2 w ρ xs af.mem ⟨by simpa using hA.1,fun i v x h1 h2=>?_⟩).mono ?_
  · rw [List.getElem?_map,Option.map_eq_some_iff] at h1
    obtain⟨v0,h1,rfl⟩:=h1
    exact frzA_rel hM hb (hA.2 i v0 x h1 h2)
  · rintro e w' ⟨v,mo,x,rfl,hr,hh⟩
    rcases hh with ⟨rfl,hbel,rv⟩|⟨m',ρ',rfl,af',rv⟩
    · exact⟨v,_,x,rfl,⟨none,hr,rfl⟩,.inr ⟨_,ρ,rfl,af.trans (After.of_same af.mem hbel),rv⟩⟩
    · exact⟨v,_,x,rfl,⟨some m',hr,rfl⟩,.inr ⟨_,ρ',rfl,af.trans af',rv⟩⟩
section
variable {P:Program} {N:Nat} {t:List (Nat×V)} {m m':Mem} {Q:List (Nat×V)→Mem→Prop} {ops:Array Oper} {rest:List Oper} {d:Nat} {g:FuncId} {vs vs':List V} {v:V}
theorem s_fzA{fs cs:List V}{B X:Mem}{st:Sta}{ty sz:Nat}{es:List (List V)}(j:Nat)(hc:Gives P g vs' m' v)(h:WOs P N ops rest ((d,v)::t) m' Q)(hm:m=B++X)(hX:X[j]?=some (.cells st ty sz es))(hvs:vs.map (frzA (B.length+j) es)=vs')(hm':B++X.set j (.cells .ro ty sz es)=m'):ArgG P N ops rest t m Q d fs cs g vs:=by
  subst hm;subst hvs;subst hm'
  have hb:(B++X)[B.length+j]?=some (.cells st ty sz es):=by rw [List.getElem?_append_right (Nat.le_add_right _ _),Nat.add_sub_cancel_left];exact hX
  have hs:(B++X).set (B.length+j) (.cells .ro ty sz es)=B++X.set j (.cells .ro ty sz es):=by rw [List.set_append_right _ _ (Nat.le_add_right _ _),Nat.add_sub_cancel_left]
  refine s_fnA (CallA_freezeA hb (by rw [hs];exact hc)) ?_
  rintro v' mo ⟨mo0,⟨rfl,rfl⟩,rfl⟩
  simp only [Option.getD_some,Option.getD_none]
  rw [hs]
  exact h
end
end Go.Proofs.YtjonlmpjdhoogaaGreatDoor
namespace Go.Proofs.YtjonlmpjdhoogaaGreatDoor
open Go.RowKit
attribute [local irreducible] WA WOs WDs WAn qThen qBlock tput
section
variable {P:Program} {N:Nat} {ops:Array Oper} {kd:Nat→Kd} {LL:Lim} {is:List El} {t:List (Nat×V)} {m:Mem} {Q:List (Nat×V)→Mem→Prop}
/-- a slice and a block, made side by side -/
theorem d_gSPc{cs:List Nat}{n1 d1 n2 d2 k1 k2 q1:Nat}{b1 b2:Blk}(h1:MkOk P N ops t n1 (.sl 0 q1) b1)(h2:MkOk P N ops t n2 (.ptr 0 0 0) b2)(h:GrpC P N ops kd LL cs t m fun t' mf=>GFin P N ops kd LL is ((d2,.ptr k2 0 0)::(d1,.sl k1 q1)::t') ((mf++[.dead,.dead])++[b1,b2]) Q)(hne:(n2==n1)=false:=by first|exact rfl|fail)(hd1:dstOf ops n1=some d1:=by first|exact rfl|fail)(hd2:dstOf ops n2=some d2:=by first|exact rfl|fail)(hk1:m.length+2=k1:=by first|(simp only [ml,List.length_cons,List.length_nil,Nat.add_assoc,Nat.reduceAdd,Nat.zero_add]<;>with_reducible exact rfl)|fail)(hk2:m.length+3=k2:=by first|(simp only [ml,List.length_cons,List.length_nil,Nat.add_assoc,Nat.reduceAdd,Nat.zero_add]<;>with_reducible exact rfl)|fail):WDs P N ops kd LL (.grp true cs [n1,n2]::is) t m Q:=by
  obtain⟨vs',t',mf,h3,h4⟩:=h
  refine d_g2 h3 hne h1 h2 hd1 hd2 ?_
  subst hk1;subst hk2
  exact h4
end
theorem ny{p q:Prop}(h:q)(e:q→p:=by(intro h;first|exact s_tp h|exact s_tn h|(refine g_op ?_;first|exact s_mv h|exact s_as h|exact s_bin h|exact s_ld h|exact s_ia h|exact s_fa h|exact s_fd h|exact s_ix h|exact s_un h|exact s_op h|fail)|exact d_tp h|exact d_tn h|exact WA_seq' h|exact qT_WA h|exact WA_region h|exact WOs_nil h|(refine g_c ?_;first|exact c_T h|exact c_F h|fail)|(refine g_gd ?_;first|exact s_yes h|exact s_no h|exact s_noU h|fail)|exact WA_skip h|exact WA_ret h|exact WA_exit h|exact qT_ret h|exact qT_exit h|exact qB_exit h|exact qB_other rfl h|exact qB_normal h|exact qB_ret h|exact qT_WAn h|exact WAn_step h|exact qT_normal h|(refine g_d ?_;first|exact d_yes h|exact d_no h|exact d_noU h|exact d_op h|fail)|exact WDs_nil h|exact d_gPP cl_nil mkP mkP h|exact d_gPc mkP h|exact d_gPPc mkP mkP h|exact d_gSPc mkS mkP h|exact d_gSc mkS h|exact grp_nil h|exact g_fin h|exact grp_op h|exact d_gSS cl_nil mkS mkS h|fail)):p:=e h
/-- both ways on -/
theorem sx{a b g q1 q2:Prop}(h1:a→q1)(h2:b→q2)(e:(a→q1)→(b→q2)→g:=by(intro h1 h2;first|exact WOs_splitD h1 h2|exact WOs_splitN h1 h2|exact WDs_splitD h1 h2|exact WDs_splitN h1 h2|fail)):g:=e h1 h2
end Go.Proofs.YtjonlmpjdhoogaaGreatDoor
