import Derived.Test.YtomkbpoicjabfaaGreatDoorProg
import Derived.Test.YtomkbpoicjabfaaGreatDoorYD
import Derived.Orders
import Derived.OrdersIn
set_option linter.unusedSimpArgs false
set_option linter.unusedVariables false
/- facts about the types -/
namespace Go.Proofs.YtomkbpoicjabfaaGreatDoor
open Go.RowKit
theorem agT106:agT Tryz.prog 106=some true:=by kernel_rfl
theorem agT116:agT Tryz.prog 116=some false:=by kernel_rfl
theorem agT117:agT Tryz.prog 117=some false:=by kernel_rfl
theorem agT122:agT Tryz.prog 122=some false:=by kernel_rfl
theorem agT190:agT Tryz.prog 190=some false:=by kernel_rfl
theorem agT205:agT Tryz.prog 205=some false:=by kernel_rfl
theorem agT225:agT Tryz.prog 225=some true:=by kernel_rfl
theorem agT23:agT Tryz.prog 23=some false:=by kernel_rfl
theorem agT24:agT Tryz.prog 24=some false:=by kernel_rfl
theorem agT25:agT Tryz.prog 25=some false:=by kernel_rfl
theorem agT27:agT Tryz.prog 27=some true:=by kernel_rfl
theorem agT28:agT Tryz.prog 28=some false:=by kernel_rfl
theorem agT3:agT Tryz.prog 3=some false:=by kernel_rfl
theorem agT4:agT Tryz.prog 4=some false:=by kernel_rfl
theorem agT43:agT Tryz.prog 43=some true:=by kernel_rfl
theorem agT46:agT Tryz.prog 46=some false:=by kernel_rfl
theorem agT48:agT Tryz.prog 48=some true:=by kernel_rfl
theorem agT5:agT Tryz.prog 5=some false:=by kernel_rfl
theorem agT51:agT Tryz.prog 51=some true:=by kernel_rfl
theorem agT71:agT Tryz.prog 71=some true:=by kernel_rfl
theorem agT74:agT Tryz.prog 74=some true:=by kernel_rfl
theorem agT76:agT Tryz.prog 76=some true:=by kernel_rfl
theorem agT80:agT Tryz.prog 80=some true:=by kernel_rfl
theorem agT9:agT Tryz.prog 9=some false:=by kernel_rfl
theorem agT96:agT Tryz.prog 96=some true:=by kernel_rfl
theorem agT99:agT Tryz.prog 99=some false:=by kernel_rfl
theorem arT102:arT Tryz.prog 102=none:=by kernel_rfl
theorem arT106:arT Tryz.prog 106=none:=by kernel_rfl
theorem arT117:arT Tryz.prog 117=none:=by kernel_rfl
theorem arT142:arT Tryz.prog 142=none:=by kernel_rfl
theorem arT200:arT Tryz.prog 200=some (24,5):=by kernel_rfl
theorem arT214:arT Tryz.prog 214=none:=by kernel_rfl
theorem arT217:arT Tryz.prog 217=some (20,190):=by kernel_rfl
theorem arT218:arT Tryz.prog 218=some (65,5):=by kernel_rfl
theorem arT223:arT Tryz.prog 223=some (256,5):=by kernel_rfl
theorem arT225:arT Tryz.prog 225=none:=by kernel_rfl
theorem arT226:arT Tryz.prog 226=some (16,225):=by kernel_rfl
theorem arT23:arT Tryz.prog 23=none:=by kernel_rfl
theorem arT232:arT Tryz.prog 232=none:=by kernel_rfl
theorem arT233:arT Tryz.prog 233=some (32,5):=by kernel_rfl
theorem arT234:arT Tryz.prog 234=some (64,5):=by kernel_rfl
theorem arT24:arT Tryz.prog 24=none:=by kernel_rfl
theorem arT25:arT Tryz.prog 25=none:=by kernel_rfl
theorem arT27:arT Tryz.prog 27=none:=by kernel_rfl
theorem arT43:arT Tryz.prog 43=none:=by kernel_rfl
theorem arT46:arT Tryz.prog 46=none:=by kernel_rfl
theorem arT48:arT Tryz.prog 48=none:=by kernel_rfl
theorem arT51:arT Tryz.prog 51=some (2,43):=by kernel_rfl
theorem arT55:arT Tryz.prog 55=none:=by kernel_rfl
theorem arT69:arT Tryz.prog 69=none:=by kernel_rfl
theorem arT71:arT Tryz.prog 71=none:=by kernel_rfl
theorem arT74:arT Tryz.prog 74=none:=by kernel_rfl
theorem arT76:arT Tryz.prog 76=none:=by kernel_rfl
theorem arT80:arT Tryz.prog 80=none:=by kernel_rfl
theorem arT9:arT Tryz.prog 9=none:=by kernel_rfl
theorem arT99:arT Tryz.prog 99=none:=by kernel_rfl
theorem eqT116:eqT Tryz.prog 116=none:=by kernel_rfl
theorem eqT122:eqT Tryz.prog 122=none:=by kernel_rfl
theorem eqT4:eqT Tryz.prog 4=none:=by kernel_rfl
theorem eqT43:eqT Tryz.prog 43=some [(0,0),(1,0)]:=by kernel_rfl
theorem eqT51:eqT Tryz.prog 51=some [(0,0),(1,0),(2,0),(3,0)]:=by kernel_rfl
theorem eqT74:eqT Tryz.prog 74=some [(0,2),(1,2),(2,0),(3,1)]:=by kernel_rfl
theorem eqT76:eqT Tryz.prog 76=some [(0,0),(1,0)]:=by kernel_rfl
theorem eqT80:eqT Tryz.prog 80=some [(0,0),(1,0),(2,0),(3,0)]:=by kernel_rfl
theorem eqT9:eqT Tryz.prog 9=none:=by kernel_rfl
theorem fdT106f0:fdT Tryz.prog 106 0=some (0,3):=by kernel_rfl
theorem fdT106f1:fdT Tryz.prog 106 1=some (1,43):=by kernel_rfl
theorem fdT119f0:fdT Tryz.prog 119 0=some (0,116):=by kernel_rfl
theorem fdT119f1:fdT Tryz.prog 119 1=some (1,117):=by kernel_rfl
theorem fdT214f0:fdT Tryz.prog 214 0=some (0,9):=by kernel_rfl
theorem fdT214f1:fdT Tryz.prog 214 1=some (1,9):=by kernel_rfl
theorem fdT214f2:fdT Tryz.prog 214 2=some (2,122):=by kernel_rfl
theorem fdT225f0:fdT Tryz.prog 225 0=some (0,5):=by kernel_rfl
theorem fdT225f1:fdT Tryz.prog 225 1=some (1,5):=by kernel_rfl
theorem fdT232f0:fdT Tryz.prog 232 0=some (0,9):=by kernel_rfl
theorem fdT27f0:fdT Tryz.prog 27 0=some (0,3):=by kernel_rfl
theorem fdT27f1:fdT Tryz.prog 27 1=some (1,23):=by kernel_rfl
theorem fdT27f2:fdT Tryz.prog 27 2=some (2,24):=by kernel_rfl
theorem fdT27f3:fdT Tryz.prog 27 3=some (3,25):=by kernel_rfl
theorem fdT43f0:fdT Tryz.prog 43 0=some (0,3):=by kernel_rfl
theorem fdT43f1:fdT Tryz.prog 43 1=some (1,3):=by kernel_rfl
theorem fdT48f0:fdT Tryz.prog 48 0=some (0,46):=by kernel_rfl
theorem fdT69f0:fdT Tryz.prog 69 0=some (0,27):=by kernel_rfl
theorem fdT69f1:fdT Tryz.prog 69 1=some (4,3):=by kernel_rfl
theorem fdT71f0:fdT Tryz.prog 71 0=some (0,9):=by kernel_rfl
theorem fdT71f1:fdT Tryz.prog 71 1=some (1,9):=by kernel_rfl
theorem fdT71f2:fdT Tryz.prog 71 2=some (2,48):=by kernel_rfl
theorem fdT71f3:fdT Tryz.prog 71 3=some (3,3):=by kernel_rfl
theorem fdT71f4:fdT Tryz.prog 71 4=some (4,3):=by kernel_rfl
theorem fdT74f0:fdT Tryz.prog 74 0=some (0,9):=by kernel_rfl
theorem fdT74f1:fdT Tryz.prog 74 1=some (1,9):=by kernel_rfl
theorem fdT74f2:fdT Tryz.prog 74 2=some (2,3):=by kernel_rfl
theorem fdT74f3:fdT Tryz.prog 74 3=some (3,4):=by kernel_rfl
theorem fdT76f0:fdT Tryz.prog 76 0=some (0,3):=by kernel_rfl
theorem fdT76f1:fdT Tryz.prog 76 1=some (1,3):=by kernel_rfl
theorem fdT80f0:fdT Tryz.prog 80 0=some (0,43):=by kernel_rfl
theorem fdT80f1:fdT Tryz.prog 80 1=some (2,43):=by kernel_rfl
theorem fdT96f0:fdT Tryz.prog 96 0=some (0,4):=by kernel_rfl
theorem intT116:intT Tryz.prog 116=none:=by kernel_rfl
theorem intT117:intT Tryz.prog 117=none:=by kernel_rfl
theorem intT168:intT Tryz.prog 168=some .u64:=by kernel_rfl
theorem intT174:intT Tryz.prog 174=none:=by kernel_rfl
theorem intT188:intT Tryz.prog 188=some .u32:=by kernel_rfl
theorem intT190:intT Tryz.prog 190=some .u64:=by kernel_rfl
theorem intT2:intT Tryz.prog 2=some .i64:=by kernel_rfl
theorem intT205:intT Tryz.prog 205=some .u64:=by kernel_rfl
theorem intT21:intT Tryz.prog 21=some .i32:=by kernel_rfl
theorem intT3:intT Tryz.prog 3=some .i64:=by kernel_rfl
theorem intT5:intT Tryz.prog 5=some .u8:=by kernel_rfl
theorem intT9:intT Tryz.prog 9=none:=by kernel_rfl
theorem kdT116:kdT Tryz.prog 116=1:=by kernel_rfl
theorem kdT122:kdT Tryz.prog 122=6:=by kernel_rfl
theorem kdT4:kdT Tryz.prog 4=5:=by kernel_rfl
theorem kdT43:kdT Tryz.prog 43=0:=by kernel_rfl
theorem kdT51:kdT Tryz.prog 51=0:=by kernel_rfl
theorem kdT74:kdT Tryz.prog 74=0:=by kernel_rfl
theorem kdT76:kdT Tryz.prog 76=0:=by kernel_rfl
theorem kdT80:kdT Tryz.prog 80=0:=by kernel_rfl
theorem kdT9:kdT Tryz.prog 9=0:=by kernel_rfl
theorem slT102:slT Tryz.prog 102=some 106:=by kernel_rfl
theorem slT117:slT Tryz.prog 117=some 5:=by kernel_rfl
theorem slT142:slT Tryz.prog 142=some 43:=by kernel_rfl
theorem slT159:slT Tryz.prog 159=none:=by kernel_rfl
theorem slT200:slT Tryz.prog 200=none:=by kernel_rfl
theorem slT217:slT Tryz.prog 217=none:=by kernel_rfl
theorem slT218:slT Tryz.prog 218=none:=by kernel_rfl
theorem slT223:slT Tryz.prog 223=none:=by kernel_rfl
theorem slT226:slT Tryz.prog 226=none:=by kernel_rfl
theorem slT23:slT Tryz.prog 23=some 71:=by kernel_rfl
theorem slT233:slT Tryz.prog 233=none:=by kernel_rfl
theorem slT234:slT Tryz.prog 234=none:=by kernel_rfl
theorem slT24:slT Tryz.prog 24=some 74:=by kernel_rfl
theorem slT25:slT Tryz.prog 25=some 76:=by kernel_rfl
theorem slT3:slT Tryz.prog 3=none:=by kernel_rfl
theorem slT46:slT Tryz.prog 46=some 80:=by kernel_rfl
theorem slT55:slT Tryz.prog 55=some 9:=by kernel_rfl
theorem slT9:slT Tryz.prog 9=none:=by kernel_rfl
theorem slT99:slT Tryz.prog 99=some 3:=by kernel_rfl
theorem smT106:smT Tryz.prog 106=true:=by kernel_rfl
theorem smT3:smT Tryz.prog 3=true:=by kernel_rfl
theorem smT43:smT Tryz.prog 43=true:=by kernel_rfl
theorem smT5:smT Tryz.prog 5=true:=by kernel_rfl
theorem smT71:smT Tryz.prog 71=true:=by kernel_rfl
theorem smT74:smT Tryz.prog 74=true:=by kernel_rfl
theorem smT76:smT Tryz.prog 76=true:=by kernel_rfl
theorem smT80:smT Tryz.prog 80=true:=by kernel_rfl
theorem smT9:smT Tryz.prog 9=true:=by kernel_rfl
theorem stT106:stT Tryz.prog 106=true:=by kernel_rfl
theorem stT214:stT Tryz.prog 214=true:=by kernel_rfl
theorem stT217:stT Tryz.prog 217=false:=by kernel_rfl
theorem stT225:stT Tryz.prog 225=true:=by kernel_rfl
theorem stT226:stT Tryz.prog 226=false:=by kernel_rfl
theorem stT232:stT Tryz.prog 232=true:=by kernel_rfl
theorem stT233:stT Tryz.prog 233=false:=by kernel_rfl
theorem stT234:stT Tryz.prog 234=false:=by kernel_rfl
theorem stT27:stT Tryz.prog 27=true:=by kernel_rfl
theorem stT43:stT Tryz.prog 43=true:=by kernel_rfl
theorem stT48:stT Tryz.prog 48=true:=by kernel_rfl
theorem stT51:stT Tryz.prog 51=false:=by kernel_rfl
theorem stT69:stT Tryz.prog 69=true:=by kernel_rfl
theorem stT71:stT Tryz.prog 71=true:=by kernel_rfl
theorem stT74:stT Tryz.prog 74=true:=by kernel_rfl
theorem stT76:stT Tryz.prog 76=true:=by kernel_rfl
theorem stT80:stT Tryz.prog 80=true:=by kernel_rfl
theorem strT102:strT Tryz.prog 102=false:=by kernel_rfl
theorem strT117:strT Tryz.prog 117=false:=by kernel_rfl
theorem strT142:strT Tryz.prog 142=false:=by kernel_rfl
theorem strT159:strT Tryz.prog 159=false:=by kernel_rfl
theorem strT200:strT Tryz.prog 200=false:=by kernel_rfl
theorem strT218:strT Tryz.prog 218=false:=by kernel_rfl
theorem strT23:strT Tryz.prog 23=false:=by kernel_rfl
theorem strT24:strT Tryz.prog 24=false:=by kernel_rfl
theorem strT25:strT Tryz.prog 25=false:=by kernel_rfl
theorem strT3:strT Tryz.prog 3=false:=by kernel_rfl
theorem strT46:strT Tryz.prog 46=false:=by kernel_rfl
theorem strT55:strT Tryz.prog 55=false:=by kernel_rfl
theorem strT9:strT Tryz.prog 9=true:=by kernel_rfl
theorem strT99:strT Tryz.prog 99=false:=by kernel_rfl
theorem szT106:szT Tryz.prog 106=3:=by kernel_rfl
theorem szT116:szT Tryz.prog 116=1:=by kernel_rfl
theorem szT117:szT Tryz.prog 117=1:=by kernel_rfl
theorem szT122:szT Tryz.prog 122=1:=by kernel_rfl
theorem szT190:szT Tryz.prog 190=1:=by kernel_rfl
theorem szT205:szT Tryz.prog 205=1:=by kernel_rfl
theorem szT214:szT Tryz.prog 214=3:=by kernel_rfl
theorem szT217:szT Tryz.prog 217=20:=by kernel_rfl
theorem szT225:szT Tryz.prog 225=2:=by kernel_rfl
theorem szT226:szT Tryz.prog 226=32:=by kernel_rfl
theorem szT23:szT Tryz.prog 23=1:=by kernel_rfl
theorem szT232:szT Tryz.prog 232=1:=by kernel_rfl
theorem szT233:szT Tryz.prog 233=32:=by kernel_rfl
theorem szT234:szT Tryz.prog 234=64:=by kernel_rfl
theorem szT24:szT Tryz.prog 24=1:=by kernel_rfl
theorem szT25:szT Tryz.prog 25=1:=by kernel_rfl
theorem szT27:szT Tryz.prog 27=4:=by kernel_rfl
theorem szT28:szT Tryz.prog 28=1:=by kernel_rfl
theorem szT3:szT Tryz.prog 3=1:=by kernel_rfl
theorem szT4:szT Tryz.prog 4=1:=by kernel_rfl
theorem szT43:szT Tryz.prog 43=2:=by kernel_rfl
theorem szT46:szT Tryz.prog 46=1:=by kernel_rfl
theorem szT48:szT Tryz.prog 48=1:=by kernel_rfl
theorem szT5:szT Tryz.prog 5=1:=by kernel_rfl
theorem szT51:szT Tryz.prog 51=4:=by kernel_rfl
theorem szT69:szT Tryz.prog 69=5:=by kernel_rfl
theorem szT71:szT Tryz.prog 71=5:=by kernel_rfl
theorem szT74:szT Tryz.prog 74=4:=by kernel_rfl
theorem szT76:szT Tryz.prog 76=2:=by kernel_rfl
theorem szT80:szT Tryz.prog 80=4:=by kernel_rfl
theorem szT9:szT Tryz.prog 9=1:=by kernel_rfl
theorem szT96:szT Tryz.prog 96=1:=by kernel_rfl
theorem szT99:szT Tryz.prog 99=1:=by kernel_rfl
theorem zeT106:zeT Tryz.prog 106=some [.int .i64 0,.int .i64 0,.int .i64 0]:=by kernel_rfl
theorem zeT119:zeT Tryz.prog 119=some [.nilptr,.nilsl]:=by kernel_rfl
theorem zeT200:zeT Tryz.prog 200=some [.int .u8 0,.int .u8 0,.int .u8 0,.int .u8 0,.int .u8 0,.int .u8 0,.int .u8 0,.int .u8 0,.int .u8 0,.int .u8 0,.int .u8 0,.int .u8 0,.int .u8 0,.int .u8 0,.int .u8 0,.int .u8 0,.int .u8 0,.int .u8 0,.int .u8 0,.int .u8 0,.int .u8 0,.int .u8 0,.int .u8 0,.int .u8 0]:=by kernel_rfl
theorem zeT205:zeT Tryz.prog 205=some [.int .u64 0]:=by kernel_rfl
theorem zeT214:zeT Tryz.prog 214=some [.str [],.str [],.nilif]:=by kernel_rfl
theorem zeT217:zeT Tryz.prog 217=some [.int .u64 0,.int .u64 0,.int .u64 0,.int .u64 0,.int .u64 0,.int .u64 0,.int .u64 0,.int .u64 0,.int .u64 0,.int .u64 0,.int .u64 0,.int .u64 0,.int .u64 0,.int .u64 0,.int .u64 0,.int .u64 0,.int .u64 0,.int .u64 0,.int .u64 0,.int .u64 0]:=by kernel_rfl
theorem zeT225:zeT Tryz.prog 225=some [.int .u8 0,.int .u8 0]:=by kernel_rfl
theorem zeT226:zeT Tryz.prog 226=some [.int .u8 0,.int .u8 0,.int .u8 0,.int .u8 0,.int .u8 0,.int .u8 0,.int .u8 0,.int .u8 0,.int .u8 0,.int .u8 0,.int .u8 0,.int .u8 0,.int .u8 0,.int .u8 0,.int .u8 0,.int .u8 0,.int .u8 0,.int .u8 0,.int .u8 0,.int .u8 0,.int .u8 0,.int .u8 0,.int .u8 0,.int .u8 0,.int .u8 0,.int .u8 0,.int .u8 0,.int .u8 0,.int .u8 0,.int .u8 0,.int .u8 0,.int .u8 0]:=by kernel_rfl
theorem zeT232:zeT Tryz.prog 232=some [.str []]:=by kernel_rfl
theorem zeT233:zeT Tryz.prog 233=some [.int .u8 0,.int .u8 0,.int .u8 0,.int .u8 0,.int .u8 0,.int .u8 0,.int .u8 0,.int .u8 0,.int .u8 0,.int .u8 0,.int .u8 0,.int .u8 0,.int .u8 0,.int .u8 0,.int .u8 0,.int .u8 0,.int .u8 0,.int .u8 0,.int .u8 0,.int .u8 0,.int .u8 0,.int .u8 0,.int .u8 0,.int .u8 0,.int .u8 0,.int .u8 0,.int .u8 0,.int .u8 0,.int .u8 0,.int .u8 0,.int .u8 0,.int .u8 0]:=by kernel_rfl
theorem zeT27:zeT Tryz.prog 27=some [.int .i64 0,.nilsl,.nilsl,.nilsl]:=by kernel_rfl
theorem zeT28:zeT Tryz.prog 28=some [.int .i64 0]:=by kernel_rfl
theorem zeT3:zeT Tryz.prog 3=some [.int .i64 0]:=by kernel_rfl
theorem zeT43:zeT Tryz.prog 43=some [.int .i64 0,.int .i64 0]:=by kernel_rfl
theorem zeT48:zeT Tryz.prog 48=some [.nilsl]:=by kernel_rfl
theorem zeT5:zeT Tryz.prog 5=some [.int .u8 0]:=by kernel_rfl
theorem zeT51:zeT Tryz.prog 51=some [.int .i64 0,.int .i64 0,.int .i64 0,.int .i64 0]:=by kernel_rfl
theorem zeT69:zeT Tryz.prog 69=some [.int .i64 0,.nilsl,.nilsl,.nilsl,.int .i64 0]:=by kernel_rfl
theorem zeT71:zeT Tryz.prog 71=some [.str [],.str [],.nilsl,.int .i64 0,.int .i64 0]:=by kernel_rfl
theorem zeT74:zeT Tryz.prog 74=some [.str [],.str [],.int .i64 0,.bool false]:=by kernel_rfl
theorem zeT76:zeT Tryz.prog 76=some [.int .i64 0,.int .i64 0]:=by kernel_rfl
theorem zeT80:zeT Tryz.prog 80=some [.int .i64 0,.int .i64 0,.int .i64 0,.int .i64 0]:=by kernel_rfl
theorem zeT9:zeT Tryz.prog 9=some [.str []]:=by kernel_rfl
theorem zeT96:zeT Tryz.prog 96=some [.bool false]:=by kernel_rfl
end Go.Proofs.YtomkbpoicjabfaaGreatDoor
namespace Go.Proofs.YtomkbpoicjabfaaGreatDoor
open Go.RowKit
attribute [local irreducible] WA WOs WDs WAn qThen qBlock
set_option linter.unusedVariables false
theorem ma2{L ext:Mem}{a b:Blk}:(L++ext)++[a,b]=L++(ext++[a,b]):=List.append_assoc ..
theorem ofC_nilsl:ofC (.slice none 0 0)= .nilsl:=rfl
theorem ofC_nilptr:ofC (.pointer none)= .nilptr:=rfl
theorem ofC_nilfn:ofC .nilFunc= .nilfn:=rfl
theorem ofC_nilmap:ofC (.map none)= .nilmap:=rfl
theorem ofC_nilif:ofC .nilIface= .nilif:=rfl
theorem ofC_str{s:ByteArray}:ofC (.string s)= .str s.data.toList:=rfl
theorem tg_c{i j:Nat}{v:V}{r:List (Nat×V)}:tget ((i,v)::r) j=if i=j then v else tget r j:=rfl
theorem tg_n{j:Nat}:tget [] j= .any:=rfl
theorem lk_{α:Type}{a b:α}(h:a=b:=by first|(simp only [Bool.not_true,Bool.not_false,↓evO_tmp,↓evO_const,↓evO_func,↓evO_glb,gval,ofC_int,ofC_bool,ofC_nilsl,ofC_nilptr,ofC_nilfn,ofC_nilmap,ofC_nilif,ofC_str,↓tg_c,tg_n,↓reduceIte,Nat.reduceEqDiff,Nat.succ_ne_zero,Nat.zero_ne_one,Nat.one_ne_zero,argT,↓List.map_cons,List.map_nil,Nat.reduceAdd,List.cons_append,List.nil_append]<;>with_reducible exact rfl)|fail):a=b:=h
theorem rv_{α:Type}{a b:α}(h:a=b:=by first|(simp (disch:=omega) only [resV,resVs,resOne,tupV,↓ev_move,↓ev_assign,↓ev_pick,↓ev_alloc,↓ev_box,↓ev_load,↓ev_store,↓ev_binOp,↓ev_unOp,↓ev_extract,↓ev_fieldAddr,↓ev_field,↓ev_indexAddr,↓ev_index,↓ev_makeFunc,↓ev_build,↓ev_makeSlice,↓ev_buildSlice,↓ev_convert,↓ev_len,↓ev_max,↓ev_min,↓ev_append,↓ev_slice,maxLen_eq,b_aeq,b_ane,planEq,leafEq,←Bool.decide_and,b_add,b_sub,b_mul,b_quo,b_rem,b_and,b_or,b_xor,b_eql,b_neq,b_lss,b_leq,b_gtr,b_geq,b_sadd,b_seql,b_sneq,u_not,u_neg,okO_some,okR_eq,↓evO_tmp,↓evO_const,↓evO_func,↓evO_glb,gval,ofC_int,ofC_bool,ofC_nilsl,ofC_nilptr,ofC_nilfn,ofC_nilmap,ofC_nilif,ofC_str,tput_some,tput_none,i64w,u64w,Int.one_mul,Int.tdiv_eq_ediv_of_nonneg,ne_eq,not_false_eq_true,not_true_eq_false,Int.reduceEq,↓tg_c,tg_n,↓reduceIte,Nat.reduceEqDiff,true_and,and_true,evMax,evMin,reduceCtorEq,Nat.succ_ne_zero,Nat.zero_ne_one,Nat.one_ne_zero,Bool.not_true,Bool.not_false,argT,Nat.reduceAdd,pickT,List.map_cons,List.map_nil,Nat.reduceMul,Nat.reduceSub,Nat.reduceLT,Nat.reduceLeDiff,Nat.lt_irrefl,Int.reduceToNat,Int.reduceLT,Int.reduceLE,Int.reduceNeg,Int.reduceAdd,Int.reduceMul,Int.toNat_zero,Int.toNat_one,decide_true,decide_false,and_self,List.length_cons,List.length_nil,List.getElem?_cons_zero,List.getElem?_cons_succ,List.drop_zero,List.drop_succ_cons,List.take_zero,List.take_succ_cons,List.take_nil,List.drop_nil,List.cons_append,List.nil_append,List.set_cons_zero,List.set_cons_succ,List.all_cons,List.all_nil,Bool.and_true,Bool.and_self,Option.map_some,List.flatten_cons,List.flatten_nil,↓mg,↓ms,↓mg0,↓ms0,ma,ma2,ml,V.one,cellsV,partV,evLoad,evStore,ldB,wrB,evStrIdx,↓ev_nilCheck,evFA,evF,evIA,evI,evBuild,fillV,setAt,evSlice,evStrSlice,bound,chunks,evLen,evAppend,elsV,beq_self_eq_true,Nat.reduceBEq,evMake,evBuildSl,repL,List.replicate_succ,List.replicate_zero,List.range_succ,List.range_zero,Option.map_none,Int.toNat_natCast,Nat.zero_add,Nat.add_zero,Nat.zero_mul,Nat.one_mul,Int.le_refl,Nat.le_refl,agT106,agT116,agT117,agT122,agT190,agT205,agT225,agT23,agT24,agT25,agT27,agT28,agT3,agT4,agT43,agT46,agT48,agT5,agT51,agT71,agT74,agT76,agT80,agT9,agT96,agT99,arT102,arT106,arT117,arT142,arT200,arT214,arT217,arT218,arT223,arT225,arT226,arT23,arT232,arT233,arT234,arT24,arT25,arT27,arT43,arT46,arT48,arT51,arT55,arT69,arT71,arT74,arT76,arT80,arT9,arT99,eqT116,eqT122,eqT4,eqT43,eqT51,eqT74,eqT76,eqT80,eqT9,fdT106f0,fdT106f1,fdT119f0,fdT119f1,fdT214f0,fdT214f1,fdT214f2,fdT225f0,fdT225f1,fdT232f0,fdT27f0,fdT27f1,fdT27f2,fdT27f3,fdT43f0,fdT43f1,fdT48f0,fdT69f0,fdT69f1,fdT71f0,fdT71f1,fdT71f2,fdT71f3,fdT71f4,fdT74f0,fdT74f1,fdT74f2,fdT74f3,fdT76f0,fdT76f1,fdT80f0,fdT80f1,fdT96f0,intT116,intT117,intT168,intT174,intT188,intT190,intT2,intT205,intT21,intT3,intT5,intT9,kdT116,kdT122,kdT4,kdT43,kdT51,kdT74,kdT76,kdT80,kdT9,slT102,slT117,slT142,slT159,slT200,slT217,slT218,slT223,slT226,slT23,slT233,slT234,slT24,slT25,slT3,slT46,slT55,slT9,slT99,smT106,smT3,smT43,smT5,smT71,smT74,smT76,smT80,smT9,stT106,stT214,stT217,stT225,stT226,stT232,stT233,stT234,stT27,stT43,stT48,stT51,stT69,stT71,stT74,stT76,stT80,strT102,strT117,strT142,strT159,strT200,strT218,strT23,strT24,strT25,strT3,strT46,strT55,strT9,strT99,szT106,szT116,szT117,szT122,szT190,szT205,szT214,szT217,szT225,szT226,szT23,szT232,szT233,szT234,szT24,szT25,szT27,szT28,szT3,szT4,szT43,szT46,szT48,szT5,szT51,szT69,szT71,szT74,szT76,szT80,szT9,szT96,szT99,zeT106,zeT119,zeT200,zeT205,zeT214,zeT217,zeT225,zeT226,zeT232,zeT233,zeT27,zeT28,zeT3,zeT43,zeT48,zeT5,zeT51,zeT69,zeT71,zeT74,zeT76,zeT80,zeT9,zeT96,FX]<;>with_reducible exact rfl)|(simp (disch:=omega) only [resV,resVs,resOne,tupV,↓ev_move,↓ev_assign,↓ev_pick,↓ev_alloc,↓ev_box,↓ev_load,↓ev_store,↓ev_binOp,↓ev_unOp,↓ev_extract,↓ev_fieldAddr,↓ev_field,↓ev_indexAddr,↓ev_index,↓ev_makeFunc,↓ev_build,↓ev_makeSlice,↓ev_buildSlice,↓ev_convert,↓ev_len,↓ev_max,↓ev_min,↓ev_append,↓ev_slice,maxLen_eq,b_aeq,b_ane,planEq,leafEq,←Bool.decide_and,b_add,b_sub,b_mul,b_quo,b_rem,b_and,b_or,b_xor,b_eql,b_neq,b_lss,b_leq,b_gtr,b_geq,b_sadd,b_seql,b_sneq,u_not,u_neg,okO_some,okR_eq,↓evO_tmp,↓evO_const,↓evO_func,↓evO_glb,gval,ofC_int,ofC_bool,ofC_nilsl,ofC_nilptr,ofC_nilfn,ofC_nilmap,ofC_nilif,ofC_str,tput_some,tput_none,i64w,u64w,Int.one_mul,Int.tdiv_eq_ediv_of_nonneg,ne_eq,not_false_eq_true,not_true_eq_false,Int.reduceEq,↓tg_c,tg_n,↓reduceIte,Nat.reduceEqDiff,true_and,and_true,evMax,evMin,reduceCtorEq,Nat.succ_ne_zero,Nat.zero_ne_one,Nat.one_ne_zero,Bool.not_true,Bool.not_false,argT,Nat.reduceAdd,pickT,List.map_cons,List.map_nil,Nat.reduceMul,Nat.reduceSub,Nat.reduceLT,Nat.reduceLeDiff,Nat.lt_irrefl,Int.reduceToNat,Int.reduceLT,Int.reduceLE,Int.reduceNeg,Int.reduceAdd,Int.reduceMul,Int.toNat_zero,Int.toNat_one,decide_true,decide_false,and_self,List.length_cons,List.length_nil,List.getElem?_cons_zero,List.getElem?_cons_succ,List.drop_zero,List.drop_succ_cons,List.take_zero,List.take_succ_cons,List.take_nil,List.drop_nil,List.cons_append,List.nil_append,List.set_cons_zero,List.set_cons_succ,List.all_cons,List.all_nil,Bool.and_true,Bool.and_self,Option.map_some,List.flatten_cons,List.flatten_nil,↓mg,↓ms,↓mg0,↓ms0,ma,ma2,ml,V.one,cellsV,partV,evLoad,evStore,ldB,wrB,evStrIdx,↓ev_nilCheck,evFA,evF,evIA,evI,evBuild,fillV,setAt,evSlice,evStrSlice,bound,chunks,evLen,evAppend,elsV,beq_self_eq_true,Nat.reduceBEq,evMake,evBuildSl,repL,List.replicate_succ,List.replicate_zero,List.range_succ,List.range_zero,Option.map_none,Int.toNat_natCast,Nat.zero_add,Nat.add_zero,Nat.zero_mul,Nat.one_mul,Int.le_refl,Nat.le_refl,agT106,agT116,agT117,agT122,agT190,agT205,agT225,agT23,agT24,agT25,agT27,agT28,agT3,agT4,agT43,agT46,agT48,agT5,agT51,agT71,agT74,agT76,agT80,agT9,agT96,agT99,arT102,arT106,arT117,arT142,arT200,arT214,arT217,arT218,arT223,arT225,arT226,arT23,arT232,arT233,arT234,arT24,arT25,arT27,arT43,arT46,arT48,arT51,arT55,arT69,arT71,arT74,arT76,arT80,arT9,arT99,eqT116,eqT122,eqT4,eqT43,eqT51,eqT74,eqT76,eqT80,eqT9,fdT106f0,fdT106f1,fdT119f0,fdT119f1,fdT214f0,fdT214f1,fdT214f2,fdT225f0,fdT225f1,fdT232f0,fdT27f0,fdT27f1,fdT27f2,fdT27f3,fdT43f0,fdT43f1,fdT48f0,fdT69f0,fdT69f1,fdT71f0,fdT71f1,fdT71f2,fdT71f3,fdT71f4,fdT74f0,fdT74f1,fdT74f2,fdT74f3,fdT76f0,fdT76f1,fdT80f0,fdT80f1,fdT96f0,intT116,intT117,intT168,intT174,intT188,intT190,intT2,intT205,intT21,intT3,intT5,intT9,kdT116,kdT122,kdT4,kdT43,kdT51,kdT74,kdT76,kdT80,kdT9,slT102,slT117,slT142,slT159,slT200,slT217,slT218,slT223,slT226,slT23,slT233,slT234,slT24,slT25,slT3,slT46,slT55,slT9,slT99,smT106,smT3,smT43,smT5,smT71,smT74,smT76,smT80,smT9,stT106,stT214,stT217,stT225,stT226,stT232,stT233,stT234,stT27,stT43,stT48,stT51,stT69,stT71,stT74,stT76,stT80,strT102,strT117,strT142,strT159,strT200,strT218,strT23,strT24,strT25,strT3,strT46,strT55,strT9,strT99,szT106,szT116,szT117,szT122,szT190,szT205,szT214,szT217,szT225,szT226,szT23,szT232,szT233,szT234,szT24,szT25,szT27,szT28,szT3,szT4,szT43,szT46,szT48,szT5,szT51,szT69,szT71,szT74,szT76,szT80,szT9,szT96,szT99,zeT106,zeT119,zeT200,zeT205,zeT214,zeT217,zeT225,zeT226,zeT232,zeT233,zeT27,zeT28,zeT3,zeT43,zeT48,zeT5,zeT51,zeT69,zeT71,zeT74,zeT76,zeT80,zeT9,zeT96]<;>with_reducible exact rfl)|fail):a=b:=h
theorem ev_{α:Type}{a b:α}(h:a=b:=by first|(simp (disch:=omega) only [↓ev_move,↓ev_assign,↓ev_pick,↓ev_alloc,↓ev_box,↓ev_load,↓ev_store,↓ev_binOp,↓ev_unOp,↓ev_extract,↓ev_fieldAddr,↓ev_field,↓ev_indexAddr,↓ev_index,↓ev_makeFunc,↓ev_build,↓ev_makeSlice,↓ev_buildSlice,↓ev_convert,↓ev_len,↓ev_max,↓ev_min,↓ev_append,↓ev_slice,maxLen_eq,b_aeq,b_ane,planEq,leafEq,←Bool.decide_and,b_add,b_sub,b_mul,b_quo,b_rem,b_and,b_or,b_xor,b_eql,b_neq,b_lss,b_leq,b_gtr,b_geq,b_sadd,b_seql,b_sneq,u_not,u_neg,okO_some,okR_eq,↓evO_tmp,↓evO_const,↓evO_func,↓evO_glb,gval,ofC_int,ofC_bool,ofC_nilsl,ofC_nilptr,ofC_nilfn,ofC_nilmap,ofC_nilif,ofC_str,tput_some,tput_none,i64w,u64w,Int.one_mul,Int.tdiv_eq_ediv_of_nonneg,ne_eq,not_false_eq_true,not_true_eq_false,Int.reduceEq,↓tg_c,tg_n,↓reduceIte,Nat.reduceEqDiff,true_and,and_true,evMax,evMin,reduceCtorEq,Nat.succ_ne_zero,Nat.zero_ne_one,Nat.one_ne_zero,Bool.not_true,Bool.not_false,argT,Nat.reduceAdd,pickT,List.map_cons,List.map_nil,Nat.reduceMul,Nat.reduceSub,Nat.reduceLT,Nat.reduceLeDiff,Nat.lt_irrefl,Int.reduceToNat,Int.reduceLT,Int.reduceLE,Int.reduceNeg,Int.reduceAdd,Int.reduceMul,Int.toNat_zero,Int.toNat_one,decide_true,decide_false,and_self,List.length_cons,List.length_nil,List.getElem?_cons_zero,List.getElem?_cons_succ,List.drop_zero,List.drop_succ_cons,List.take_zero,List.take_succ_cons,List.take_nil,List.drop_nil,List.cons_append,List.nil_append,List.set_cons_zero,List.set_cons_succ,List.all_cons,List.all_nil,Bool.and_true,Bool.and_self,Option.map_some,List.flatten_cons,List.flatten_nil,↓mg,↓ms,↓mg0,↓ms0,ma,ma2,ml,V.one,cellsV,partV,evLoad,evStore,ldB,wrB,evStrIdx,↓ev_nilCheck,evFA,evF,evIA,evI,evBuild,fillV,setAt,evSlice,evStrSlice,bound,chunks,evLen,evAppend,elsV,beq_self_eq_true,Nat.reduceBEq,evMake,evBuildSl,repL,List.replicate_succ,List.replicate_zero,List.range_succ,List.range_zero,Option.map_none,Int.toNat_natCast,Nat.zero_add,Nat.add_zero,Nat.zero_mul,Nat.one_mul,Int.le_refl,Nat.le_refl,agT106,agT116,agT117,agT122,agT190,agT205,agT225,agT23,agT24,agT25,agT27,agT28,agT3,agT4,agT43,agT46,agT48,agT5,agT51,agT71,agT74,agT76,agT80,agT9,agT96,agT99,arT102,arT106,arT117,arT142,arT200,arT214,arT217,arT218,arT223,arT225,arT226,arT23,arT232,arT233,arT234,arT24,arT25,arT27,arT43,arT46,arT48,arT51,arT55,arT69,arT71,arT74,arT76,arT80,arT9,arT99,eqT116,eqT122,eqT4,eqT43,eqT51,eqT74,eqT76,eqT80,eqT9,fdT106f0,fdT106f1,fdT119f0,fdT119f1,fdT214f0,fdT214f1,fdT214f2,fdT225f0,fdT225f1,fdT232f0,fdT27f0,fdT27f1,fdT27f2,fdT27f3,fdT43f0,fdT43f1,fdT48f0,fdT69f0,fdT69f1,fdT71f0,fdT71f1,fdT71f2,fdT71f3,fdT71f4,fdT74f0,fdT74f1,fdT74f2,fdT74f3,fdT76f0,fdT76f1,fdT80f0,fdT80f1,fdT96f0,intT116,intT117,intT168,intT174,intT188,intT190,intT2,intT205,intT21,intT3,intT5,intT9,kdT116,kdT122,kdT4,kdT43,kdT51,kdT74,kdT76,kdT80,kdT9,slT102,slT117,slT142,slT159,slT200,slT217,slT218,slT223,slT226,slT23,slT233,slT234,slT24,slT25,slT3,slT46,slT55,slT9,slT99,smT106,smT3,smT43,smT5,smT71,smT74,smT76,smT80,smT9,stT106,stT214,stT217,stT225,stT226,stT232,stT233,stT234,stT27,stT43,stT48,stT51,stT69,stT71,stT74,stT76,stT80,strT102,strT117,strT142,strT159,strT200,strT218,strT23,strT24,strT25,strT3,strT46,strT55,strT9,strT99,szT106,szT116,szT117,szT122,szT190,szT205,szT214,szT217,szT225,szT226,szT23,szT232,szT233,szT234,szT24,szT25,szT27,szT28,szT3,szT4,szT43,szT46,szT48,szT5,szT51,szT69,szT71,szT74,szT76,szT80,szT9,szT96,szT99,zeT106,zeT119,zeT200,zeT205,zeT214,zeT217,zeT225,zeT226,zeT232,zeT233,zeT27,zeT28,zeT3,zeT43,zeT48,zeT5,zeT51,zeT69,zeT71,zeT74,zeT76,zeT80,zeT9,zeT96,FX]<;>with_reducible exact rfl)|(simp (disch:=omega) only [↓ev_move,↓ev_assign,↓ev_pick,↓ev_alloc,↓ev_box,↓ev_load,↓ev_store,↓ev_binOp,↓ev_unOp,↓ev_extract,↓ev_fieldAddr,↓ev_field,↓ev_indexAddr,↓ev_index,↓ev_makeFunc,↓ev_build,↓ev_makeSlice,↓ev_buildSlice,↓ev_convert,↓ev_len,↓ev_max,↓ev_min,↓ev_append,↓ev_slice,maxLen_eq,b_aeq,b_ane,planEq,leafEq,←Bool.decide_and,b_add,b_sub,b_mul,b_quo,b_rem,b_and,b_or,b_xor,b_eql,b_neq,b_lss,b_leq,b_gtr,b_geq,b_sadd,b_seql,b_sneq,u_not,u_neg,okO_some,okR_eq,↓evO_tmp,↓evO_const,↓evO_func,↓evO_glb,gval,ofC_int,ofC_bool,ofC_nilsl,ofC_nilptr,ofC_nilfn,ofC_nilmap,ofC_nilif,ofC_str,tput_some,tput_none,i64w,u64w,Int.one_mul,Int.tdiv_eq_ediv_of_nonneg,ne_eq,not_false_eq_true,not_true_eq_false,Int.reduceEq,↓tg_c,tg_n,↓reduceIte,Nat.reduceEqDiff,true_and,and_true,evMax,evMin,reduceCtorEq,Nat.succ_ne_zero,Nat.zero_ne_one,Nat.one_ne_zero,Bool.not_true,Bool.not_false,argT,Nat.reduceAdd,pickT,List.map_cons,List.map_nil,Nat.reduceMul,Nat.reduceSub,Nat.reduceLT,Nat.reduceLeDiff,Nat.lt_irrefl,Int.reduceToNat,Int.reduceLT,Int.reduceLE,Int.reduceNeg,Int.reduceAdd,Int.reduceMul,Int.toNat_zero,Int.toNat_one,decide_true,decide_false,and_self,List.length_cons,List.length_nil,List.getElem?_cons_zero,List.getElem?_cons_succ,List.drop_zero,List.drop_succ_cons,List.take_zero,List.take_succ_cons,List.take_nil,List.drop_nil,List.cons_append,List.nil_append,List.set_cons_zero,List.set_cons_succ,List.all_cons,List.all_nil,Bool.and_true,Bool.and_self,Option.map_some,List.flatten_cons,List.flatten_nil,↓mg,↓ms,↓mg0,↓ms0,ma,ma2,ml,V.one,cellsV,partV,evLoad,evStore,ldB,wrB,evStrIdx,↓ev_nilCheck,evFA,evF,evIA,evI,evBuild,fillV,setAt,evSlice,evStrSlice,bound,chunks,evLen,evAppend,elsV,beq_self_eq_true,Nat.reduceBEq,evMake,evBuildSl,repL,List.replicate_succ,List.replicate_zero,List.range_succ,List.range_zero,Option.map_none,Int.toNat_natCast,Nat.zero_add,Nat.add_zero,Nat.zero_mul,Nat.one_mul,Int.le_refl,Nat.le_refl,agT106,agT116,agT117,agT122,agT190,agT205,agT225,agT23,agT24,agT25,agT27,agT28,agT3,agT4,agT43,agT46,agT48,agT5,agT51,agT71,agT74,agT76,agT80,agT9,agT96,agT99,arT102,arT106,arT117,arT142,arT200,arT214,arT217,arT218,arT223,arT225,arT226,arT23,arT232,arT233,arT234,arT24,arT25,arT27,arT43,arT46,arT48,arT51,arT55,arT69,arT71,arT74,arT76,arT80,arT9,arT99,eqT116,eqT122,eqT4,eqT43,eqT51,eqT74,eqT76,eqT80,eqT9,fdT106f0,fdT106f1,fdT119f0,fdT119f1,fdT214f0,fdT214f1,fdT214f2,fdT225f0,fdT225f1,fdT232f0,fdT27f0,fdT27f1,fdT27f2,fdT27f3,fdT43f0,fdT43f1,fdT48f0,fdT69f0,fdT69f1,fdT71f0,fdT71f1,fdT71f2,fdT71f3,fdT71f4,fdT74f0,fdT74f1,fdT74f2,fdT74f3,fdT76f0,fdT76f1,fdT80f0,fdT80f1,fdT96f0,intT116,intT117,intT168,intT174,intT188,intT190,intT2,intT205,intT21,intT3,intT5,intT9,kdT116,kdT122,kdT4,kdT43,kdT51,kdT74,kdT76,kdT80,kdT9,slT102,slT117,slT142,slT159,slT200,slT217,slT218,slT223,slT226,slT23,slT233,slT234,slT24,slT25,slT3,slT46,slT55,slT9,slT99,smT106,smT3,smT43,smT5,smT71,smT74,smT76,smT80,smT9,stT106,stT214,stT217,stT225,stT226,stT232,stT233,stT234,stT27,stT43,stT48,stT51,stT69,stT71,stT74,stT76,stT80,strT102,strT117,strT142,strT159,strT200,strT218,strT23,strT24,strT25,strT3,strT46,strT55,strT9,strT99,szT106,szT116,szT117,szT122,szT190,szT205,szT214,szT217,szT225,szT226,szT23,szT232,szT233,szT234,szT24,szT25,szT27,szT28,szT3,szT4,szT43,szT46,szT48,szT5,szT51,szT69,szT71,szT74,szT76,szT80,szT9,szT96,szT99,zeT106,zeT119,zeT200,zeT205,zeT214,zeT217,zeT225,zeT226,zeT232,zeT233,zeT27,zeT28,zeT3,zeT43,zeT48,zeT5,zeT51,zeT69,zeT71,zeT74,zeT76,zeT80,zeT9,zeT96]<;>with_reducible exact rfl)|fail):a=b:=h
theorem ev2_{α:Type}{a b:α}(h:a=b:=by first|(simp (disch:=omega) only [↓ev_move,↓ev_assign,↓ev_pick,↓ev_alloc,↓ev_box,↓ev_load,↓ev_store,↓ev_binOp,↓ev_unOp,↓ev_extract,↓ev_fieldAddr,↓ev_field,↓ev_indexAddr,↓ev_index,↓ev_makeFunc,↓ev_build,↓ev_makeSlice,↓ev_buildSlice,↓ev_convert,↓ev_len,↓ev_max,↓ev_min,↓ev_append,↓ev_slice,maxLen_eq,b_aeq,b_ane,planEq,leafEq,←Bool.decide_and,b_add,b_sub,b_mul,b_quo,b_rem,b_and,b_or,b_xor,b_eql,b_neq,b_lss,b_leq,b_gtr,b_geq,b_sadd,b_seql,b_sneq,u_not,u_neg,okO_some,okR_eq,↓evO_tmp,↓evO_const,↓evO_func,↓evO_glb,gval,ofC_int,ofC_bool,ofC_nilsl,ofC_nilptr,ofC_nilfn,ofC_nilmap,ofC_nilif,ofC_str,tput_some,tput_none,i64w,u64w,Int.one_mul,Int.tdiv_eq_ediv_of_nonneg,ne_eq,not_false_eq_true,not_true_eq_false,Int.reduceEq,↓tg_c,tg_n,↓reduceIte,Nat.reduceEqDiff,true_and,and_true,evMax,evMin,reduceCtorEq,Nat.succ_ne_zero,Nat.zero_ne_one,Nat.one_ne_zero,Bool.not_true,Bool.not_false,argT,Nat.reduceAdd,pickT,List.map_cons,List.map_nil,Nat.reduceMul,Nat.reduceSub,Nat.reduceLT,Nat.reduceLeDiff,Nat.lt_irrefl,Int.reduceToNat,Int.reduceLT,Int.reduceLE,Int.reduceNeg,Int.reduceAdd,Int.reduceMul,Int.toNat_zero,Int.toNat_one,decide_true,decide_false,and_self,List.length_cons,List.length_nil,List.getElem?_cons_zero,List.getElem?_cons_succ,List.drop_zero,List.drop_succ_cons,List.take_zero,List.take_succ_cons,List.take_nil,List.drop_nil,List.cons_append,List.nil_append,List.set_cons_zero,List.set_cons_succ,List.all_cons,List.all_nil,Bool.and_true,Bool.and_self,Option.map_some,List.flatten_cons,List.flatten_nil,↓mg,↓ms,↓mg0,↓ms0,ma,ma2,ml,V.one,cellsV,partV,evLoad,evStore,ldB,wrB,evStrIdx,↓ev_nilCheck,evFA,evF,evIA,evI,evBuild,fillV,setAt,evSlice,evStrSlice,bound,chunks,evLen,evAppend,elsV,beq_self_eq_true,Nat.reduceBEq,evMake,evBuildSl,repL,List.replicate_succ,List.replicate_zero,List.range_succ,List.range_zero,Option.map_none,Int.toNat_natCast,Nat.zero_add,Nat.add_zero,Nat.zero_mul,Nat.one_mul,Int.le_refl,Nat.le_refl,agT106,agT116,agT117,agT122,agT190,agT205,agT225,agT23,agT24,agT25,agT27,agT28,agT3,agT4,agT43,agT46,agT48,agT5,agT51,agT71,agT74,agT76,agT80,agT9,agT96,agT99,arT102,arT106,arT117,arT142,arT200,arT214,arT217,arT218,arT223,arT225,arT226,arT23,arT232,arT233,arT234,arT24,arT25,arT27,arT43,arT46,arT48,arT51,arT55,arT69,arT71,arT74,arT76,arT80,arT9,arT99,eqT116,eqT122,eqT4,eqT43,eqT51,eqT74,eqT76,eqT80,eqT9,fdT106f0,fdT106f1,fdT119f0,fdT119f1,fdT214f0,fdT214f1,fdT214f2,fdT225f0,fdT225f1,fdT232f0,fdT27f0,fdT27f1,fdT27f2,fdT27f3,fdT43f0,fdT43f1,fdT48f0,fdT69f0,fdT69f1,fdT71f0,fdT71f1,fdT71f2,fdT71f3,fdT71f4,fdT74f0,fdT74f1,fdT74f2,fdT74f3,fdT76f0,fdT76f1,fdT80f0,fdT80f1,fdT96f0,intT116,intT117,intT168,intT174,intT188,intT190,intT2,intT205,intT21,intT3,intT5,intT9,kdT116,kdT122,kdT4,kdT43,kdT51,kdT74,kdT76,kdT80,kdT9,slT102,slT117,slT142,slT159,slT200,slT217,slT218,slT223,slT226,slT23,slT233,slT234,slT24,slT25,slT3,slT46,slT55,slT9,slT99,smT106,smT3,smT43,smT5,smT71,smT74,smT76,smT80,smT9,stT106,stT214,stT217,stT225,stT226,stT232,stT233,stT234,stT27,stT43,stT48,stT51,stT69,stT71,stT74,stT76,stT80,strT102,strT117,strT142,strT159,strT200,strT218,strT23,strT24,strT25,strT3,strT46,strT55,strT9,strT99,szT106,szT116,szT117,szT122,szT190,szT205,szT214,szT217,szT225,szT226,szT23,szT232,szT233,szT234,szT24,szT25,szT27,szT28,szT3,szT4,szT43,szT46,szT48,szT5,szT51,szT69,szT71,szT74,szT76,szT80,szT9,szT96,szT99,zeT106,zeT119,zeT200,zeT205,zeT214,zeT217,zeT225,zeT226,zeT232,zeT233,zeT27,zeT28,zeT3,zeT43,zeT48,zeT5,zeT51,zeT69,zeT71,zeT74,zeT76,zeT80,zeT9,zeT96,FX]<;>exact rfl)|(simp (disch:=omega) only [↓ev_move,↓ev_assign,↓ev_pick,↓ev_alloc,↓ev_box,↓ev_load,↓ev_store,↓ev_binOp,↓ev_unOp,↓ev_extract,↓ev_fieldAddr,↓ev_field,↓ev_indexAddr,↓ev_index,↓ev_makeFunc,↓ev_build,↓ev_makeSlice,↓ev_buildSlice,↓ev_convert,↓ev_len,↓ev_max,↓ev_min,↓ev_append,↓ev_slice,maxLen_eq,b_aeq,b_ane,planEq,leafEq,←Bool.decide_and,b_add,b_sub,b_mul,b_quo,b_rem,b_and,b_or,b_xor,b_eql,b_neq,b_lss,b_leq,b_gtr,b_geq,b_sadd,b_seql,b_sneq,u_not,u_neg,okO_some,okR_eq,↓evO_tmp,↓evO_const,↓evO_func,↓evO_glb,gval,ofC_int,ofC_bool,ofC_nilsl,ofC_nilptr,ofC_nilfn,ofC_nilmap,ofC_nilif,ofC_str,tput_some,tput_none,i64w,u64w,Int.one_mul,Int.tdiv_eq_ediv_of_nonneg,ne_eq,not_false_eq_true,not_true_eq_false,Int.reduceEq,↓tg_c,tg_n,↓reduceIte,Nat.reduceEqDiff,true_and,and_true,evMax,evMin,reduceCtorEq,Nat.succ_ne_zero,Nat.zero_ne_one,Nat.one_ne_zero,Bool.not_true,Bool.not_false,argT,Nat.reduceAdd,pickT,List.map_cons,List.map_nil,Nat.reduceMul,Nat.reduceSub,Nat.reduceLT,Nat.reduceLeDiff,Nat.lt_irrefl,Int.reduceToNat,Int.reduceLT,Int.reduceLE,Int.reduceNeg,Int.reduceAdd,Int.reduceMul,Int.toNat_zero,Int.toNat_one,decide_true,decide_false,and_self,List.length_cons,List.length_nil,List.getElem?_cons_zero,List.getElem?_cons_succ,List.drop_zero,List.drop_succ_cons,List.take_zero,List.take_succ_cons,List.take_nil,List.drop_nil,List.cons_append,List.nil_append,List.set_cons_zero,List.set_cons_succ,List.all_cons,List.all_nil,Bool.and_true,Bool.and_self,Option.map_some,List.flatten_cons,List.flatten_nil,↓mg,↓ms,↓mg0,↓ms0,ma,ma2,ml,V.one,cellsV,partV,evLoad,evStore,ldB,wrB,evStrIdx,↓ev_nilCheck,evFA,evF,evIA,evI,evBuild,fillV,setAt,evSlice,evStrSlice,bound,chunks,evLen,evAppend,elsV,beq_self_eq_true,Nat.reduceBEq,evMake,evBuildSl,repL,List.replicate_succ,List.replicate_zero,List.range_succ,List.range_zero,Option.map_none,Int.toNat_natCast,Nat.zero_add,Nat.add_zero,Nat.zero_mul,Nat.one_mul,Int.le_refl,Nat.le_refl,agT106,agT116,agT117,agT122,agT190,agT205,agT225,agT23,agT24,agT25,agT27,agT28,agT3,agT4,agT43,agT46,agT48,agT5,agT51,agT71,agT74,agT76,agT80,agT9,agT96,agT99,arT102,arT106,arT117,arT142,arT200,arT214,arT217,arT218,arT223,arT225,arT226,arT23,arT232,arT233,arT234,arT24,arT25,arT27,arT43,arT46,arT48,arT51,arT55,arT69,arT71,arT74,arT76,arT80,arT9,arT99,eqT116,eqT122,eqT4,eqT43,eqT51,eqT74,eqT76,eqT80,eqT9,fdT106f0,fdT106f1,fdT119f0,fdT119f1,fdT214f0,fdT214f1,fdT214f2,fdT225f0,fdT225f1,fdT232f0,fdT27f0,fdT27f1,fdT27f2,fdT27f3,fdT43f0,fdT43f1,fdT48f0,fdT69f0,fdT69f1,fdT71f0,fdT71f1,fdT71f2,fdT71f3,fdT71f4,fdT74f0,fdT74f1,fdT74f2,fdT74f3,fdT76f0,fdT76f1,fdT80f0,fdT80f1,fdT96f0,intT116,intT117,intT168,intT174,intT188,intT190,intT2,intT205,intT21,intT3,intT5,intT9,kdT116,kdT122,kdT4,kdT43,kdT51,kdT74,kdT76,kdT80,kdT9,slT102,slT117,slT142,slT159,slT200,slT217,slT218,slT223,slT226,slT23,slT233,slT234,slT24,slT25,slT3,slT46,slT55,slT9,slT99,smT106,smT3,smT43,smT5,smT71,smT74,smT76,smT80,smT9,stT106,stT214,stT217,stT225,stT226,stT232,stT233,stT234,stT27,stT43,stT48,stT51,stT69,stT71,stT74,stT76,stT80,strT102,strT117,strT142,strT159,strT200,strT218,strT23,strT24,strT25,strT3,strT46,strT55,strT9,strT99,szT106,szT116,szT117,szT122,szT190,szT205,szT214,szT217,szT225,szT226,szT23,szT232,szT233,szT234,szT24,szT25,szT27,szT28,szT3,szT4,szT43,szT46,szT48,szT5,szT51,szT69,szT71,szT74,szT76,szT80,szT9,szT96,szT99,zeT106,zeT119,zeT200,zeT205,zeT214,zeT217,zeT225,zeT226,zeT232,zeT233,zeT27,zeT28,zeT3,zeT43,zeT48,zeT5,zeT51,zeT69,zeT71,zeT74,zeT76,zeT80,zeT9,zeT96]<;>exact rfl)|fail):a=b:=h
theorem tv_{α:Type}{a b:α}(h:a=b:=by first|(simp (disch:=omega) only [↓ev_move,↓ev_assign,↓ev_pick,↓ev_alloc,↓ev_box,↓ev_load,↓ev_store,↓ev_binOp,↓ev_unOp,↓ev_extract,↓ev_fieldAddr,↓ev_field,↓ev_indexAddr,↓ev_index,↓ev_makeFunc,↓ev_build,↓ev_makeSlice,↓ev_buildSlice,↓ev_convert,↓ev_len,↓ev_max,↓ev_min,↓ev_append,↓ev_slice,maxLen_eq,b_aeq,b_ane,planEq,leafEq,←Bool.decide_and,b_add,b_sub,b_mul,b_quo,b_rem,b_and,b_or,b_xor,b_eql,b_neq,b_lss,b_leq,b_gtr,b_geq,b_sadd,b_seql,b_sneq,u_not,u_neg,okO_some,okR_eq,↓evO_tmp,↓evO_const,↓evO_func,↓evO_glb,gval,ofC_int,ofC_bool,ofC_nilsl,ofC_nilptr,ofC_nilfn,ofC_nilmap,ofC_nilif,ofC_str,tput_some,tput_none,i64w,u64w,Int.one_mul,Int.tdiv_eq_ediv_of_nonneg,ne_eq,not_false_eq_true,not_true_eq_false,Int.reduceEq,↓tg_c,tg_n,↓reduceIte,Nat.reduceEqDiff,true_and,and_true,evMax,evMin,reduceCtorEq,Nat.succ_ne_zero,Nat.zero_ne_one,Nat.one_ne_zero,Bool.not_true,Bool.not_false,argT,Nat.reduceAdd,pickT,List.map_cons,List.map_nil,Nat.reduceMul,Nat.reduceSub,Nat.reduceLT,Nat.reduceLeDiff,Nat.lt_irrefl,Int.reduceToNat,Int.reduceLT,Int.reduceLE,Int.reduceNeg,Int.reduceAdd,Int.reduceMul,Int.toNat_zero,Int.toNat_one,decide_true,decide_false,and_self,List.length_cons,List.length_nil,List.getElem?_cons_zero,List.getElem?_cons_succ,List.drop_zero,List.drop_succ_cons,List.take_zero,List.take_succ_cons,List.take_nil,List.drop_nil,List.cons_append,List.nil_append,List.set_cons_zero,List.set_cons_succ,List.all_cons,List.all_nil,Bool.and_true,Bool.and_self,Option.map_some,List.flatten_cons,List.flatten_nil,↓mg,↓ms,↓mg0,↓ms0,ma,ma2,ml,V.one,cellsV,partV,evLoad,evStore,ldB,wrB,evStrIdx,↓ev_nilCheck,evFA,evF,evIA,evI,evBuild,fillV,setAt,evSlice,evStrSlice,bound,chunks,evLen,evAppend,elsV,beq_self_eq_true,Nat.reduceBEq,evMake,evBuildSl,repL,List.replicate_succ,List.replicate_zero,List.range_succ,List.range_zero,Option.map_none,Int.toNat_natCast,Nat.zero_add,Nat.add_zero,Nat.zero_mul,Nat.one_mul,Int.le_refl,Nat.le_refl]<;>exact rfl)|fail):a=b:=h
theorem mixed:Tryz.prog.follows .mixedOrders=true:=by kernel_rfl
section
variable {P:Program} {N:Nat} {t:List (Nat×V)} {m:Mem} {Q:List (Nat×V)→Mem→Prop} {ops:Array Oper} {rest:List Oper} {d:Nat} {k:Option Nat} {op:Op} {ty:TypeId} {pos:String} {af:Array Edge} {g:FuncId} {ts:Array TypeId} {l:List Operand} {vs:List V} {v:V} {m':Mem} {p:Prop} {kd:Nat→Kd} {is:List El} {LL:Lim} {i j e:Nat} {want:Bool}
def OpG(P:Program)(N:Nat)(ops:Array Oper)(rest:List Oper)(t:List (Nat×V))(m:Mem)(Q:List (Nat×V)→Mem→Prop)(k:Option Nat)(op:Op)(ty:TypeId)(pos:String)(af:Array Edge):Prop:=WOs P N ops (⟨k,op,ty,pos,af,none⟩::rest) t m Q
def ArgG(P:Program)(N:Nat)(ops:Array Oper)(rest:List Oper)(t:List (Nat×V))(m:Mem)(Q:List (Nat×V)→Mem→Prop)(d:Nat)(fs cs:List V)(g:FuncId)(vs:List V):Prop:=∀ (f:Operand) (l:List Operand) (ts:Array TypeId) (ty:TypeId) (pos:String) (af:Array Edge),dOk N (some d)→evO t f= .clo (.func g) fs cs→fs++l.toArray.toList.map (evO t)++cs=vs→WOs P N ops (⟨some d,.call ⟨.value f,l.toArray,ts⟩,ty,pos,af,none⟩::rest) t m Q
def GuardG(P:Program)(N:Nat)(ops:Array Oper)(rest:List Oper)(t:List (Nat×V))(m:Mem)(Q:List (Nat×V)→Mem→Prop)(k:Option Nat)(op:Op)(ty:TypeId)(pos:String)(af:Array Edge)(j:Nat)(want:Bool):Prop:=WOs P N ops (⟨k,op,ty,pos,af,some (j,want)⟩::rest) t m Q
def DG(P:Program)(N:Nat)(ops:Array Oper)(kd:Nat→Kd)(LL:Lim)(i:Nat)(is:List El)(t:List (Nat×V))(m:Mem)(Q:List (Nat×V)→Mem→Prop):Prop:=WDs P N ops kd LL (.one i::is) t m Q
def DArgG(P:Program)(N:Nat)(ops:Array Oper)(kd:Nat→Kd)(LL:Lim)(i:Nat)(is:List El)(t:List (Nat×V))(m:Mem)(Q:List (Nat×V)→Mem→Prop)(d:Nat)(g:FuncId)(vs:List V):Prop:=∀ (l:List Operand) (ts:Array TypeId) (ty:TypeId) (pos:String) (af:Array Edge),dOk N (some d)→ops[i]?=some ⟨some d,.call ⟨.value (.func g),l.toArray,ts⟩,ty,pos,af,none⟩→l.map (evO t)=vs→WDs P N ops kd LL (.one i::is) t m Q
def CondG(P:Program)(N:Nat)(c:Operand)(x y:Code)(t:List (Nat×V))(m:Mem)(Q:Exit→List (Nat×V)→Mem→Prop):Prop:=WA P N (.cond c x y) t m Q
theorem g_op(h:OpG P N ops rest t m Q k op ty pos af):WOs P N ops (⟨k,op,ty,pos,af,none⟩::rest) t m Q:=h
theorem g_gd(h:GuardG P N ops rest t m Q k op ty pos af j want):WOs P N ops (⟨k,op,ty,pos,af,some (j,want)⟩::rest) t m Q:=h
theorem g_d(h:DG P N ops kd LL i is t m Q):WDs P N ops kd LL (.one i::is) t m Q:=h
theorem op_of(hd:dOk N k)(hev:evA P t m op=some (p,v,m'))(hp:p)(h:WOs P N ops rest (tput t k v) m' Q):WOs P N ops (⟨k,op,ty,pos,af,none⟩::rest) t m Q:=
  WOs_op hd fun K hK=>by rw [hev];exact⟨hp,hK _ _ h⟩
theorem s_op(h:WOs P N ops rest (tput t k v) m' Q)(hd:dOkB N k=true:=by first|exact rfl|fail)(hev:evA P t m op=some (p,v,m'):=by first|exact ev_|fail)(hp:p:=by first|exact trivial|assumption|omega):
    OpG P N ops rest t m Q k op ty pos af:=op_of (dOk_b hd) hev hp h
theorem s_mv{x:Operand}(h:WOs P N ops rest (tput t k v) m Q)(hd:dOkB N k=true:=by first|exact rfl|fail)(hv:evO t x=v:=by first|exact lk_|fail):OpG P N ops rest t m Q k (.move x) ty pos af:=op_of (dOk_b hd) (by rw [ev_move,hv]) trivial h
theorem s_as{x:Operand}(h:WOs P N ops rest (tput t k v) m Q)(hd:dOkB N k=true:=by first|exact rfl|fail)(hv:evO t x=v:=by first|exact lk_|fail):OpG P N ops rest t m Q k (.assign x) ty pos af:=op_of (dOk_b hd) (by rw [ev_assign,hv]) trivial h
theorem s_bin{o:BinOp}{T T':TypeId}{x y:Operand}{vx vy:V}(h:WOs P N ops rest (tput t k v) m Q)(hd:dOkB N k=true:=by first|exact rfl|fail)(hx:evO t x=vx:=by first|exact lk_|fail)(hy:evO t y=vy:=by first|exact lk_|fail)(hb:∀ m,evB P m o T vx vy=some (p,v,m):=by intro m;first|exact ev_|fail)(hp:p:=by first|exact trivial|assumption|omega):OpG P N ops rest t m Q k (.binOp o T x y T') ty pos af:=op_of (dOk_b hd) (by rw [ev_binOp,hx,hy,hb]) hp h
theorem s_un{o:UnOp}{T:TypeId}{x:Operand}{vx:V}(h:WOs P N ops rest (tput t k v) m Q)(hd:dOkB N k=true:=by first|exact rfl|fail)(hx:evO t x=vx:=by first|exact lk_|fail)(hb:evUn o vx=some v:=by first|exact ev_|fail):OpG P N ops rest t m Q k (.unOp o T x) ty pos af:=op_of (p:=True) (dOk_b hd) (by rw [ev_unOp,hx,hb];rfl) trivial h
theorem s_fa{T:TypeId}{x:Operand}{i:Nat}{vx:V}(h:WOs P N ops rest (tput t k v) m Q)(hd:dOkB N k=true:=by first|exact rfl|fail)(hx:evO t x=vx:=by first|exact lk_|fail)(hb:∀ m,evFA P m T i vx=some (p,v,m):=by intro m;first|exact ev_|fail)(hp:p:=by first|exact trivial|assumption|omega):OpG P N ops rest t m Q k (.fieldAddr T x i) ty pos af:=op_of (dOk_b hd) (by rw [ev_fieldAddr,hx,hb]) hp h
theorem s_fd{T:TypeId}{x:Operand}{i:Nat}{vx:V}(h:WOs P N ops rest (tput t k v) m Q)(hd:dOkB N k=true:=by first|exact rfl|fail)(hx:evO t x=vx:=by first|exact lk_|fail)(hb:∀ m,evF P m T i vx=some (p,v,m):=by intro m;first|exact ev_|fail)(hp:p:=by first|exact trivial|assumption|omega):OpG P N ops rest t m Q k (.field T x i) ty pos af:=op_of (dOk_b hd) (by rw [ev_field,hx,hb]) hp h
theorem s_ix{T:TypeId}{x y:Operand}{vx vy:V}(h:WOs P N ops rest (tput t k v) m Q)(hd:dOkB N k=true:=by first|exact rfl|fail)(hx:evO t x=vx:=by first|exact lk_|fail)(hy:evO t y=vy:=by first|exact lk_|fail)(hb:∀ m,evI P m T vx vy=some (p,v,m):=by intro m;first|exact ev_|fail)(hp:p:=by first|exact trivial|assumption|omega):OpG P N ops rest t m Q k (.index T x y) ty pos af:=op_of (dOk_b hd) (by rw [ev_index,hx,hy,hb]) hp h
theorem s_ia{T:TypeId}{x y:Operand}{vx vy:V}(h:WOs P N ops rest (tput t k v) m' Q)(hd:dOkB N k=true:=by first|exact rfl|fail)(hx:evO t x=vx:=by first|exact lk_|fail)(hy:evO t y=vy:=by first|exact lk_|fail)(hb:evIA P m T vx vy=some (p,v,m'):=by first|exact ev_|fail)(hp:p:=by first|exact trivial|assumption|omega):OpG P N ops rest t m Q k (.indexAddr T x y) ty pos af:=op_of (dOk_b hd) (by rw [ev_indexAddr,hx,hy,hb]) hp h
theorem s_ld{T:TypeId}{x:Operand}{vx:V}(h:WOs P N ops rest (tput t k v) m' Q)(hd:dOkB N k=true:=by first|exact rfl|fail)(hx:evO t x=vx:=by first|exact lk_|fail)(hb:evLoad P m T vx=some (p,v,m'):=by first|exact ev_|fail)(hp:p:=by first|exact trivial|assumption|omega):OpG P N ops rest t m Q k (.load T x) ty pos af:=op_of (dOk_b hd) (by rw [ev_load,hx,hb]) hp h
theorem s_tp(h:WOs P N ops rest ((d,v)::t) m Q):WOs P N ops rest (tput t (some d) v) m Q:=h
theorem s_tn(h:WOs P N ops rest t m Q):WOs P N ops rest (tput t none v) m Q:=h
theorem s_yes(h:WOs P N ops (⟨k,op,ty,pos,af,none⟩::rest) t m Q)(hj:(ops[j]?).bind (·.dst)=some e:=by first|exact rfl|fail)(ht:tget t e= .bool want:=by first|exact lk_|fail):GuardG P N ops rest t m Q k op ty pos af j want:=WOs_yes hj ht h
theorem s_no(h:WOs P N ops rest (tput t k (.tup [])) m Q)(hj:(ops[j]?).bind (·.dst)=some e:=by first|exact rfl|fail)(hd:dOkB N k=true:=by first|exact rfl|fail)(ht:tget t e= .bool (!want):=by first|exact lk_|fail):GuardG P N ops rest t m Q k op ty pos af j want:=WOs_no' hj (dOk_b hd) ht h
theorem s_noU(h:WOs P N ops rest (tput t k (.tup [])) m Q)(hj:(ops[j]?).bind (·.dst)=some e:=by first|exact rfl|fail)(hd:dOkB N k=true:=by first|exact rfl|fail)(ht:tget t e= .tup []:=by first|exact lk_|fail):GuardG P N ops rest t m Q k op ty pos af j want:=WOs_noU hj (dOk_b hd) ht h
theorem fn_args'{t:List (Nat×V)}{l:List Operand}{vs:List V}(h:l.map (evO t)=vs):([]:List V)++l.toArray.toList.map (evO t)++[]=vs:=by simpa using h
def CallG(P:Program)(N:Nat)(ops:Array Oper)(rest:List Oper)(t:List (Nat×V))(m:Mem)(Q:List (Nat×V)→Mem→Prop)(d:Nat)(g:FuncId)(l:List Operand)(ts:Array TypeId)(ty:TypeId)(pos:String)(af:Array Edge):Prop:=WOs P N ops (⟨some d,.call ⟨.value (.func g),l.toArray,ts⟩,ty,pos,af,none⟩::rest) t m Q
theorem g_call(h:CallG P N ops rest t m Q d g l ts ty pos af):OpG P N ops rest t m Q (some d) (.call ⟨.value (.func g),l.toArray,ts⟩) ty pos af:=h
def DynG(P:Program)(N:Nat)(ops:Array Oper)(rest:List Oper)(t:List (Nat×V))(m:Mem)(Q:List (Nat×V)→Mem→Prop)(d:Nat)(f:Operand)(l:List Operand)(ts:Array TypeId)(ty:TypeId)(pos:String)(af:Array Edge):Prop:=WOs P N ops (⟨some d,.call ⟨.value f,l.toArray,ts⟩,ty,pos,af,none⟩::rest) t m Q
theorem g_dyn{f:Operand}(h:DynG P N ops rest t m Q d f l ts ty pos af):OpG P N ops rest t m Q (some d) (.call ⟨.value f,l.toArray,ts⟩) ty pos af:=h
theorem g_args(h:ArgG P N ops rest t m Q d [] [] g vs)(hd:dOkB N (some d)=true:=by first|exact rfl|fail)(ha:l.map (evO t)=vs:=by first|exact lk_|fail):CallG P N ops rest t m Q d g l ts ty pos af:=h _ _ _ _ _ _ (dOk_b hd) rfl (fn_args' ha)
theorem g_dargs{f:Operand}{fs cs:List V}(h:ArgG P N ops rest t m Q d fs cs g vs)(hd:dOkB N (some d)=true:=by first|exact rfl|fail)(hf:evO t f= .clo (.func g) fs cs:=by first|exact ev_|fail)(ha:fs++l.map (evO t)++cs=vs:=by first|exact ev_|fail):DynG P N ops rest t m Q d f l ts ty pos af:=h _ _ _ _ _ _ (dOk_b hd) hf (by simpa using ha)
theorem s_fn{fs cs:List V}(hc:Gives P g vs m v)(h:WOs P N ops rest ((d,v)::t) m Q):ArgG P N ops rest t m Q d fs cs g vs:=fun _ _ _ _ _ _ hd hf ha=>WOs_gives hd hf ha hc h
theorem s_fnA{fs cs:List V}{R:V→Option Mem→Prop}(hc:CallA P g vs m R)(h:∀ v mo,R v mo→WOs P N ops rest ((d,v)::t) (mo.getD m) Q):ArgG P N ops rest t m Q d fs cs g vs:=fun _ _ _ _ _ _ hd hf ha=>WOs_call hd hf ha hc h
theorem s_fz1{fs cs:List V}{B X:Mem}{n:Nat}{st:Sta}{ty sz:Nat}{es:List (List V)}{vs':List V}(j:Nat)(p:Nat)(hc:Gives P g vs' m' v)(h:WOs P N ops rest ((d,v)::t) m' Q)(hm:m=B++X:=by first|exact rfl|fail)(hX:X[j]?=some (.cells st ty sz es):=by first|exact rfl|fail)(hp:vs[p]?=some (.sl (B.length+j) n):=by first|exact rfl|fail)(hn:n≤es.length:=by first|exact Nat.le_refl _|(simp;omega))(hvs:vs.set p (.lst (es.take n))=vs':=by first|exact rfl|fail)(hm':B++X.set j (.cells .ro ty sz es)=m':=by first|exact rfl|fail):ArgG P N ops rest t m Q d fs cs g vs:=by
  subst hm;subst hvs;subst hm'
  refine s_fnA (CallA_fz1 hX hp hn hc) ?_
  rintro v mo ⟨mo0,⟨rfl,rfl⟩,rfl⟩
  exact h
theorem d_op(h:WDs P N ops kd LL is (tput t k v) m' Q)(hi:ops[i]?=some ⟨k,op,ty,pos,af,none⟩:=by first|exact rfl|fail)(hd:dOkB N k=true:=by first|exact rfl|fail)(hev:evA P t m op=some (p,v,m'):=by first|exact ev_|fail)(hp:p:=by first|exact trivial|assumption|omega)(hk:kOk P LL (kd i) t op m m' v:=by first|(simp [kOk,isPure,isFresh,isRd,isLd,V.det,detL];done)|exact⟨rfl,rfl,Or.inr (Or.inl ⟨rfl,Or.inr ⟨_,_,rfl,ev_⟩⟩)⟩|exact⟨rfl,rfl,Or.inr (Or.inl ⟨rfl,Or.inr ⟨_,_,rfl,ev2_⟩⟩)⟩|exact⟨rfl,rfl,Or.inr (Or.inr ⟨rfl,Or.inr ⟨_,ev_,trivial⟩⟩)⟩|exact Or.inr (Or.inl ⟨_,_,_,_,_,_,_,_,_,rfl,lk_,lk_,rfl,rfl⟩)|exact Or.inr (Or.inr ⟨_,rfl,rfl⟩)|(refine Or.inr (Or.inl ⟨_,_,_,_,_,_,rfl,lk_,Or.inl ?_⟩);simp only [List.length_append,List.length_cons,List.length_nil];omega)|(exact Or.inr (Or.inl ⟨_,_,_,_,_,_,rfl,lk_,Or.inr ⟨_,ev_,rfl⟩⟩))|(refine Or.inr (Or.inr ⟨_,_,_,_,_,rfl,Or.inr ⟨lk_,Or.inl ?_⟩⟩);simp only [List.length_append,List.length_cons,List.length_nil];omega)|(exact Or.inr (Or.inr ⟨_,_,_,0,0,rfl,Or.inl lk_⟩))|(exact Or.inr (Or.inr ⟨_,_,_,_,_,rfl,Or.inr ⟨lk_,Or.inr ⟨_,ev_,rfl⟩⟩⟩))):DG P N ops kd LL i is t m Q:=
  WDs_op hi (dOk_b hd) fun K hK=>by rw [hev];exact⟨hp,hk,hK _ _ h⟩
theorem d_yes(h:WDs P N ops kd LL is (tput t k v) m' Q)(hi:ops[i]?=some ⟨k,op,ty,pos,af,some (j,want)⟩:=by first|exact rfl|fail)(hj:(ops[j]?).bind (·.dst)=some e:=by first|exact rfl|fail)(ht:tget t e= .bool want:=by first|exact lk_|fail)(hd:dOkB N k=true:=by first|exact rfl|fail)(hev:evA P t m op=some (p,v,m'):=by first|exact ev_|fail)(hp:p:=by first|exact trivial|assumption|omega)(hk:kOk P LL (kd i) t op m m' v:=by first|(simp [kOk,isPure,isFresh,isRd,isLd,V.det,detL];done)|exact⟨rfl,rfl,Or.inr (Or.inl ⟨rfl,Or.inr ⟨_,_,rfl,ev_⟩⟩)⟩|exact⟨rfl,rfl,Or.inr (Or.inl ⟨rfl,Or.inr ⟨_,_,rfl,ev2_⟩⟩)⟩|exact⟨rfl,rfl,Or.inr (Or.inr ⟨rfl,Or.inr ⟨_,ev_,trivial⟩⟩)⟩|exact Or.inr (Or.inl ⟨_,_,_,_,_,_,_,_,_,rfl,lk_,lk_,rfl,rfl⟩)|exact Or.inr (Or.inr ⟨_,rfl,rfl⟩)|(refine Or.inr (Or.inl ⟨_,_,_,_,_,_,rfl,lk_,Or.inl ?_⟩);simp only [List.length_append,List.length_cons,List.length_nil];omega)|(exact Or.inr (Or.inl ⟨_,_,_,_,_,_,rfl,lk_,Or.inr ⟨_,ev_,rfl⟩⟩))|(refine Or.inr (Or.inr ⟨_,_,_,_,_,rfl,Or.inr ⟨lk_,Or.inl ?_⟩⟩);simp only [List.length_append,List.length_cons,List.length_nil];omega)|(exact Or.inr (Or.inr ⟨_,_,_,0,0,rfl,Or.inl lk_⟩))|(exact Or.inr (Or.inr ⟨_,_,_,_,_,rfl,Or.inr ⟨lk_,Or.inr ⟨_,ev_,rfl⟩⟩⟩))):DG P N ops kd LL i is t m Q:=
  WDs_yes hi hj ht (dOk_b hd) fun K hK=>by rw [hev];exact⟨hp,hk,hK _ _ h⟩
theorem d_no(h:WDs P N ops kd LL is (tput t k (.tup [])) m Q)(hi:ops[i]?=some ⟨k,op,ty,pos,af,some (j,want)⟩:=by first|exact rfl|fail)(hj:(ops[j]?).bind (·.dst)=some e:=by first|exact rfl|fail)(hd:dOkB N k=true:=by first|exact rfl|fail)(ht:tget t e= .bool (!want):=by first|exact lk_|fail):DG P N ops kd LL i is t m Q:=WDs_no' hi hj (dOk_b hd) ht h
theorem d_noU(h:WDs P N ops kd LL is (tput t k (.tup [])) m Q)(hi:ops[i]?=some ⟨k,op,ty,pos,af,some (j,want)⟩:=by first|exact rfl|fail)(hj:(ops[j]?).bind (·.dst)=some e:=by first|exact rfl|fail)(hd:dOkB N k=true:=by first|exact rfl|fail)(ht:tget t e= .tup []:=by first|exact lk_|fail):DG P N ops kd LL i is t m Q:=WDs_noU hi hj (dOk_b hd) ht h
theorem d_args(h:DArgG P N ops kd LL i is t m Q d g vs)(hi:ops[i]?=some ⟨some d,.call ⟨.value (.func g),l.toArray,ts⟩,ty,pos,af,none⟩:=by first|exact rfl|fail)(hd:dOkB N (some d)=true:=by first|exact rfl|fail)(ha:l.map (evO t)=vs:=by first|exact lk_|fail):DG P N ops kd LL i is t m Q:=h _ _ _ _ _ (dOk_b hd) hi ha
theorem d_fn(hc:Gives P g vs m v)(h:WDs P N ops kd LL is ((d,v)::t) m Q)(hk:(kd i= .q∧v.det=true∧LL.ty=none)∨kd i= .a∨kd i= .w:=by first|exact .inl ⟨rfl,by simp [V.det,detL],rfl⟩|exact .inr (.inl rfl)|exact .inr (.inr rfl)|fail):DArgG P N ops kd LL i is t m Q d g vs:=fun _ _ _ _ _ hd hi ha=>WDs_fn hi hd ha hc hk h
def CallsTo(P:Program)(N:Nat)(ops:Array Oper)(kd:Nat→Kd)(LL:Lim)(cs:List Nat)(vs:List V)(t:List (Nat×V))(m:Mem)(t':List (Nat×V))(mf:Mem):Prop:=CallsOk P N ops kd LL cs vs t m mf∧callsT ops cs vs t=t'
theorem cl_nil:CallsTo P N ops kd LL [] [] t m t m:=⟨⟨rfl,rfl⟩,rfl⟩
theorem cl_step{c:Nat}{cs:List Nat}{vs':List V}{t':List (Nat×V)}{m1 mf:Mem}(h:CallsTo P N ops kd LL cs vs' ((d,v)::t) m1 t' mf)(ho:ops[c]?=some ⟨some d,op,ty,pos,af,none⟩)(hd:dOkB N (some d)=true)(hs:GStep P kd LL c op t m v m1):CallsTo P N ops kd LL (c::cs) (v::vs') t m t' mf:=by
  have hdst:dstOf ops c=some d:=by unfold dstOf;rw [ho];rfl
  obtain⟨h1,h2⟩:=h
  refine⟨⟨v,vs',m1,rfl,⟨_,ho,dOk_b hd,hs⟩,by rw [hdst];exact h1⟩,?_⟩
  simp only [callsT,hdst]
  exact h2
theorem cl_{c:Nat}{cs:List Nat}{f:Operand}{fs cc:List V}{vs':List V}{t':List (Nat×V)}{mf:Mem}(hc:∀ m',Gives P g vs m' v)(h:CallsTo P N ops kd LL cs vs' ((d,v)::t) m t' mf)(hk:kd c= .a)(ho:ops[c]?=some ⟨some d,.call ⟨.value f,l.toArray,ts⟩,ty,pos,af,none⟩)(hd:dOkB N (some d)=true)(hf:evO t f= .clo (.func g) fs cc)(ha:fs++l.map (evO t)++cc=vs):CallsTo P N ops kd LL (c::cs) (v::vs') t m t' mf:=by
  subst ha
  exact cl_step h ho hd (.inl ⟨hk,rfl,f,l.toArray,ts,g,fs,cc,rfl,hf,by simpa using hc⟩)
theorem clP{c:Nat}{cs:List Nat}{vs':List V}{t':List (Nat×V)}{mf:Mem}(h:CallsTo P N ops kd LL cs vs' ((d,v)::t) m t' mf)(hk:kd c= .a)(ho:ops[c]?=some ⟨some d,op,ty,pos,af,none⟩)(hd:dOkB N (some d)=true)(hpu:isPure op=true)(hev:∀ m,evA P t m op=some (p,v,m))(hp:p):CallsTo P N ops kd LL (c::cs) (v::vs') t m t' mf:=
  cl_step h ho hd (.inr (.inl ⟨hk,rfl,hpu,p,hp,hev⟩))
theorem clW{c:Nat}{cs:List Nat}{f:Operand}{fs cc:List V}{vs':List V}{t':List (Nat×V)}{mf:Mem}{b:Nat}{blk0 blk':Blk}(hc:CallW P g vs b blk0 blk' v)(hb:m[b]?=some blk0)(hm:mayW LL b)(h0:blk0.own=true)(h:CallsTo P N ops kd LL cs vs' ((d,v)::t) (m.set b blk') t' mf)(hk:kd c= .f)(ho:ops[c]?=some ⟨some d,.call ⟨.value f,l.toArray,ts⟩,ty,pos,af,none⟩)(hd:dOkB N (some d)=true)(hf:evO t f= .clo (.func g) fs cc)(ha:fs++l.map (evO t)++cc=vs):CallsTo P N ops kd LL (c::cs) (v::vs') t m t' mf:=by
  subst ha
  exact cl_step h ho hd (.inr (.inr ⟨hk,f,l.toArray,ts,g,fs,cc,b,blk0,blk',rfl,hf,hb,hm,h0,by simpa using hc,rfl⟩))
theorem mkP{n:Nat}{blk:Blk}(ho:ops[n]?=some ⟨k,op,ty,pos,af,none⟩:=by first|exact rfl|fail)(hd:dOkB N k=true:=by first|exact rfl|fail)(h1:isFresh op=true:=by first|exact rfl|fail)(h3:∀ m,evA P t m op=some (p,.ptr m.length 0 0,m++[blk]):=by intro m;first|exact ev_|fail)(hp:p:=by first|exact trivial|assumption|omega)(h2:blk.flat=true:=by first|exact rfl|simp [Blk.flat,plainL,V.plain]):MkOk P N ops t n (.ptr 0 0 0) blk:=
  ⟨_,p,ho,dOk_b hd,⟨h1,h2,.inr ⟨_,_,rfl⟩⟩,h3,hp⟩
theorem mkS{n q:Nat}{blk:Blk}(ho:ops[n]?=some ⟨k,op,ty,pos,af,none⟩:=by first|exact rfl|fail)(hd:dOkB N k=true:=by first|exact rfl|fail)(h1:isFresh op=true:=by first|exact rfl|fail)(h3:∀ m,evA P t m op=some (p,.sl m.length q,m++[blk]):=by intro m;first|exact ev_|fail)(hp:p:=by first|exact trivial|assumption|omega)(h2:blk.flat=true:=by first|exact rfl|simp [Blk.flat,plainL,V.plain]):MkOk P N ops t n (.sl 0 q) blk:=
  ⟨_,p,ho,dOk_b hd,⟨h1,h2,.inl ⟨_,rfl⟩⟩,h3,hp⟩
theorem d_g1{cs:List Nat}{n1 d1:Nat}{v1:TV}{b1:Blk}{t':List (Nat×V)}{mf:Mem}(hc:CallsTo P N ops kd LL cs vs t m t' mf)(h1:MkOk P N ops t n1 v1 b1)(hd1:dstOf ops n1=some d1)(h:WDs P N ops kd LL is ((d1,v1.inst fun _=>m.length+1)::t') ((mf++[.dead])++[b1]) Q):WDs P N ops kd LL (.grp true cs [n1]::is) t m Q:=by
  unfold WDs
  refine⟨vs,fun _=>v1,fun _=>b1,mf,hc.1,fun n hn=>?_,?_⟩
  · rw [List.mem_singleton.1 hn];exact h1
  · simp only [mksT,hd1,hc.2]
    exact h
theorem d_g2{cs:List Nat}{n1 d1 n2 d2:Nat}{v1 v2:TV}{b1 b2:Blk}{t':List (Nat×V)}{mf:Mem}(hc:CallsTo P N ops kd LL cs vs t m t' mf)(hne:(n2==n1)=false)(h1:MkOk P N ops t n1 v1 b1)(h2:MkOk P N ops t n2 v2 b2)(hd1:dstOf ops n1=some d1)(hd2:dstOf ops n2=some d2)(h:WDs P N ops kd LL is ((d2,v2.inst fun _=>m.length+3)::(d1,v1.inst fun _=>m.length+2)::t') ((mf++[.dead,.dead])++[b1,b2]) Q):WDs P N ops kd LL (.grp true cs [n1,n2]::is) t m Q:=by
  unfold WDs
  have e1:(if n1==n1 then v1 else v2)=v1:=by simp
  have e2:(if n2==n1 then v1 else v2)=v2:=by rw [hne];rfl
  have e3:(if n1==n1 then b1 else b2)=b1:=by simp
  have e4:(if n2==n1 then b1 else b2)=b2:=by rw [hne];rfl
  refine⟨vs,fun n=>if n==n1 then v1 else v2,fun n=>if n==n1 then b1 else b2,mf,hc.1,fun n hn=>?_,?_⟩
  · rcases List.mem_cons.1 hn with rfl|hn
    · simp only [e1,e3];exact h1
    · rw [List.mem_singleton.1 hn];simp only [e2,e4];exact h2
  · simp only [mksT,hd1,hd2,hc.2,e1,e2,List.map_cons,List.map_nil,e3,e4]
    exact h
theorem d_gP{cs:List Nat}{n1 d1 k1:Nat}{b1:Blk}{t':List (Nat×V)}{mf:Mem}(hc:CallsTo P N ops kd LL cs vs t m t' mf)(h1:MkOk P N ops t n1 (.ptr 0 0 0) b1)(h:WDs P N ops kd LL is ((d1,.ptr k1 0 0)::t') m' Q)(hd1:dstOf ops n1=some d1:=by first|exact rfl|fail)(hk1:m.length+1=k1:=by first|(simp only [ml,List.length_cons,List.length_nil,Nat.add_assoc,Nat.reduceAdd,Nat.zero_add]<;>with_reducible exact rfl)|fail)(hm:((mf++[.dead])++[b1])=m':=by first|exact ev_|fail):WDs P N ops kd LL (.grp true cs [n1]::is) t m Q:=d_g1 hc h1 hd1 (by rw [hm];subst hk1;exact h)
theorem d_gPP{cs:List Nat}{n1 d1 n2 d2 k1 k2:Nat}{b1 b2:Blk}{t':List (Nat×V)}{mf:Mem}(hc:CallsTo P N ops kd LL cs vs t m t' mf)(h1:MkOk P N ops t n1 (.ptr 0 0 0) b1)(h2:MkOk P N ops t n2 (.ptr 0 0 0) b2)(h:WDs P N ops kd LL is ((d2,.ptr k2 0 0)::(d1,.ptr k1 0 0)::t') m' Q)(hne:(n2==n1)=false:=by first|exact rfl|fail)(hd1:dstOf ops n1=some d1:=by first|exact rfl|fail)(hd2:dstOf ops n2=some d2:=by first|exact rfl|fail)(hk1:m.length+2=k1:=by first|(simp only [ml,List.length_cons,List.length_nil,Nat.add_assoc,Nat.reduceAdd,Nat.zero_add]<;>with_reducible exact rfl)|fail)(hk2:m.length+3=k2:=by first|(simp only [ml,List.length_cons,List.length_nil,Nat.add_assoc,Nat.reduceAdd,Nat.zero_add]<;>with_reducible exact rfl)|fail)(hm:((mf++[.dead,.dead])++[b1,b2])=m':=by first|exact ev_|fail):WDs P N ops kd LL (.grp true cs [n1,n2]::is) t m Q:=d_g2 hc hne h1 h2 hd1 hd2 (by rw [hm];subst hk1;subst hk2;exact h)
theorem d_gSS{cs:List Nat}{n1 d1 n2 d2 k1 k2 q1 q2:Nat}{b1 b2:Blk}{t':List (Nat×V)}{mf:Mem}(hc:CallsTo P N ops kd LL cs vs t m t' mf)(h1:MkOk P N ops t n1 (.sl 0 q1) b1)(h2:MkOk P N ops t n2 (.sl 0 q2) b2)(h:WDs P N ops kd LL is ((d2,.sl k2 q2)::(d1,.sl k1 q1)::t') m' Q)(hne:(n2==n1)=false:=by first|exact rfl|fail)(hd1:dstOf ops n1=some d1:=by first|exact rfl|fail)(hd2:dstOf ops n2=some d2:=by first|exact rfl|fail)(hk1:m.length+2=k1:=by first|(simp only [ml,List.length_cons,List.length_nil,Nat.add_assoc,Nat.reduceAdd,Nat.zero_add]<;>with_reducible exact rfl)|fail)(hk2:m.length+3=k2:=by first|(simp only [ml,List.length_cons,List.length_nil,Nat.add_assoc,Nat.reduceAdd,Nat.zero_add]<;>with_reducible exact rfl)|fail)(hm:((mf++[.dead,.dead])++[b1,b2])=m':=by first|exact ev_|fail):WDs P N ops kd LL (.grp true cs [n1,n2]::is) t m Q:=d_g2 hc hne h1 h2 hd1 hd2 (by rw [hm];subst hk1;subst hk2;exact h)
/-- a call that looks at no memory of this call's, in a region with calls that write -/
theorem d_fnQ(hc:∀ m,Gives P g vs m v)(h:WDs P N ops kd LL is ((d,v)::t) m Q)(hk:kd i= .q∧v.det=true:=by first|exact⟨rfl,by simp [V.det,detL]⟩|fail):DArgG P N ops kd LL i is t m Q d g vs:=fun _ _ _ _ _ hd hi ha=>WDs_givesQ hi hd rfl (fn_args' ha) hk hc h
/-- a call that writes one block -/
theorem d_fnW{b:Nat}{blk0 blk':Blk}(hc:CallW P g vs b blk0 blk' v)(h:WDs P N ops kd LL is ((d,v)::t) m' Q)(hb:m[b]?=some blk0:=by first|exact ev_|fail)(hm:mayW LL b:=by first|exact⟨_,ev_,rfl⟩|fail)(h0:blk0.own=true:=by first|exact rfl|fail)(hm':m.set b blk'=m':=by first|exact ev_|fail)(hk:kd i= .f:=by first|exact rfl|fail):DArgG P N ops kd LL i is t m Q d g vs:=fun _ _ _ _ _ hd hi ha=>WDs_callW hi hd rfl (fn_args' ha) hk hc hb hm h0 (by rw [hm'];exact h)
theorem s_fnW{fs cs:List V}{b:Nat}{blk0 blk':Blk}(hc:CallW P g vs b blk0 blk' v)(h:WOs P N ops rest ((d,v)::t) m' Q)(hb:m[b]?=some blk0:=by first|exact ev_|fail)(hm':m.set b blk'=m':=by first|exact ev_|fail):ArgG P N ops rest t m Q d fs cs g vs:=by
  refine s_fnA (hc m hb) ?_
  rintro v' mo ⟨rfl,rfl⟩
  simp only [Option.getD_some]
  rw [hm']
  exact h
theorem d_tp(h:WDs P N ops kd LL is ((d,v)::t) m Q):WDs P N ops kd LL is (tput t (some d) v) m Q:=h
theorem d_tn(h:WDs P N ops kd LL is t m Q):WDs P N ops kd LL is (tput t none v) m Q:=h
end
section
variable {N:Nat} {t:List (Nat×V)} {m:Mem} {c:Operand} {x y:Code} {Q:Exit→List (Nat×V)→Mem→Prop}
theorem g_c{P:Program}(h:CondG P N c x y t m Q):WA P N (.cond c x y) t m Q:=h
theorem c_T{P:Program}(h:WA P N x t m Q)(hc:evO t c= .bool true:=by first|exact lk_|fail):CondG P N c x y t m Q:=WA_condT hc h
theorem c_F{P:Program}(h:WA P N y t m Q)(hc:evO t c= .bool false:=by first|exact lk_|fail):CondG P N c x y t m Q:=WA_condF hc h
abbrev RgN(P:Program)(N:Nat)(l:List Oper)(t:List (Nat×V))(m:Mem)(Q:Exit→List (Nat×V)→Mem→Prop)(kd:Nat→Kd)(order:List El):Prop:=okMix l.toArray kd order=true∧WDs P N l.toArray kd ⟨m.length,none,[]⟩ order t m (fun t m=>Q .normal t m)
abbrev RgT(P:Program)(N:Nat)(l:List Oper)(t:List (Nat×V))(m:Mem)(Q:Exit→List (Nat×V)→Mem→Prop)(T:Nat)(kd:Nat→Kd)(order:List El):Prop:=okMix l.toArray kd order=true∧WDs P N l.toArray kd ⟨m.length,some T,m⟩ order t m (fun t m=>Q .normal t m)
theorem d_rgN{id:Nat}{l:List Oper}{kd:Nat→Kd}{order:List El}(h:RgN Tryz.prog N l t m Q kd order):WA Tryz.prog N (.region id l.toArray true) t m Q:=WA_draw mixed kd order h.1 h.2
theorem d_rgT{id:Nat}{l:List Oper}{T:Nat}{kd:Nat→Kd}{order:List El}(h:RgT Tryz.prog N l t m Q T kd order):WA Tryz.prog N (.region id l.toArray true) t m Q:=WA_drawL (some T) mixed kd order h.1 h.2
theorem r_esW{P:Program}{e:Exit}{v v':V}{m0 ext:Mem}{blk1 blk':Blk}{rs:List ResultVar}(hQ:∀ e t m',(e= .normal∨e= .ret)→∀ ext,resV P t m' rs=some v→m'=lend m0++(blk'::ext)→Q e t m')(h:v'=v)(hbk:blk1=blk')(he:e= .normal∨e= .ret:=by first|exact .inl rfl|exact .inr rfl|fail)(hr:resV P t m rs=some v':=by first|exact rv_|fail)(hm:m=lend m0++(blk1::ext):=by first|exact rfl|fail):Q e t m:=hQ e t m he ext (h ▸ hr) (hbk ▸ hm)
theorem r_es{P:Program}{e:Exit}{v v':V}{rs:List ResultVar}(hQ:∀ e t m',(e= .normal∨e= .ret)→resV P t m' rs=some v→Q e t m')(h:v'=v)(he:e= .normal∨e= .ret:=by first|exact .inl rfl|exact .inr rfl|fail)(hr:resV P t m rs=some v':=by first|exact rv_|fail):Q e t m:=hQ e t m he (h ▸ hr)
theorem r_esA{P:Program}{e:Exit}{m0:Mem}{R:V→Option Mem→Prop}{v':V}{rs:List ResultVar}(hQ:∀ e t m',(e= .normal∨e= .ret)→∀ v,resV P t m' rs=some v→Fin m0 R v m'→Q e t m')(h:Fin m0 R v' m)(he:e= .normal∨e= .ret:=by first|exact .inl rfl|exact .inr rfl|fail)(hr:resV P t m rs=some v':=by first|exact rv_|fail):Q e t m:=hQ e t m he v' hr h
theorem nextL_{σ:Type}{ks:List Nat}{st:σ→List V}{L:Mem}{E:σ→Mem}{inv:σ→Prop}{lt:σ→Prop}{K:List (Nat×V)→Mem→Prop}(hL:∀ s' t' m' ext,ks.map (tget t')=st s'→m'=lend L++(E s'++ext)→inv s'→lt s'→K t' m')(s':σ)(hi:inv s')(hl:lt s'){ext:Mem}(ht:ks.map (tget t)=st s':=by first|exact tv_|fail)(hm:m=lend L++(E s'++ext):=by first|exact rfl|fail):K t m:=hL s' t m ext ht hm hi hl
theorem next_{σ:Type}{ks:List Nat}{st:σ→List V}{me:σ→Mem}{inv:σ→Prop}{lt:σ→Prop}{K:List (Nat×V)→Mem→Prop}(hL:∀ s' t' m',ks.map (tget t')=st s'→m'=me s'→inv s'→lt s'→K t' m')(s':σ)(hi:inv s')(hl:lt s')(ht:ks.map (tget t)=st s':=by first|exact tv_|fail)(hm:m=me s':=by first|exact rfl|fail):K t m:=hL s' t m ht hm hi hl
end
end Go.Proofs.YtomkbpoicjabfaaGreatDoor
namespace Go.Proofs.YtomkbpoicjabfaaGreatDoor
open Go.RowKit
/- a call behind a guard that holds, in a region that draws its order -/
section
variable {P:Program} {N:Nat} {ops:Array Oper} {kd:Nat→Kd} {LL:Lim} {i d j e:Nat} {is:List El} {t:List (Nat×V)} {m:Mem} {Q:List (Nat×V)→Mem→Prop} {g:FuncId} {vs:List V} {v:V} {l:List Operand} {ts:Array TypeId} {ty:TypeId} {pos:String} {af:Array Edge} {want:Bool}
theorem WDs_fnY(hi:ops[i]?=some ⟨some d,.call ⟨.value (.func g),l.toArray,ts⟩,ty,pos,af,some (j,want)⟩)(hj:(ops[j]?).bind (·.dst)=some e)(ht:tget t e= .bool want)(hd:dOk N (some d))(ha:l.map (evO t)=vs)(hc:Gives P g vs m v)
    (hk:(kd i= .q∧v.det=true∧LL.ty=none)∨kd i= .a∨kd i= .w) (h:WDs P N ops kd LL is ((d,v)::t) m Q):WDs P N ops kd LL (.one i::is) t m Q:=by
  have ha':[]++l.toArray.toList.map (evO t)++[]=vs:=fn_args l ha
  subst ha'
  unfold WDs
  simp only [hi,hj,ht]
  refine⟨fun _=>⟨hd,?_⟩,fun hn=>(hn trivial).elim⟩
  have hf:evO t (.func g)= .clo (.func g) [] []:=rfl
  simp only [hf]
  rcases hk with ⟨e,hdet,hT⟩|e|e<;>rw [e]
  · refine⟨v,hdet,?_,h⟩
    rw [hT]
    have hc':Gives P g ([]++l.toArray.toList.map (evO t)++[]) m v:=by simpa using hc
    exact hc'
  · exact .inl (hc.mono fun v mo hr=>by obtain⟨rfl,rfl⟩:=hr;exact⟨rfl,h⟩)
  · exact hc.mono fun v mo hr=>by obtain⟨rfl,rfl⟩:=hr;exact h
theorem d_fnY(hc:Gives P g vs m v)(h:WDs P N ops kd LL is ((d,v)::t) m Q)(hi:ops[i]?=some ⟨some d,.call ⟨.value (.func g),l.toArray,ts⟩,ty,pos,af,some (j,want)⟩:=by first|exact rfl|fail)(hj:(ops[j]?).bind (·.dst)=some e:=by first|exact rfl|fail)(ht:tget t e= .bool want:=by first|exact lk_|fail)(hd:dOkB N (some d)=true:=by first|exact rfl|fail)(ha:l.map (evO t)=vs:=by first|exact lk_|fail)
    (hk:(kd i= .q∧v.det=true∧LL.ty=none)∨kd i= .a∨kd i= .w:=by first|exact .inl ⟨rfl,by simp [V.det,detL],rfl⟩|exact .inr (.inl rfl)|exact .inr (.inr rfl)|fail):DG P N ops kd LL i is t m Q:=WDs_fnY hi hj ht (dOk_b hd) ha hc hk h
end
end Go.Proofs.YtomkbpoicjabfaaGreatDoor
namespace Go.Proofs.YtomkbpoicjabfaaGreatDoor
open Go.RowKit

/-- a block as it is told in an invariant: what it names is counted from the first block of the invariant -/
inductive TB where
  |cells (st:Sta) (ty sz:Nat) (es:List (List TV))
  |obj (st:Sta) (vs:List TV) (φ:Nat→Obj→List Value→Prop)
def TB.inst(f:Nat→Nat):TB→Blk
  | .cells st ty sz es=> .cells st ty sz (es.map (List.map (TV.inst f)))
  | .obj st vs φ=> .obj st (vs.map (TV.inst f)) φ
theorem TB.bad_inst(T:TB)(f g:Nat→Nat):(T.inst f).bad=(T.inst g).bad:=by
  cases T with
  |cells st _ _ _=>cases st<;>rfl
  |obj st _ _=>cases st<;>rfl
theorem TB.own_inst(T:TB)(f g:Nat→Nat):(T.inst f).own=(T.inst g).own:=by
  cases T with
  |cells st _ _ _=>cases st<;>rfl
  |obj st _ _=>cases st<;>rfl
def TV.okT(k:Nat):TV→Bool
  | .v _=>true
  | .ptr i _ _=>decide (i<k)
  | .sl i _=>decide (i<k)
  | .mp i=>decide (i<k)
def TB.ok(k:Nat):TB→Bool
  | .cells _ _ _ es=>es.all (List.all · (TV.okT k))
  | .obj _ vs _=>vs.all (TV.okT k)
theorem tv_ren{w:World}{ρ ρ':List Re}{B B':Nat→Prop}{n n' k:Nat}{js:List Nat}(hB:∀ k,k<w.heap.size→B' k→B k)(hpre:∀ (b:Nat) r,ρ[b]?=some r→ρ'[b]?=some r)
    (hnew:∀ (i j:Nat) r,js[i]?=some j→ρ[n+j]?=some r→ρ'[n'+i]?=some r) (hl:js.length=k) {tv:TV} (hok:tv.okT k=true) {x:Value} (h:RelV w ρ B (tv.inst fun i=>n+js.getD i 0) x):
    RelV w ρ' B' (tv.inst fun i=>n'+i) x:=by
  have hjs:∀ q,q<k→js[q]?=some (js.getD q 0):=by
    intro q hq
    rw [List.getD_eq_getElem?_getD,List.getElem?_eq_getElem (by omega)];rfl
  cases tv with
  |v y=>exact h.mono (Nat.le_refl _) (fun _ _ _=>rfl) hB hpre
  | ptr q a o=>
    simp only [TV.inst,TV.okT,decide_eq_true_eq] at h hok ⊢
    cases h with|ptr _ _ _ r hr=>exact .ptr _ _ _ r (hnew q _ r (hjs q hok) hr)
  | sl q c=>
    simp only [TV.inst,TV.okT,decide_eq_true_eq] at h hok ⊢
    cases h with|sl _ _ r hr h1 h2=>exact .sl _ _ r (hnew q _ r (hjs q hok) hr) h1 h2
  | mp q=>
    simp only [TV.inst,TV.okT,decide_eq_true_eq] at h hok ⊢
    cases h with|mp _ r hr=>exact .mp _ r (hnew q _ r (hjs q hok) hr)

theorem renormT {w:World} {ρ:List Re} {B X E:Mem} {Ts:List TB} {js:List Nat} (hM:RelM w ρ (B++X)) (hl':js.length=Ts.length) (hn:js.Nodup)
    (hb':∀ (i j:Nat),js[i]?=some j→X[j]?=(Ts[i]?).map (TB.inst fun i=>B.length+js.getD i 0)) (hE':E=Ts.map (TB.inst fun i=>(B++deadB X).length+i)) (hf:Ts.all (TB.ok Ts.length)=true):
    ∃ ρ',RelM w ρ' ((B++deadB X)++E)∧After w ρ (B++X) w ρ' ((B++deadB X)++E)∧(∀ (i j:Nat) r,js[i]?=some j→ρ[B.length+j]?=some r→ρ'[(B++deadB X).length+i]?=some r):=by
  have hlen:=hM.len
  rw [List.length_append] at hlen
  have hl:js.length=E.length:=by rw [hE',List.length_map,hl']
  have hBX:(B++deadB X).length=ρ.length:=by simp [deadB,hlen]
  -- the new list of real blocks
  have hX:∀ (i j:Nat),js[i]?=some j→∃ T:TB,Ts[i]?=some T∧E[i]?=some (T.inst fun i=>(B++deadB X).length+i)∧X[j]?=some (T.inst fun i=>B.length+js.getD i 0):=by
    intro i j h
    have hi:i<Ts.length:=by rw [←hl'];exact(List.getElem?_eq_some_iff.1 h).1
    have h1:Ts[i]?=some Ts[i]:=List.getElem?_eq_getElem hi
    refine⟨_,h1,?_,?_⟩
    · rw [hE',List.getElem?_map,h1];rfl
    · rw [hb' i j h,h1];rfl
  have hr:∀ (i j:Nat),js[i]?=some j→∃ r,ρ[B.length+j]?=some r:=by
    intro i j h
    obtain⟨blk,_,_,h2⟩:=hX i j h
    have hj:j<X.length:=(List.getElem?_eq_some_iff.1 h2).1
    exact⟨_,List.getElem?_eq_getElem (by omega)⟩
  refine⟨ρ++js.map (fun j=>(ρ[B.length+j]?).getD ⟨0,0,0⟩),?_⟩
  have hnew:∀ (i j:Nat) r,js[i]?=some j→ρ[B.length+j]?=some r→(ρ++js.map (fun j=>(ρ[B.length+j]?).getD ⟨0,0,0⟩))[(B++deadB X).length+i]?=some r:=by
    intro i j r h1 h2
    rw [hBX,List.getElem?_append_right (by omega),Nat.add_sub_cancel_left,List.getElem?_map,h1]
    simp [h2]
  have hold:∀ (b:Nat) r,b<ρ.length→(ρ++js.map (fun j=>(ρ[B.length+j]?).getD ⟨0,0,0⟩))[b]?=some r→ρ[b]?=some r:=by
    intro b r h1 h2
    rwa [List.getElem?_append_left h1] at h2
  -- where a block of the new memory stood
  have key:∀ (b:Nat) blk r,((B++deadB X)++E)[b]?=some blk→blk≠ .dead→(ρ++js.map (fun j=>(ρ[B.length+j]?).getD ⟨0,0,0⟩))[b]?=some r→
      (b<B.length∧(B++X)[b]?=some blk∧ρ[b]?=some r)∨(∃ i j,b=(B++deadB X).length+i∧js[i]?=some j∧(∃ T:TB,Ts[i]?=some T∧blk=T.inst (fun i=>(B++deadB X).length+i)∧(B++X)[B.length+j]?=some (T.inst fun i=>B.length+js.getD i 0))∧ρ[B.length+j]?=some r):=by
    intro b blk r h1 h2 h3
    rcases Nat.lt_or_ge b (B++deadB X).length with q|q
    · rw [List.getElem?_append_left q] at h1
      rcases Nat.lt_or_ge b B.length with p|p
      · rw [List.getElem?_append_left p] at h1
        exact .inl ⟨p,pre_get h1,hold b r (by omega) h3⟩
      · rw [List.getElem?_append_right p] at h1
        simp only [deadB,List.getElem?_map,Option.map_eq_some_iff] at h1
        obtain⟨_,_,rfl⟩:=h1
        exact(h2 rfl).elim
    · rw [List.getElem?_append_right q] at h1
      have hi:b - (B++deadB X).length<js.length:=by rw [hl];exact(List.getElem?_eq_some_iff.1 h1).1
      have hj:js[b - (B++deadB X).length]?=some (js[b - (B++deadB X).length]):=List.getElem?_eq_getElem hi
      obtain⟨r',hr'⟩:=hr _ _ hj
      have:=hnew _ _ _ hj hr'
      rw [show(B++deadB X).length+(b - (B++deadB X).length)=b by omega,h3] at this
      cases this
      obtain⟨T,t1,t2,t3⟩:=hX _ _ hj
      rw [t2] at h1
      refine .inr ⟨_,_,by omega,hj,⟨T,t1,by cases h1;rfl,?_⟩,hr'⟩
      rw [List.getElem?_append_right (by omega),Nat.add_sub_cancel_left]
      exact t3
  have hhas:∀ {p:Blk→Bool} (_:∀ b,p b=true→b≠ .dead) (_:∀ (T:TB) f g,p (T.inst f)=p (T.inst g)) k,has p ((B++deadB X)++E) (ρ++js.map (fun j=>(ρ[B.length+j]?).getD ⟨0,0,0⟩)) k→has p (B++X) ρ k:=by
    intro p hp hp2 k h
    obtain⟨b,blk,r,h1,h2,h3,h4⟩:=h
    rcases key b blk r h1 (hp _ h2) h3 with ⟨_,q1,q2⟩|⟨i,j,_,_,⟨T,_,rfl,q1⟩,q2⟩
    · exact⟨b,blk,r,q1,h2,q2,h4⟩
    · exact⟨_,_,r,q1,(hp2 T _ _).trans h2,q2,h4⟩
  have hbd:∀ k,bad ((B++deadB X)++E) (ρ++js.map (fun j=>(ρ[B.length+j]?).getD ⟨0,0,0⟩)) k→bad (B++X) ρ k:=hhas (fun b h=>Blk.live_of_bad h) TB.bad_inst
  have hpre:∀ (b:Nat) r,ρ[b]?=some r→(ρ++js.map (fun j=>(ρ[B.length+j]?).getD ⟨0,0,0⟩))[b]?=some r:=fun b r h=>pre_get h
  have hmem:RelM w (ρ++js.map (fun j=>(ρ[B.length+j]?).getD ⟨0,0,0⟩)) ((B++deadB X)++E):=by
    refine⟨by rw [List.length_append,List.length_append,hBX,List.length_map,hl],?_,?_,?_,hM.glob.mono fun v x g3=>g3.mono (Nat.le_refl _) (fun _ _ _=>rfl) (fun k _ h=>hbd k h) hpre⟩
    · intro b st ty sz es h
      have hlt:b<(ρ++js.map (fun j=>(ρ[B.length+j]?).getD ⟨0,0,0⟩)).length:=by
        have:=(List.getElem?_eq_some_iff.1 h).1
        simp only [List.length_append,List.length_map] at this ⊢
        simp only [List.length_append] at hBX
        omega
      have hx:=List.getElem?_eq_getElem hlt
      rcases key b _ _ h (by simp) hx with ⟨_,q1,q2⟩|⟨i,j,_,aj,⟨T,q0,qT,q1⟩,q2⟩
      · obtain⟨r,cur,k1,k2,k3,k4,k5,k6,k7,k8,k9⟩:=hM.cells b st ty sz es q1
        rw [q2] at k1;cases k1
        refine⟨_,cur,hx,k2,k3,k4,k5,k6,k7,k8,fun i j e v e1 e2=>?_⟩
        obtain⟨g1,y,g2,g3⟩:=k9 i j e v e1 e2
        exact⟨g1,y,g2,g3.mono (Nat.le_refl _) (fun _ _ _=>rfl) (fun k _ h=>hbd k h) hpre⟩
      · obtain⟨st0,ty0,sz0,ts,rfl⟩:∃ st0 ty0 sz0 ts,T= .cells st0 ty0 sz0 ts:=by
          cases T with
          |cells a b c d=>exact⟨a,b,c,d,rfl⟩
          |obj _ _ _=>simp [TB.inst] at qT
        simp only [TB.inst,Blk.cells.injEq] at qT q1
        obtain⟨rfl,rfl,rfl,rfl⟩:=qT
        obtain⟨r,cur,k1,k2,k3,k4,k5,k6,k7,k8,k9⟩:=hM.cells _ _ _ _ _ q1
        rw [q2] at k1;cases k1
        refine⟨_,cur,hx,k2,k3,k4,k5,by simpa using k6,k7,fun e he=>?_,fun i' j' e v e1 e2=>?_⟩
        · obtain⟨e0,h0,rfl⟩:=List.mem_map.1 he
          have:=k8 _ (List.mem_map.2 ⟨e0,h0,rfl⟩)
          simpa using this
        · rw [List.getElem?_map,Option.map_eq_some_iff] at e1
          obtain⟨e0,e1,rfl⟩:=e1
          rw [List.getElem?_map,Option.map_eq_some_iff] at e2
          obtain⟨tv,e2,rfl⟩:=e2
          obtain⟨g1,y,g2,g3⟩:=k9 i' j' _ (tv.inst fun i=>B.length+js.getD i 0) (by rw [List.getElem?_map,e1];rfl) (by rw [List.getElem?_map,e2];rfl)
          refine⟨by cases tv<;>exact g1,y,g2,?_⟩
          have hok:=List.all_eq_true.1 (List.all_eq_true.1 (List.all_eq_true.1 hf _ (List.mem_of_getElem? q0)) _ (List.mem_of_getElem? e1)) _ (List.mem_of_getElem? e2)
          exact tv_ren (fun k _ h=>hbd k h) hpre (fun i j r h1 h2=>hnew i j r h1 h2) hl' hok g3
    · intro b b' blk blk' r r' h1 h2 h3 h4 h5 h6 h7
      rcases key b blk r h1 h2 h5 with ⟨a0,a1,a2⟩|⟨i,j,rfl,aj,⟨T,_,rfl,a1⟩,a2⟩<;>rcases key b' blk' r' h3 (Blk.live_of_bad h4) h6 with ⟨c0,c1,c2⟩|⟨i',j',rfl,cj,⟨T',_,rfl,c1⟩,c2⟩
      · exact hM.inj b b' blk blk' r r' a1 h2 c1 h4 a2 c2 h7
      · have:=hM.inj _ _ _ _ r r' a1 h2 c1 ((TB.bad_inst T' _ _).trans h4) a2 c2 h7;omega
      · have:=hM.inj _ _ _ _ r r' a1 (by cases T<;>simp [TB.inst]) c1 h4 a2 c2 h7;omega
      · have:=hM.inj _ _ _ _ r r' a1 (by cases T<;>simp [TB.inst]) c1 ((TB.bad_inst T' _ _).trans h4) a2 c2 h7
        have hjj:j=j':=by omega
        subst hjj
        have hi:i<js.length:=(List.getElem?_eq_some_iff.1 aj).1
        have:i=i':=(List.getElem?_inj hi hn).1 (aj.trans cj.symm)
        rw [this]
    · intro b st vs φ h
      have hlt:b<(ρ++js.map (fun j=>(ρ[B.length+j]?).getD ⟨0,0,0⟩)).length:=by
        have:=(List.getElem?_eq_some_iff.1 h).1
        simp only [List.length_append,List.length_map] at this ⊢
        simp only [List.length_append] at hBX
        omega
      have hx:=List.getElem?_eq_getElem hlt
      rcases key b _ _ h (by simp) hx with ⟨_,q1,q2⟩|⟨i,j,_,aj,⟨T,q0,qT,q1⟩,q2⟩
      · obtain⟨r,k1,k2⟩:=hM.objs b st vs φ q1
        rw [q2] at k1;cases k1
        exact⟨_,hx,k2.mono (fun _=>rfl) fun v x g3=>g3.mono (Nat.le_refl _) (fun _ _ _=>rfl) (fun k _ h=>hbd k h) hpre⟩
      · obtain⟨st0,ts,φ0,rfl⟩:∃ st0 ts φ0,T= .obj st0 ts φ0:=by
          cases T with
          |cells a b c d=>simp [TB.inst] at qT
          |obj a b c=>exact⟨a,b,c,rfl⟩
        simp only [TB.inst,Blk.obj.injEq] at qT q1
        obtain⟨rfl,rfl,rfl⟩:=qT
        obtain⟨r,k1,o,xs,k2,k3,k4,k5,k6⟩:=hM.objs _ _ _ _ q1
        rw [q2] at k1;cases k1
        refine⟨_,hx,o,xs,k2,k3,k4,by simpa using k5,fun i' v x e1 e2=>?_⟩
        rw [List.getElem?_map,Option.map_eq_some_iff] at e1
        obtain⟨tv,e1,rfl⟩:=e1
        have g3:=k6 i' (tv.inst fun i=>B.length+js.getD i 0) x (by rw [List.getElem?_map,e1];rfl) e2
        have hok:=List.all_eq_true.1 (List.all_eq_true.1 hf _ (List.mem_of_getElem? q0)) _ (List.mem_of_getElem? e1)
        exact tv_ren (fun k _ h=>hbd k h) hpre (fun i j r h1 h2=>hnew i j r h1 h2) hl' hok g3
  exact⟨hmem,⟨Keep.refl _ _,hpre,hmem,fun k _ h=>hhas (fun b h=>Blk.live_of_bad (Blk.bad_of_own h)) TB.own_inst k h,fun k _ h=>hbd k h⟩,hnew⟩

section
variable {P:Program} {N:Nat} {t:List (Nat×V)} {m:Mem}
/-- what is told where a round ends: the kept blocks stand at the places 'js' behind B -/
def RoundEndT(B:Mem)(ks:List Nat)(vs:List TV)(E:List TB)(js:List Nat)(t':List (Nat×V))(m':Mem):Prop:=
  ∃ X,m'=B++X∧ks.map (tget t')=vs.map (TV.inst fun i=>B.length+js.getD i 0)∧js.map (fun j=>X[j]?)=E.map (fun T=>some (T.inst fun i=>B.length+js.getD i 0))∧js.Nodup
theorem WA_whileT {c:Code} {Q:Exit→List (Nat×V)→Mem→Prop} {σ:Type} {L:Mem} (ks:List Nat) (st:σ→List TV) (E:σ→List TB) (inv:σ→Prop) (μ:σ→Nat) (s0:σ) (h0:inv s0) (ht:ks.map (tget t)=(st s0).map (TV.inst fun i=>L.length+i)) (hm:m=L++(E s0).map (TB.inst fun i=>L.length+i))
    (hks:ks.Nodup) (hst:∀ s,inv s→(st s).all (TV.okT (E s).length)=true) (hf:∀ s,inv s→(E s).all (TB.ok (E s).length)=true)
    (hr:∀ s,inv s→∀ B:Mem,(∃ D,B=L++D)→∀ K:List (Nat×V)→Mem→Prop,(∀ s' js t' m',RoundEndT B ks (st s') (E s') js t' m'→inv s'→μ s'<μ s→K t' m')→WA P N c (zipT ks ((st s).map (TV.inst fun i=>B.length+i))) (B++(E s).map (TB.inst fun i=>B.length+i)) (qThen K Q)):WA P N (.loop c) t m Q:=by
  refine WA_loop (fun n t m=>∃ s B,inv s∧n=μ s∧ks.map (tget t)=(st s).map (TV.inst fun i=>B.length+i)∧m=B++(E s).map (TB.inst fun i=>B.length+i)∧∃ D,B=L++D) (n:=μ s0) ⟨s0,L,h0,rfl,ht,hm,[],by simp⟩ ?_
  rintro n t m1 ⟨s,B,h1,rfl,h2,rfl,hB⟩
  refine WA_forget _ (zipT_get ks _ t h2) ?_
  have h:=hr s h1 B hB (fun t' m'=>∃ s' js,RoundEndT B ks (st s') (E s') js t' m'∧inv s'∧μ s'<μ s) (fun s' js t' m' e1 e2 e3=>⟨s',js,e1,e2,e3⟩)
  intro F hF z w ρ a hR
  refine wpIn_mono (h F hF z w ρ a hR) ?_
  rintro e a1 w1 ⟨t',m',ρ',hq,hR',af⟩
  cases e with
  | normal=>
    obtain⟨s',js,⟨X,rfl,e2,e3,e4⟩,e5,e6⟩:=hq
    have hl:js.length=(E s').length:=by simpa using congrArg List.length e3
    have hb:∀ (i j:Nat),js[i]?=some j→X[j]?=((E s')[i]?).map (TB.inst fun i=>B.length+js.getD i 0):=by
      intro i j h
      have hi:i<(E s').length:=by rw [←hl];exact(List.getElem?_eq_some_iff.1 h).1
      have:=congrArg (fun l=>l[i]?) e3
      simp only [List.getElem?_map,h,Option.map_some] at this
      rw [List.getElem?_eq_getElem hi] at this ⊢
      simpa using this
    obtain⟨ρ'',hM'',af'',hn''⟩:=renormT hR'.mem hl e4 hb rfl (hf s' e5)
    obtain⟨D,rfl⟩:=hB
    refine⟨zipT ks ((st s').map (TV.inst fun i=>((L++D)++deadB X).length+i)),((L++D)++deadB X)++(E s').map (TB.inst fun i=>((L++D)++deadB X).length+i),ρ'',⟨μ s',e6,s',(L++D)++deadB X,e5,rfl,?_,rfl,D++deadB X,by simp⟩,⟨hM'',fun i=>?_,hR'.size,hR'.defers.after af''⟩,af.trans af''⟩
    · exact zipT_map ks _ hks (by simpa using congrArg List.length e2)
    · rcases zipT_at ks ((st s').map (TV.inst fun i=>((L++D)++deadB X).length+i)) i with h|⟨p,p1,p2⟩
      · rw [h];exact .any _
      · rw [List.getElem?_map,Option.map_eq_some_iff] at p2
        obtain⟨tv,q1,q2⟩:=p2
        rw [←q2]
        have hv:tget t' i=TV.inst (fun i=>(L++D).length+js.getD i 0) tv:=by
          have:=congrArg (fun l=>l[p]?) e2
          simpa [List.getElem?_map,p1,q1] using this
        have hx:=hR'.tm i
        rw [hv] at hx
        have hok:=List.all_eq_true.1 (hst s' e5) tv (List.mem_of_getElem? q1)
        exact tv_ren (fun k hk h=>af''.bd k hk h) af''.pre hn'' hl hok hx
  |_=>exact⟨t',m',ρ',hq,hR',af⟩
end
section
variable {P:Program} {N:Nat} {t:List (Nat×V)} {m:Mem} {Q:List (Nat×V)→Mem→Prop} {ops:Array Oper} {d:Nat} {ty:TypeId} {pos:String} {af:Array Edge} {g:FuncId} {ts:Array TypeId} {l:List Operand} {vs:List V} {v:V} {m':Mem} {kd:Nat→Kd} {is:List El} {LL:Lim}
/-- the steps of a group, one after the other -/
def GrpC(P:Program)(N:Nat)(ops:Array Oper)(kd:Nat→Kd)(LL:Lim)(cs:List Nat)(t:List (Nat×V))(m:Mem)(R:List (Nat×V)→Mem→Prop):Prop:=∃ vs t' mf,CallsTo P N ops kd LL cs vs t m t' mf∧R t' mf
def GFin(P:Program)(N:Nat)(ops:Array Oper)(kd:Nat→Kd)(LL:Lim)(is:List El)(t:List (Nat×V))(m:Mem)(Q:List (Nat×V)→Mem→Prop):Prop:=WDs P N ops kd LL is t m Q
theorem g_fin(h:WDs P N ops kd LL is t m' Q)(hm:m=m':=by first|exact ev_|fail):GFin P N ops kd LL is t m Q:=by rw [hm];exact h
theorem grp_nil{R:List (Nat×V)→Mem→Prop}(h:R t m):GrpC P N ops kd LL [] t m R:=⟨[],t,m,cl_nil,h⟩
theorem grp_cons{c:Nat}{cs:List Nat}{f:Operand}{fs cc:List V}{R:List (Nat×V)→Mem→Prop}(hc:∀ m',Gives P g vs m' v)(h:GrpC P N ops kd LL cs ((d,v)::t) m R)(ho:ops[c]?=some ⟨some d,.call ⟨.value f,l.toArray,ts⟩,ty,pos,af,none⟩:=by first|exact rfl|fail)(hd:dOkB N (some d)=true:=by first|exact rfl|fail)(hf:evO t f= .clo (.func g) fs cc:=by first|exact lk_|fail)(ha:fs++l.map (evO t)++cc=vs:=by first|exact lk_|fail)(hk:kd c= .a:=by first|exact rfl|fail):GrpC P N ops kd LL (c::cs) t m R:=by
  obtain⟨vs',t',mf,h1,h2⟩:=h
  exact⟨_,t',mf,cl_ hc h1 hk ho hd hf ha,h2⟩
theorem grp_op{c:Nat}{cs:List Nat}{R:List (Nat×V)→Mem→Prop}{op:Op}{p:Prop}(h:GrpC P N ops kd LL cs ((d,v)::t) m R)(ho:ops[c]?=some ⟨some d,op,ty,pos,af,none⟩:=by first|exact rfl|fail)(hd:dOkB N (some d)=true:=by first|exact rfl|fail)(hpu:isPure op=true:=by first|exact rfl|fail)(hev:∀ m,evA P t m op=some (p,v,m):=by intro m;first|exact ev_|fail)(hp:p:=by first|exact trivial|assumption|omega)(hk:kd c= .a:=by first|exact rfl|fail):GrpC P N ops kd LL (c::cs) t m R:=by
  obtain⟨vs',t',mf,h1,h2⟩:=h
  exact⟨_,t',mf,clP h1 hk ho hd hpu hev hp,h2⟩
theorem grp_w{c:Nat}{cs:List Nat}{f:Operand}{fs cc:List V}{R:List (Nat×V)→Mem→Prop}{b:Nat}{blk0 blk':Blk}(hc:CallW P g vs b blk0 blk' v)(h:GrpC P N ops kd LL cs ((d,v)::t) m' R)(ho:ops[c]?=some ⟨some d,.call ⟨.value f,l.toArray,ts⟩,ty,pos,af,none⟩:=by first|exact rfl|fail)(hd:dOkB N (some d)=true:=by first|exact rfl|fail)(hf:evO t f= .clo (.func g) fs cc:=by first|exact lk_|fail)(ha:fs++l.map (evO t)++cc=vs:=by first|exact lk_|fail)(hb:m[b]?=some blk0:=by first|exact ev_|fail)(hm:mayW LL b:=by first|exact⟨_,ev_,rfl⟩|fail)(h0:blk0.own=true:=by first|exact rfl|fail)(hm':m.set b blk'=m':=by first|exact ev_|fail)(hk:kd c= .f:=by first|exact rfl|fail):GrpC P N ops kd LL (c::cs) t m R:=by
  obtain⟨vs',t',mf,h1,h2⟩:=h
  rw [←hm'] at h1
  exact⟨_,t',mf,clW hc hb hm h0 h1 hk ho hd hf ha,h2⟩
theorem d_gPc{cs:List Nat}{n1 d1 k1:Nat}{b1:Blk}(h1:MkOk P N ops t n1 (.ptr 0 0 0) b1)(h:GrpC P N ops kd LL cs t m fun t' mf=>GFin P N ops kd LL is ((d1,.ptr k1 0 0)::t') ((mf++[.dead])++[b1]) Q)(hd1:dstOf ops n1=some d1:=by first|exact rfl|fail)(hk1:m.length+1=k1:=by first|(simp only [ml,List.length_cons,List.length_nil,Nat.add_assoc,Nat.reduceAdd,Nat.zero_add]<;>with_reducible exact rfl)|fail):WDs P N ops kd LL (.grp true cs [n1]::is) t m Q:=by
  obtain⟨vs',t',mf,h2,h3⟩:=h
  exact d_gP h2 h1 h3 hd1 hk1 rfl
theorem d_gSc{cs:List Nat}{n1 d1 k1 q1:Nat}{b1:Blk}(h1:MkOk P N ops t n1 (.sl 0 q1) b1)(h:GrpC P N ops kd LL cs t m fun t' mf=>GFin P N ops kd LL is ((d1,.sl k1 q1)::t') ((mf++[.dead])++[b1]) Q)(hd1:dstOf ops n1=some d1:=by first|exact rfl|fail)(hk1:m.length+1=k1:=by first|(simp only [ml,List.length_cons,List.length_nil,Nat.add_assoc,Nat.reduceAdd,Nat.zero_add]<;>with_reducible exact rfl)|fail):WDs P N ops kd LL (.grp true cs [n1]::is) t m Q:=by
  obtain⟨vs',t',mf,h2,h3⟩:=h
  refine d_g1 h2 h1 hd1 ?_
  subst hk1
  exact h3
theorem d_gPPc{cs:List Nat}{n1 d1 n2 d2 k1 k2:Nat}{b1 b2:Blk}(h1:MkOk P N ops t n1 (.ptr 0 0 0) b1)(h2:MkOk P N ops t n2 (.ptr 0 0 0) b2)(h:GrpC P N ops kd LL cs t m fun t' mf=>GFin P N ops kd LL is ((d2,.ptr k2 0 0)::(d1,.ptr k1 0 0)::t') ((mf++[.dead,.dead])++[b1,b2]) Q)(hne:(n2==n1)=false:=by first|exact rfl|fail)(hd1:dstOf ops n1=some d1:=by first|exact rfl|fail)(hd2:dstOf ops n2=some d2:=by first|exact rfl|fail)(hk1:m.length+2=k1:=by first|(simp only [ml,List.length_cons,List.length_nil,Nat.add_assoc,Nat.reduceAdd,Nat.zero_add]<;>with_reducible exact rfl)|fail)(hk2:m.length+3=k2:=by first|(simp only [ml,List.length_cons,List.length_nil,Nat.add_assoc,Nat.reduceAdd,Nat.zero_add]<;>with_reducible exact rfl)|fail):WDs P N ops kd LL (.grp true cs [n1,n2]::is) t m Q:=by
  obtain⟨vs',t',mf,h3,h4⟩:=h
  exact d_gPP h3 h1 h2 h4 hne hd1 hd2 hk1 hk2 rfl
end
section
variable {P:Program} {m:Mem} {T:TypeId} {a b:Bool}
end
end Go.Proofs.YtomkbpoicjabfaaGreatDoor
namespace Go.Proofs.YtomkbpoicjabfaaGreatDoor
open Go.RowKit
section
variable {P:Program} {N:Nat} {z:Zr} {ops:Array Oper}
end
section
variable {P:Program} {N:Nat} {t:List (Nat×V)} {m:Mem} {Q:List (Nat×V)→Mem→Prop} {ops:Array Oper} {rest:List Oper} {d:Nat} {g:FuncId} {fs cs vs:List V}
/-- the whole of a slice of the call's own, handed to a function that reads it -/
theorem s_fzE{B X m':Mem}{n:Nat}{st:Sta}{ty sz:Nat}{es:List (List V)}{vs':List V}{v:V}(j:Nat)(p:Nat)(hc:Gives P g vs' m' v)(h:WOs P N ops rest ((d,v)::t) m' Q)(hn:es.length=n:=by first|assumption|fail)(hm:m=B++X:=by first|exact rfl|fail)(hX:X[j]?=some (.cells st ty sz es):=by first|exact rfl|fail)(hp:vs[p]?=some (.sl (B.length+j) n):=by first|exact rfl|fail)(hvs:vs.set p (.lst es)=vs':=by first|exact rfl|fail)(hm':B++X.set j (.cells .ro ty sz es)=m':=by first|exact rfl|fail):ArgG P N ops rest t m Q d fs cs g vs:=
  s_fz1 j p hc h hm hX hp (by omega) (by rw [←hn,List.take_length];exact hvs) hm'
end
section
variable {t:List (Nat×V)} {m:Mem}
theorem tv_map{f:Nat→Nat}{es:List (List V)}:(es.map (List.map TV.v)).map (List.map (TV.inst f))=es:=by
  rw [List.map_map]
  have:(List.map (TV.inst f) ∘ List.map TV.v)=(id:List V→List V):=by
    funext l
    simp only [Function.comp_apply,List.map_map,id_eq]
    exact(List.map_congr_left (fun _ _=>rfl)).trans (List.map_id l)
  rw [this,List.map_id]
theorem tv_ok{k:Nat}(es:List (List V)):(es.map (List.map TV.v)).all (List.all · (TV.okT k))=true:=by
  simp [List.all_eq_true,TV.okT]
theorem nextU_{σ:Type}{ks:List Nat}{st:σ→List TV}{B:Mem}{E:σ→List TB}{inv:σ→Prop}{lt:σ→Prop}{K:List (Nat×V)→Mem→Prop}(hL:∀ s' js t' m',RoundEndT B ks (st s') (E s') js t' m'→inv s'→lt s'→K t' m')(s':σ)(js:List Nat)(hi:inv s')(hl:lt s'){X:Mem}
    (hX:js.map (fun j=>X[j]?)=(E s').map (fun T=>some (T.inst fun i=>B.length+js.getD i 0))) (hm:m=B++X:=by first|exact rfl|fail)
    (ht:ks.map (tget t)=(st s').map (TV.inst fun i=>B.length+js.getD i 0):=by first|(simp (disch:=omega) only [↓ev_move,↓ev_assign,↓ev_pick,↓ev_alloc,↓ev_box,↓ev_load,↓ev_store,↓ev_binOp,↓ev_unOp,↓ev_extract,↓ev_fieldAddr,↓ev_field,↓ev_indexAddr,↓ev_index,↓ev_makeFunc,↓ev_build,↓ev_makeSlice,↓ev_buildSlice,↓ev_convert,↓ev_len,↓ev_max,↓ev_min,↓ev_append,↓ev_slice,maxLen_eq,b_aeq,b_ane,planEq,leafEq,←Bool.decide_and,b_add,b_sub,b_mul,b_quo,b_rem,b_and,b_or,b_xor,b_eql,b_neq,b_lss,b_leq,b_gtr,b_geq,b_sadd,b_seql,b_sneq,u_not,u_neg,okO_some,okR_eq,↓evO_tmp,↓evO_const,↓evO_func,↓evO_glb,gval,ofC_int,ofC_bool,ofC_nilsl,ofC_nilptr,ofC_nilfn,ofC_nilmap,ofC_nilif,ofC_str,tput_some,tput_none,i64w,u64w,Int.one_mul,Int.tdiv_eq_ediv_of_nonneg,ne_eq,not_false_eq_true,not_true_eq_false,Int.reduceEq,↓tg_c,tg_n,↓reduceIte,Nat.reduceEqDiff,true_and,and_true,evMax,evMin,reduceCtorEq,Nat.succ_ne_zero,Nat.zero_ne_one,Nat.one_ne_zero,Bool.not_true,Bool.not_false,argT,Nat.reduceAdd,pickT,List.map_cons,List.map_nil,Nat.reduceMul,Nat.reduceSub,Nat.reduceLT,Nat.reduceLeDiff,Nat.lt_irrefl,Int.reduceToNat,Int.reduceLT,Int.reduceLE,Int.reduceNeg,Int.reduceAdd,Int.reduceMul,Int.toNat_zero,Int.toNat_one,decide_true,decide_false,and_self,List.length_cons,List.length_nil,List.getElem?_cons_zero,List.getElem?_cons_succ,List.drop_zero,List.drop_succ_cons,List.take_zero,List.take_succ_cons,List.take_nil,List.drop_nil,List.cons_append,List.nil_append,List.set_cons_zero,List.set_cons_succ,List.all_cons,List.all_nil,Bool.and_true,Bool.and_self,Option.map_some,List.flatten_cons,List.flatten_nil,↓mg,↓ms,↓mg0,↓ms0,ma,ma2,ml,V.one,cellsV,partV,evLoad,evStore,ldB,wrB,evStrIdx,↓ev_nilCheck,evFA,evF,evIA,evI,evBuild,fillV,setAt,evSlice,evStrSlice,bound,chunks,evLen,evAppend,elsV,beq_self_eq_true,Nat.reduceBEq,evMake,evBuildSl,repL,List.replicate_succ,List.replicate_zero,List.range_succ,List.range_zero,Option.map_none,Int.toNat_natCast,Nat.zero_add,Nat.add_zero,Nat.zero_mul,Nat.one_mul,Int.le_refl,Nat.le_refl,TV.inst,List.getD_cons_zero,List.getD_cons_succ]<;>exact rfl)|fail) (hn:js.Nodup:=by decide):K t m:=hL s' js t m ⟨X,hm,ht,hX,hn⟩ hi hl
end
section
variable {P:Program} {N:Nat} {ops:Array Oper} {kd:Nat→Kd} {LL:Lim} {i d:Nat} {is:List El} {t:List (Nat×V)} {m:Mem} {Q:List (Nat×V)→Mem→Prop} {g:FuncId} {fs cs vs:List V} {v:V} {l:List Operand} {ts:Array TypeId} {ty:TypeId} {pos:String} {af:Array Edge} {f:Operand}
/-- a call of a function value, in a region that draws its order -/
theorem d_dyn(hc:Gives P g vs m v)(h:WDs P N ops kd LL is ((d,v)::t) m Q)(hi:ops[i]?=some ⟨some d,.call ⟨.value f,l.toArray,ts⟩,ty,pos,af,none⟩:=by first|exact rfl|fail)(hf:evO t f= .clo (.func g) fs cs:=by first|exact lk_|fail)(hd:dOkB N (some d)=true:=by first|exact rfl|fail)(ha:fs++l.map (evO t)++cs=vs:=by first|exact lk_|fail)(hk:(kd i= .q∧v.det=true∧LL.ty=none)∨kd i= .a∨kd i= .w:=by first|exact .inl ⟨rfl,by simp [V.det,detL],rfl⟩|exact .inr (.inl rfl)|exact .inr (.inr rfl)|fail):DG P N ops kd LL i is t m Q:=
  WDs_gives hi (dOk_b hd) hf (by simpa using ha) hk hc h
/-- .. behind a guard that holds -/
theorem WDs_dynY{j e:Nat}{want:Bool}(hi:ops[i]?=some ⟨some d,.call ⟨.value f,l.toArray,ts⟩,ty,pos,af,some (j,want)⟩)(hj:(ops[j]?).bind (·.dst)=some e)(ht:tget t e= .bool want)(hd:dOk N (some d))(hf:evO t f= .clo (.func g) fs cs)(ha:fs++l.map (evO t)++cs=vs)(hc:Gives P g vs m v)
    (hk:(kd i= .q∧v.det=true∧LL.ty=none)∨kd i= .a∨kd i= .w) (h:WDs P N ops kd LL is ((d,v)::t) m Q):WDs P N ops kd LL (.one i::is) t m Q:=by
  have ha':fs++l.toArray.toList.map (evO t)++cs=vs:=by simpa using ha
  subst ha'
  unfold WDs
  simp only [hi,hj,ht]
  refine⟨fun _=>⟨hd,?_⟩,fun hn=>(hn trivial).elim⟩
  simp only [hf]
  rcases hk with ⟨e,hdet,hT⟩|e|e<;>rw [e]
  · refine⟨v,hdet,?_,h⟩
    rw [hT]
    exact hc
  · exact .inl (hc.mono fun v mo hr=>by obtain⟨rfl,rfl⟩:=hr;exact⟨rfl,h⟩)
  · exact hc.mono fun v mo hr=>by obtain⟨rfl,rfl⟩:=hr;exact h
theorem d_dynY{j e:Nat}{want:Bool}(hc:Gives P g vs m v)(h:WDs P N ops kd LL is ((d,v)::t) m Q)(hi:ops[i]?=some ⟨some d,.call ⟨.value f,l.toArray,ts⟩,ty,pos,af,some (j,want)⟩:=by first|exact rfl|fail)(hj:(ops[j]?).bind (·.dst)=some e:=by first|exact rfl|fail)(ht:tget t e= .bool want:=by first|exact lk_|fail)(hf:evO t f= .clo (.func g) fs cs:=by first|exact lk_|fail)(hd:dOkB N (some d)=true:=by first|exact rfl|fail)(ha:fs++l.map (evO t)++cs=vs:=by first|exact lk_|fail)(hk:(kd i= .q∧v.det=true∧LL.ty=none)∨kd i= .a∨kd i= .w:=by first|exact .inl ⟨rfl,by simp [V.det,detL],rfl⟩|exact .inr (.inl rfl)|exact .inr (.inr rfl)|fail):DG P N ops kd LL i is t m Q:=
  WDs_dynY hi hj ht (dOk_b hd) hf ha hc hk h
end
end Go.Proofs.YtomkbpoicjabfaaGreatDoor
namespace Go.Proofs.YtomkbpoicjabfaaGreatDoor
open Go.RowKit

/-- a value that was told by the older blocks alone still is -/
theorem scope_rel{w w1:World}{ρ ρ1:List Re}{B B1 B':Nat→Prop}(hpre:∀ (b:Nat) r,ρ[b]?=some r→ρ1[b]?=some r)(hB:∀ k,k<w1.heap.size→B' k→B1 k){v:V}{x:Value}(h:RelV w ρ B v x):∀ {y:Value},RelV w1 ρ1 B1 v y→RelV w1 ρ B' v y:=by
  have arr:∀ {cs:List V} {xs ys:Array Value},cs.length=xs.size→(∀ (i:Nat) c x,cs[i]?=some c→xs[i]?=some x→∀ {y:Value},RelV w1 ρ1 B1 c y→RelV w1 ρ B' c y)→(∀ (i:Nat) c y,cs[i]?=some c→ys[i]?=some y→RelV w1 ρ1 B1 c y)→∀ (i:Nat) c y,cs[i]?=some c→ys[i]?=some y→RelV w1 ρ B' c y:=by
    intro cs xs ys hl ih h' i c y h1 h2
    have hi:i<xs.size:=by rw [←hl];exact(List.getElem?_eq_some_iff.1 h1).1
    exact ih i c xs[i] h1 (Array.getElem?_eq_getElem hi) (h' i c y h1 h2)
  have key:∀ {b:Nat} {r r1:Re},ρ[b]?=some r→ρ1[b]?=some r1→ρ[b]?=some r1:=by
    intro b r r1 h1 h2
    have:=hpre b r h1
    rw [h2] at this
    cases this
    exact h1
  induction h with
  |any x=>intro y _;exact .any y
  |int k n=>intro y h;cases h;exact .int k n
  |bool b=>intro y h;cases h;exact .bool b
  |str s b hs=>intro y h;cases h with|str _ b' h'=>exact .str s b' h'
  |nilptr=>intro y h;cases h;exact .nilptr
  |nilsl=>intro y h;cases h;exact .nilsl
  |nilmap=>intro y h;cases h;exact .nilmap
  |nilfn=>intro y h;cases h;exact .nilfn
  |nilif=>intro y h;cases h;exact .nilif
  |ifv t x=>intro y h;cases h with|ifv t' x'=>exact .ifv t' x'
  |anyi k n=>intro y h;cases h with|anyi _ n'=>exact .anyi k n'
  |tab xs b ty o hb hB0 h0=>intro y h;cases h with|tab _ b' ty' o' hb' hB'' h'=>exact .tab xs b' ty' o' hb' (fun h=>hB'' (hB b' hb' h)) h'
  | lnil a c hc ha=>
    intro y h
    cases h with
    |lnil a' c' hc' ha'=>exact .lnil a' c' hc' ha'
    |lst _ b off c s Y hb hB' hc hm hs hY hV hO=>exact .lst [] b off c s Y hb (fun h=>hB' (hB b hb h)) hc hm hs (fun i j e v h=>by simp at h) (fun i j e v h=>by simp at h) (fun i j e v h=>by simp at h)
  |agg cs xs hl _ ih=>intro y h;cases h with|agg _ ys hl' h'=>exact .agg cs ys hl' (arr hl ih h')
  |tup cs xs hl _ ih=>intro y h;cases h with|tup _ ys hl' h'=>exact .tup cs ys hl' (arr hl ih h')
  | lst es b off c s Y hb hB0 hc hm hs hY _ hO ih=>
    intro y h
    cases h with
    |lnil a' c' hc' ha'=>exact .lnil a' c' hc' ha'
    |lst _ b' off' c' s' Y' hb' hB'' hc' hm' hs' hY' hV' hO'=>exact .lst es b' off' c' s' Y' hb' (fun h=>hB'' (hB b' hb' h)) hc' hm' hs' hY' (fun i j e v h1 h2=>ih i j e v h1 h2 (hV' i j e v h1 h2)) hO'
  | bp cs o b off Y hb hB0 hY _ hO ih=>
    intro y h
    cases h with
    |bp _ _ b' off' Y' hb' hB'' hY' hV' hO'=>exact .bp cs o b' off' Y' hb' (fun h=>hB'' (hB b' hb' h)) hY' (fun j v h1=>ih j v h1 (hV' j v h1)) hO'
  |ptr b i o r hr=>intro y h;cases h with|ptr _ _ _ r1 hr1=>exact .ptr b i o r1 (key hr hr1)
  |sl b n r hr hn hm=>intro y h;cases h with|sl _ _ r1 hr1 hn1 hm1=>exact .sl b n r1 (key hr hr1) hn1 hm1
  |mp b r hr=>intro y h;cases h with|mp _ r1 hr1=>exact .mp b r1 (key hr hr1)
  |clo fn f1 c1 f2 c2 hf hc _ _ ih1 ih2=>intro y h;cases h with|clo _ _ _ f3 c3 hf3 hc3 h3 h4=>exact .clo fn f1 c1 f3 c3 hf3 hc3 (arr hf ih1 h3) (arr hc ih2 h4)

theorem After.drop2{w w1:World}{ρ ρ1:List Re}{m m2 ext:Mem}(hM:RelM w ρ m)(af:After w ρ m w1 ρ1 (m2++ext))(hlen:m2.length=m.length)
    (hb:∀ (b:Nat) blk,m2[b]?=some blk→blk.flat=true∨m[b]?=some blk):
    After w ρ m w1 ρ m2∧(∀ k,bad m2 ρ k→bad (m2++ext) ρ1 k)∧(∀ k,owned m2 ρ k→owned (m2++ext) ρ1 k):=by
  have hρ:∀ (b:Nat) blk r,m2[b]?=some blk→ρ1[b]?=some r→ρ[b]?=some r:=by
    intro b blk r h1 h2
    have hlt:b<ρ.length:=by rw [hM.len,←hlen];exact(List.getElem?_eq_some_iff.1 h1).1
    have h3:ρ[b]?=some ρ[b]:=List.getElem?_eq_getElem hlt
    have:=af.pre b _ h3
    rw [h2] at this
    cases this
    exact h3
  have hbad:∀ k,bad m2 ρ k→bad (m2++ext) ρ1 k:=by
    rintro k ⟨b,blk,r,h1,h2,h3,h4⟩
    exact⟨b,blk,r,pre_get h1,h2,af.pre b r h3,h4⟩
  have hown:∀ k,owned m2 ρ k→owned (m2++ext) ρ1 k:=by
    rintro k ⟨b,blk,r,h1,h2,h3,h4⟩
    exact⟨b,blk,r,pre_get h1,h2,af.pre b r h3,h4⟩
  refine⟨⟨af.keep,fun _ _ h=>h,⟨hM.len.trans hlen.symm,?_,?_,?_,hM.glob.mono fun v x h=>h.mono af.keep.size (fun k hk hn=>af.keep.block k hk (fun ho=>hn (bad_of_owned ho))) (fun k hk h=>af.bd k hk (hbad k h)) (fun _ _ h=>h)⟩,fun k hk ho=>af.own k hk (hown k ho),fun k hk ho=>af.bd k hk (hbad k ho)⟩,hbad,hown⟩
  · intro b st ty sz es h
    obtain⟨r,cur,k1,k2,k3,k4,k5,k6,k7,k8,k9⟩:=af.mem.cells b st ty sz es (pre_get h)
    have hr:=hρ b _ r h k1
    refine⟨r,cur,hr,k2,k3,k4,k5,k6,k7,k8,fun i j e v e1 e2=>?_⟩
    obtain⟨g1,y,g2,g3⟩:=k9 i j e v e1 e2
    refine⟨g1,y,g2,?_⟩
    rcases hb b _ h with hf|hm
    · simp only [Blk.flat,List.all_eq_true] at hf
      exact plain_rel (fun k _ h=>hbad k h) g3 (plainL_mem (hf e (List.mem_of_getElem? e1)) v (List.mem_of_getElem? e2))
    · obtain⟨r0,cur0,q1,q2,q3,q4,q5,q6,q7,q8,q9⟩:=hM.cells b st ty sz es hm
      obtain⟨_,y',_,g3'⟩:=q9 i j e v e1 e2
      exact scope_rel af.pre (fun k _ h=>hbad k h) g3' g3
  · intro b b' blk blk' r r' h1 h2 h3 h4 h5 h6 h7
    exact af.mem.inj b b' blk blk' r r' (pre_get h1) h2 (pre_get h3) h4 (af.pre b r h5) (af.pre b' r' h6) h7
  · intro b st vs φ h
    rcases hb b _ h with hf|hm
    · simp only [Blk.flat,List.isEmpty_iff] at hf
      subst hf
      obtain⟨r',q1,o',xs',q2,q3,q4,q5,_⟩:=af.mem.objs b st [] φ (pre_get h)
      exact⟨_,hρ b _ r' h q1,o',xs',q2,q3,q4,q5,fun i v x h1=>by simp at h1⟩
    · obtain⟨r,k1,o,xs,k2,k3,k4,k5,k6⟩:=hM.objs b st vs φ hm
      obtain⟨r',q1,o',xs',q2,q3,q4,q5,q6⟩:=af.mem.objs b st vs φ (pre_get h)
      have hr:=hρ b _ r' h q1
      rw [hr] at k1
      cases k1
      refine⟨_,hr,o',xs',q2,q3,q4,q5,fun i v x h1 h2=>?_⟩
      have hi:i<xs.length:=by rw [k5];exact(List.getElem?_eq_some_iff.1 h1).1
      exact scope_rel af.pre (fun k _ h=>hbad k h) (k6 i v xs[i] h1 (List.getElem?_eq_getElem hi)) (q6 i v x h1 h2)
/-- from one to the next: a block stays as it is, or holds plain cells alone -/
def conB:Mem→Mem→Prop
  |[],[]=>True
  |a::r,b::r'=>(b.flat=true∨b=a)∧conB r r'
  |_,_=>False
theorem conB_get:∀ {m m':Mem},conB m m'→∀ (b:Nat) blk,m'[b]?=some blk→blk.flat=true∨m[b]?=some blk
  |[],[],_,b,blk,h=>by simp at h
  | x::r,y::r',h,0,blk,h1=>by
    simp at h1
    subst h1
    rcases h.1 with q|q
    · exact .inl q
    · exact .inr (by simp [q])
  | x::r,y::r',h,b+1,blk,h1=>by
    simp only [List.getElem?_cons_succ] at h1 ⊢
    exact conB_get h.2 b blk h1
  |[],_::_,h,_,_,_=>h.elim
  |_::_,[],h,_,_,_=>h.elim
/-- from one to the next: a slot's value stays as it is, or names no block but the older ones -/
def conS(n:Nat):List V→List V→Prop
  |[],[]=>True
  |a::r,b::r'=>(b=a∨b.keeps n=true)∧conS n r r'
  |_,_=>False
theorem conS_get{n:Nat}:∀ {ks:List Nat} {l l':List V} {t t':List (Nat×V)},conS n l l'→ks.map (tget t)=l→ks.map (tget t')=l'→∀ k∈ks,tget t' k=tget t k∨(tget t' k).keeps n=true
  |[],_,_,_,_,_,_,_,k,hk=>by cases hk
  | a::ks,l,l',t,t',h,h1,h2,k,hk=>by
    subst h1;subst h2
    simp only [List.map_cons,conS] at h
    rcases List.mem_cons.1 hk with rfl|hk
    · exact h.1
    · exact conS_get h.2 rfl rfl k hk
section
variable {P:Program} {N:Nat} {t:List (Nat×V)} {m:Mem}
theorem WA_whileD2 {c:Code} {Q:Exit→List (Nat×V)→Mem→Prop} {σ:Type} (ks:List Nat) (st:σ→List V) (me:σ→Mem) (inv:σ→Prop) (μ:σ→Nat) (s0:σ) (h0:inv s0) (ht:ks.map (tget t)=st s0) (hm:m=me s0)
    (hlen:∀ s,(me s).length=m.length) (hst:∀ s s',inv s→inv s'→conS m.length (st s) (st s')) (hb:∀ s s' (b:Nat) blk,inv s→inv s'→(me s')[b]?=some blk→blk.flat=true∨(me s)[b]?=some blk)
    (hr:∀ s,inv s→∀ K:List (Nat×V)→Mem→Prop,(∀ s' t' m' ext,ks.map (tget t')=st s'→m'=me s'++ext→inv s'→μ s'<μ s→K t' m')→WA P N c (zipT ks (st s)) (me s) (qThen K Q)):WA P N (.loop c) t m Q:=by
  refine WA_loop (fun n t m=>∃ s,inv s∧n=μ s∧ks.map (tget t)=st s∧m=me s) (n:=μ s0) ⟨s0,h0,rfl,ht,hm⟩ ?_
  rintro n t m1 ⟨s,h1,rfl,h2,rfl⟩
  refine WA_forget _ (zipT_get ks _ t h2) ?_
  have h:=hr s h1 (fun t' m'=>∃ s' ext,inv s'∧μ s'<μ s∧ks.map (tget t')=st s'∧m'=me s'++ext) (fun s' t' m' ext e1 e2 e3 e4=>⟨s',ext,e3,e4,e1,e2⟩)
  intro F hF z w ρ a hR
  refine wpIn_mono (h F hF z w ρ a hR) ?_
  rintro e a1 w1 ⟨t',m',ρ',hq,hR',af⟩
  cases e with
  | normal=>
    obtain⟨s',ext,e3,e4,e1,rfl⟩:=hq
    obtain⟨af',hbad,hown⟩:=af.drop2 hR.mem ((hlen s').trans (hlen s).symm) (fun b blk=>hb s s' b blk h1 e3)
    have hz:ks.map (tget (zipT ks (st s)))=st s:=by
      have hz2:ks.map (tget (zipT ks (ks.map (tget t))))=ks.map (tget t):=by
        apply List.map_congr_left
        intro k hk
        rcases zipT_cases ks _ t rfl k with ⟨_,q⟩|⟨q,_⟩
        · exact absurd hk q
        · exact q
      rw [h2] at hz2
      exact hz2
    refine⟨zipT ks (st s'),me s',ρ,⟨μ s',e4,s',e3,rfl,?_,rfl⟩,⟨af'.mem,fun i=>?_,hR'.size,hR'.defers.sub hown⟩,af'⟩
    · rw [←e1]
      apply List.map_congr_left
      intro k hk
      rcases zipT_cases ks _ t' rfl k with ⟨_,q⟩|⟨q,_⟩
      · exact absurd hk q
      · exact q
    · by_cases hi:i∈ks
      · rcases zipT_cases ks _ t' e1 i with ⟨_,q⟩|⟨q,qm⟩
        · exact absurd hi q
        · rw [q]
          rcases conS_get (hst s s' h1 e3) hz e1 i hi with hk|hk
          · have h5:=hR.tm i
            rw [←hk] at h5
            exact scope_rel af.pre (fun k _ h=>hbad k h) h5 (hR'.tm i)
          · exact keeps_rel (hR.mem.len.trans (hlen s)) af.pre (fun k _ h=>hbad k h) (hR'.tm i) hk
      · rcases zipT_at ks (st s') i with q|⟨p,q,_⟩
        · rw [q];exact .any _
        · exact absurd (List.mem_of_getElem? q) hi
  |_=>exact⟨t',m',ρ',hq,hR',af⟩
/-- .. behind what is lent -/
theorem WA_whileK{c:Code}{Q:Exit→List (Nat×V)→Mem→Prop}{σ:Type}{L:Mem}(ks:List Nat)(st:σ→List V)(E:σ→Mem)(k:Nat)(inv:σ→Prop)(μ:σ→Nat)(s0:σ)(h0:inv s0)(ht:ks.map (tget t)=st s0)(hm:m=lend L++E s0)
    (hlen:∀ s,(E s).length=k) (hst:∀ s s',inv s→inv s'→conS ((lend L).length+k) (st s) (st s')) (hb:∀ s s',inv s→inv s'→conB (E s) (E s'))
    (hr:∀ s,inv s→∀ K:List (Nat×V)→Mem→Prop,(∀ s' t' m' ext,ks.map (tget t')=st s'→m'=lend L++(E s'++ext)→inv s'→μ s'<μ s→K t' m')→WA P N c (zipT ks (st s)) (lend L++E s) (qThen K Q)):WA P N (.loop c) t m Q:=by
  have hml:m.length=(lend L).length+k:=by rw [hm,List.length_append,hlen]
  refine WA_whileD2 ks st (fun s=>lend L++E s) inv μ s0 h0 ht hm (fun s=>by rw [List.length_append,hlen,hml]) (fun s s' h1 h2=>by rw [hml];exact hst s s' h1 h2) ?_ (fun s hs K hK=>hr s hs K fun s' t' m' ext e1 e2 e3 e4=>hK s' t' m' ext e1 (by rw [e2,List.append_assoc]) e3 e4)
  intro s s' b blk h1 h2 h
  rcases Nat.lt_or_ge b (lend L).length with hl|hl
  · rw [List.getElem?_append_left hl] at h
    exact .inr (by rw [List.getElem?_append_left hl];exact h)
  · rw [List.getElem?_append_right hl] at h
    rcases conB_get (hb s s' h1 h2) _ _ h with q|q
    · exact .inl q
    · exact .inr (by rw [List.getElem?_append_right hl];exact q)
/-- a loop like WA_whileT's; at its start the kept blocks stand at the places js0 behind L -/
theorem WA_whileJ {c:Code} {Q:Exit→List (Nat×V)→Mem→Prop} {σ:Type} {L X:Mem} (ks:List Nat) (st:σ→List TV) (E:σ→List TB) (inv:σ→Prop) (μ:σ→Nat) (s0:σ) (js:List Nat) (h0:inv s0) (e2:ks.map (tget t)=(st s0).map (TV.inst fun i=>L.length+js.getD i 0)) (e3:js.map (fun j=>X[j]?)=(E s0).map (fun T=>some (T.inst fun i=>L.length+js.getD i 0)))
    (hm:m=L++X) (e4:js.Nodup) (hks:ks.Nodup) (hst:∀ s,inv s→(st s).all (TV.okT (E s).length)=true) (hf:∀ s,inv s→(E s).all (TB.ok (E s).length)=true)
    (hr:∀ s,inv s→∀ B:Mem,(∃ D,B=L++D)→∀ K:List (Nat×V)→Mem→Prop,(∀ s' js t' m',RoundEndT B ks (st s') (E s') js t' m'→inv s'→μ s'<μ s→K t' m')→WA P N c (zipT ks ((st s).map (TV.inst fun i=>B.length+i))) (B++(E s).map (TB.inst fun i=>B.length+i)) (qThen K Q)):WA P N (.loop c) t m Q:=by
  subst hm
  intro F hF z w ρ a hR
  have hl:js.length=(E s0).length:=by simpa using congrArg List.length e3
  have hb:∀ (i j:Nat),js[i]?=some j→X[j]?=((E s0)[i]?).map (TB.inst fun i=>L.length+js.getD i 0):=by
    intro i j h
    have hi:i<(E s0).length:=by rw [←hl];exact(List.getElem?_eq_some_iff.1 h).1
    have:=congrArg (fun l=>l[i]?) e3
    simp only [List.getElem?_map,h,Option.map_some] at this
    rw [List.getElem?_eq_getElem hi] at this ⊢
    simpa using this
  obtain⟨ρ'',hM'',af'',hn''⟩:=renormT hR.mem hl e4 hb rfl (hf s0 h0)
  have hR2:Rel N ⟨z,F.round⟩ w ρ'' ((L++deadB X)++(E s0).map (TB.inst fun i=>(L++deadB X).length+i)) (zipT ks ((st s0).map (TV.inst fun i=>(L++deadB X).length+i))) a:=by
    refine⟨hM'',fun i=>?_,hR.size,hR.defers.after af''⟩
    rcases zipT_at ks ((st s0).map (TV.inst fun i=>(L++deadB X).length+i)) i with h|⟨p,p1,p2⟩
    · rw [h];exact .any _
    · rw [List.getElem?_map,Option.map_eq_some_iff] at p2
      obtain⟨tv,q1,q2⟩:=p2
      rw [←q2]
      have hv:tget t i=TV.inst (fun i=>L.length+js.getD i 0) tv:=by
        have:=congrArg (fun l=>l[p]?) e2
        simpa [List.getElem?_map,p1,q1] using this
      have hx:=hR.tm i
      rw [hv] at hx
      have hok:=List.all_eq_true.1 (hst s0 h0) tv (List.mem_of_getElem? q1)
      exact tv_ren (fun k hk h=>af''.bd k hk h) af''.pre hn'' hl hok hx
  have hw:WA P N (.loop c) (zipT ks ((st s0).map (TV.inst fun i=>(L++deadB X).length+i))) ((L++deadB X)++(E s0).map (TB.inst fun i=>(L++deadB X).length+i)) Q:=
    WA_whileT (L:=L++deadB X) ks st E inv μ s0 h0 (zipT_map ks _ hks (by simpa using congrArg List.length e2)) rfl hks hst hf fun s hs B hB K hK=>hr s hs B (by obtain⟨D,rfl⟩:=hB;exact⟨deadB X++D,by simp⟩) K hK
  exact wpIn_mono (hw F hF z w ρ'' a hR2) fun e a' w' h=>h.trans af''
end
section
variable {P:Program} {N:Nat} {t:List (Nat×V)} {m:Mem}
/-- slots and blocks as they are told, from here on -/
theorem WA_ren {c:Code} {Q:Exit→List (Nat×V)→Mem→Prop} {L:Mem} {ks:List Nat} {vs:List TV} {Ts:List TB} {js:List Nat} (hE:RoundEndT L ks vs Ts js t m) (hks:ks.Nodup) (hst:vs.all (TV.okT Ts.length)=true) (hf:Ts.all (TB.ok Ts.length)=true)
    (h:∀ B:Mem,(∃ D,B=L++D)→WA P N c (zipT ks (vs.map (TV.inst fun i=>B.length+i))) (B++Ts.map (TB.inst fun i=>B.length+i)) Q):WA P N c t m Q:=by
  obtain⟨X,rfl,e2,e3,e4⟩:=hE
  intro F hF z w ρ a hR
  have hl:js.length=Ts.length:=by simpa using congrArg List.length e3
  have hb:∀ (i j:Nat),js[i]?=some j→X[j]?=(Ts[i]?).map (TB.inst fun i=>L.length+js.getD i 0):=by
    intro i j h
    have hi:i<Ts.length:=by rw [←hl];exact(List.getElem?_eq_some_iff.1 h).1
    have:=congrArg (fun l=>l[i]?) e3
    simp only [List.getElem?_map,h,Option.map_some] at this
    rw [List.getElem?_eq_getElem hi] at this ⊢
    simpa using this
  obtain⟨ρ'',hM'',af'',hn''⟩:=renormT hR.mem hl e4 hb rfl hf
  have hR2:Rel N ⟨z,F.round⟩ w ρ'' ((L++deadB X)++Ts.map (TB.inst fun i=>(L++deadB X).length+i)) (zipT ks (vs.map (TV.inst fun i=>(L++deadB X).length+i))) a:=by
    refine⟨hM'',fun i=>?_,hR.size,hR.defers.after af''⟩
    rcases zipT_at ks (vs.map (TV.inst fun i=>(L++deadB X).length+i)) i with h|⟨p,p1,p2⟩
    · rw [h];exact .any _
    · rw [List.getElem?_map,Option.map_eq_some_iff] at p2
      obtain⟨tv,q1,q2⟩:=p2
      rw [←q2]
      have hv:tget t i=TV.inst (fun i=>L.length+js.getD i 0) tv:=by
        have:=congrArg (fun l=>l[p]?) e2
        simpa [List.getElem?_map,p1,q1] using this
      have hx:=hR.tm i
      rw [hv] at hx
      have hok:=List.all_eq_true.1 hst tv (List.mem_of_getElem? q1)
      exact tv_ren (fun k hk h=>af''.bd k hk h) af''.pre hn'' hl hok hx
  exact wpIn_mono (h (L++deadB X) ⟨deadB X,rfl⟩ F hF z w ρ'' a hR2) fun e a' w' h=>h.trans af''
/-- behind two pieces of code, slots and blocks as they are told -/
theorem WA_cutT2{x1 x2 y:Code}{Q:Exit→List (Nat×V)→Mem→Prop}{σ:Type}{L:Mem}(ks:List Nat)(st:σ→List TV)(E:σ→List TB)(inv:σ→Prop)(hks:ks.Nodup)(hst:∀ s,inv s→(st s).all (TV.okT (E s).length)=true)(hf:∀ s,inv s→(E s).all (TB.ok (E s).length)=true)
    (h1:∀ K:List (Nat×V)→Mem→Prop,(∀ s' js t' m',RoundEndT L ks (st s') (E s') js t' m'→inv s'→True→K t' m')→WA P N x1 t m (qThen (fun t m=>WA P N x2 t m (qThen K Q)) Q))
    (h2:∀ s,inv s→∀ B:Mem,(∃ D,B=L++D)→WA P N y (zipT ks ((st s).map (TV.inst fun i=>B.length+i))) (B++(E s).map (TB.inst fun i=>B.length+i)) Q):WA P N (.seq x1 (.seq x2 y)) t m Q:=by
  have hk:∀ t m,(∃ s js,RoundEndT L ks (st s) (E s) js t m∧inv s)→WA P N y t m Q:=by
    rintro t m ⟨s,js,h,hi⟩
    exact WA_ren h hks (hst s hi) (hf s hi) (h2 s hi)
  refine WA_seq' (WA_mono (h1 (fun t m=>∃ s js,RoundEndT L ks (st s) (E s) js t m∧inv s) fun s js t m h hi _=>⟨s,js,h,hi⟩) fun e t m h=>?_)
  cases e with
  | normal=>
    refine WA_seq' (WA_mono h fun e t m h=>?_)
    cases e with
    |normal=>exact hk _ _ h
    |_=>exact h
  |_=>exact h
end
/-- what stands behind B ++ D stands behind B -/
theorem RoundEndT_up{B D:Mem}{ks:List Nat}{vs:List TV}{E:List TB}{js:List Nat}{t':List (Nat×V)}{m':Mem}(h:RoundEndT (B++D) ks vs E js t' m')(hst:vs.all (TV.okT E.length)=true)(hf:E.all (TB.ok E.length)=true):
    RoundEndT B ks vs E (js.map (D.length+ ·)) t' m':=by
  obtain⟨X,rfl,e2,e3,e4⟩:=h
  have hl:js.length=E.length:=by simpa using congrArg List.length e3
  have hg:∀ i,i<E.length→(B++D).length+js.getD i 0=B.length+(js.map (D.length+ ·)).getD i 0:=by
    intro i hi
    simp only [List.getD_eq_getElem?_getD,List.getElem?_map,List.length_append]
    rw [List.getElem?_eq_getElem (by omega)]
    simp only [Option.map_some,Option.getD_some]
    omega
  have hv:∀ tv:TV,tv.okT E.length=true→tv.inst (fun i=>(B++D).length+js.getD i 0)=tv.inst (fun i=>B.length+(js.map (D.length+ ·)).getD i 0):=by
    intro tv h
    cases tv with
    |v _=>rfl
    |ptr i a o=>simp only [TV.okT,decide_eq_true_eq] at h;simp only [TV.inst,hg i h]
    |sl i n=>simp only [TV.okT,decide_eq_true_eq] at h;simp only [TV.inst,hg i h]
    |mp i=>simp only [TV.okT,decide_eq_true_eq] at h;simp only [TV.inst,hg i h]
  refine⟨D++X,by rw [List.append_assoc],?_,?_,?_⟩
  · rw [e2]
    exact List.map_congr_left fun tv h=>hv tv (List.all_eq_true.1 hst tv h)
  · have:(js.map (D.length+ ·)).map (fun j=>(D++X)[j]?)=js.map (fun j=>X[j]?):=by
      rw [List.map_map]
      refine List.map_congr_left fun j _=>?_
      simp only [Function.comp]
      rw [List.getElem?_append_right (Nat.le_add_right _ _),Nat.add_sub_cancel_left]
    rw [this,e3]
    refine List.map_congr_left fun T h=>?_
    have ht:=List.all_eq_true.1 hf T h
    cases T with
    | cells st ty sz es=>
      simp only [TB.ok,List.all_eq_true] at ht
      simp only [TB.inst]
      congr 2
      exact List.map_congr_left fun e he=>List.map_congr_left fun tv h=>hv tv (ht e he tv h)
    | obj st vs φ=>
      simp only [TB.ok,List.all_eq_true] at ht
      simp only [TB.inst]
      congr 2
      exact List.map_congr_left fun tv h=>hv tv (ht tv h)
  · exact(List.pairwise_map).2 (e4.imp fun h=>by omega)
theorem Gives_weak{P:Program}{f:FuncId}{vs:List V}{m:Mem}{v v':V}(h:Gives P f vs m v)(hv:∀ w ρ B x,RelV w ρ B v x→RelV w ρ B v' x):Gives P f vs m v':=by
  refine⟨h.1,fun w ρ xs hM hA=>(h.2 w ρ xs hM hA).mono ?_⟩
  rintro e w' ⟨v0,mo,x,h1,⟨rfl,rfl⟩,h3⟩
  rcases h3 with ⟨_,h4,h5⟩|⟨m',ρ',h4,_⟩
  · exact⟨v',none,x,h1,⟨rfl,rfl⟩,.inl ⟨rfl,h4,hv _ _ _ _ h5⟩⟩
  · cases h4
theorem rel_nil{w:World}{ρ:List Re}{B:Nat→Prop}{x:Value}(h:RelV w ρ B .nilsl x):RelV w ρ B (.lst []) x:=by
  cases h;exact .lnil none 0 (Nat.zero_le _) (fun _=>rfl)
/-- values one by one at least as told -/
def WkV(v v':V):Prop:=∀ w ρ B x,RelV w ρ B v x→RelV w ρ B v' x
theorem WkV.refl(v:V):WkV v v:=fun _ _ _ _ h=>h
def WkL:List V→List V→Prop
  |[],[]=>True
  |a::r,b::r'=>WkV a b∧WkL r r'
  |_,_=>False
theorem WkL_get:∀ {l l':List V},WkL l l'→l'.length=l.length∧∀ (i:Nat) v',l'[i]?=some v'→∃ v,l[i]?=some v∧WkV v v'
  |[],[],_=>⟨rfl,fun i v h=>by simp at h⟩
  | a::r,b::r',h=>by
    obtain⟨h1,h2⟩:=WkL_get h.2
    refine⟨by simp [h1],fun i v' hv=>?_⟩
    cases i with
    |zero=>simp at hv;subst hv;exact⟨a,rfl,h.1⟩
    |succ i=>exact h2 i v' (by simpa using hv)
  |[],_::_,h=>h.elim
  |_::_,[],h=>h.elim
theorem wk_tup{l l':List V}(h:WkL l l'):WkV (.tup l) (.tup l'):=by
  obtain⟨h1,h2⟩:=WkL_get h
  intro w ρ B x hr
  cases hr with
  | tup _ xs hl hh=>
    refine .tup _ _ (h1.trans hl) fun i c x e1 e2=>?_
    obtain⟨v,g1,g2⟩:=h2 i c e1
    exact g2 _ _ _ _ (hh i v x g1 e2)
theorem wk_agg{l l':List V}(h:WkL l l'):WkV (.agg l) (.agg l'):=by
  obtain⟨h1,h2⟩:=WkL_get h
  intro w ρ B x hr
  cases hr with
  | agg _ xs hl hh=>
    refine .agg _ _ (h1.trans hl) fun i c x e1 e2=>?_
    obtain⟨v,g1,g2⟩:=h2 i c e1
    exact g2 _ _ _ _ (hh i v x g1 e2)
theorem wk_nil:WkV .nilsl (.lst []):=fun _ _ _ _ h=>rel_nil h
/-- how a list that has grown is handed back -/
def oV:List (List V)→V
  |[]=> .nilsl
  |e::r=> .lst (e::r)
theorem wk_oV(es:List (List V)):WkV (oV es) (.lst es):=by
  cases es with
  |nil=>exact wk_nil
  |cons e r=>exact WkV.refl _
theorem fin_tas{m0 D X B:Mem}{j k:Nat}{st:Sta}{ty sz:Nat}{es:List (List V)}{u u':V}{R:V→Option Mem→Prop}(hB:B=lend m0++D)(hX:X[j]?=some (.cells st ty sz es))(hk:k≤es.length)(hp:plainLL (es.take k)=true)(hu:∀ m L,frz m L 3 u=some u')(h:R (.tup [.agg [.lst (es.take k)],u']) none):
    Fin m0 R (.tup [.agg [.sl (B.length+j) k],u]) (B++X):=by
  subst hB
  refine .inr ⟨D++X,_,by simp,?_,h⟩
  have ha:frz ((lend m0++D)++X) m0.length 3 (.agg [.sl ((lend m0++D).length+j) k])=some (.agg [.lst (es.take k)]):=by
    show(frzs (frz _ _ 2) _).map V.agg=_
    simp only [frzs,frz_sl (n:=1) hX hk hp,Option.map_some]
  show(frzs (frz _ _ 3) _).map V.tup=_
  simp only [frzs,ha,hu,Option.map_some]
end Go.Proofs.YtomkbpoicjabfaaGreatDoor
namespace Go.Proofs.YtomkbpoicjabfaaGreatDoor
open Go.RowKit
def frzA(b:Nat)(es:List (List V)):V→V
  | .agg cs=> .agg (cs.map (frzV b es))
  |v=>frzV b es v
theorem frzA_rel{w:World}{ρ:List Re}{m:Mem}(hM:RelM w ρ m){b:Nat}{st:Sta}{ty sz:Nat}{es:List (List V)}(hb:m[b]?=some (.cells st ty sz es)){v:V}{x:Value}(h:RelV w ρ (bad m ρ) v x):
    RelV w ρ (bad (m.set b (.cells .ro ty sz es)) ρ) (frzA b es v) x:=by
  unfold frzA
  split
  · cases h with
    | agg cs xs hl hh=>
      refine .agg _ _ (by simpa using hl) fun i c x h1 h2=>?_
      rw [List.getElem?_map,Option.map_eq_some_iff] at h1
      obtain⟨c0,h1,rfl⟩:=h1
      exact frzV_rel hM hb (hh i c0 x h1 h2)
  · exact frzV_rel hM hb h
theorem CallA_freezeA{P:Program}{f:FuncId}{vs:List V}{m:Mem}{R:V→Option Mem→Prop}{b:Nat}{st:Sta}{ty sz:Nat}{es:List (List V)}(hb:m[b]?=some (.cells st ty sz es))(h:CallA P f (vs.map (frzA b es)) (m.set b (.cells .ro ty sz es)) R):
    CallA P f vs m fun v mo=>∃ mo0,R v mo0∧mo=some (mo0.getD (m.set b (.cells .ro ty sz es))):=by
  refine⟨h.1,fun w ρ xs hM hA=>?_⟩
  have af:=After.of_ro hM hb
  refine(h.2 w ρ xs af.mem ⟨by simpa using hA.1,fun i v x h1 h2=>?_⟩).mono ?_
  · rw [List.getElem?_map,Option.map_eq_some_iff] at h1
    obtain⟨v0,h1,rfl⟩:=h1
    exact frzA_rel hM hb (hA.2 i v0 x h1 h2)
  · rintro e w' ⟨v,mo,x,rfl,hr,hh⟩
    rcases hh with ⟨rfl,hbel,rv⟩|⟨m',ρ',rfl,af',rv⟩
    · exact⟨v,_,x,rfl,⟨none,hr,rfl⟩,.inr ⟨_,ρ,rfl,af.trans (After.of_same af.mem hbel),rv⟩⟩
    · exact⟨v,_,x,rfl,⟨some m',hr,rfl⟩,.inr ⟨_,ρ',rfl,af.trans af',rv⟩⟩
section
variable {P:Program} {N:Nat} {t:List (Nat×V)} {m m':Mem} {Q:List (Nat×V)→Mem→Prop} {ops:Array Oper} {rest:List Oper} {d:Nat} {g:FuncId} {vs vs':List V} {v:V}
theorem s_fzA{fs cs:List V}{B X:Mem}{st:Sta}{ty sz:Nat}{es:List (List V)}(j:Nat)(hc:Gives P g vs' m' v)(h:WOs P N ops rest ((d,v)::t) m' Q)(hm:m=B++X)(hX:X[j]?=some (.cells st ty sz es))(hvs:vs.map (frzA (B.length+j) es)=vs')(hm':B++X.set j (.cells .ro ty sz es)=m'):ArgG P N ops rest t m Q d fs cs g vs:=by
  subst hm;subst hvs;subst hm'
  have hb:(B++X)[B.length+j]?=some (.cells st ty sz es):=by rw [List.getElem?_append_right (Nat.le_add_right _ _),Nat.add_sub_cancel_left];exact hX
  have hs:(B++X).set (B.length+j) (.cells .ro ty sz es)=B++X.set j (.cells .ro ty sz es):=by rw [List.set_append_right _ _ (Nat.le_add_right _ _),Nat.add_sub_cancel_left]
  refine s_fnA (CallA_freezeA hb (by rw [hs];exact hc)) ?_
  rintro v' mo ⟨mo0,⟨rfl,rfl⟩,rfl⟩
  simp only [Option.getD_some,Option.getD_none]
  rw [hs]
  exact h
end
end Go.Proofs.YtomkbpoicjabfaaGreatDoor
namespace Go.Proofs.YtomkbpoicjabfaaGreatDoor
open Go.RowKit
attribute [local irreducible] WA WOs WDs WAn qThen qBlock tput
section
variable {P:Program} {N:Nat} {ops:Array Oper} {kd:Nat→Kd} {LL:Lim} {is:List El} {t:List (Nat×V)} {m:Mem} {Q:List (Nat×V)→Mem→Prop}
/-- a slice and a block, made side by side -/
theorem d_gSPc{cs:List Nat}{n1 d1 n2 d2 k1 k2 q1:Nat}{b1 b2:Blk}(h1:MkOk P N ops t n1 (.sl 0 q1) b1)(h2:MkOk P N ops t n2 (.ptr 0 0 0) b2)(h:GrpC P N ops kd LL cs t m fun t' mf=>GFin P N ops kd LL is ((d2,.ptr k2 0 0)::(d1,.sl k1 q1)::t') ((mf++[.dead,.dead])++[b1,b2]) Q)(hne:(n2==n1)=false:=by first|exact rfl|fail)(hd1:dstOf ops n1=some d1:=by first|exact rfl|fail)(hd2:dstOf ops n2=some d2:=by first|exact rfl|fail)(hk1:m.length+2=k1:=by first|(simp only [ml,List.length_cons,List.length_nil,Nat.add_assoc,Nat.reduceAdd,Nat.zero_add]<;>with_reducible exact rfl)|fail)(hk2:m.length+3=k2:=by first|(simp only [ml,List.length_cons,List.length_nil,Nat.add_assoc,Nat.reduceAdd,Nat.zero_add]<;>with_reducible exact rfl)|fail):WDs P N ops kd LL (.grp true cs [n1,n2]::is) t m Q:=by
  obtain⟨vs',t',mf,h3,h4⟩:=h
  refine d_g2 h3 hne h1 h2 hd1 hd2 ?_
  subst hk1;subst hk2
  exact h4
end
theorem ny{p q:Prop}(h:q)(e:q→p:=by(intro h;first|exact s_tp h|exact s_tn h|(refine g_op ?_;first|exact s_mv h|exact s_as h|exact s_bin h|exact s_ld h|exact s_ia h|exact s_fa h|exact s_fd h|exact s_ix h|exact s_un h|exact s_op h|fail)|exact d_tp h|exact d_tn h|exact WA_seq' h|exact qT_WA h|exact WA_region h|exact WOs_nil h|(refine g_c ?_;first|exact c_T h|exact c_F h|fail)|(refine g_gd ?_;first|exact s_yes h|exact s_no h|exact s_noU h|fail)|exact WA_skip h|exact WA_ret h|exact WA_exit h|exact qT_ret h|exact qT_exit h|exact qB_exit h|exact qB_other rfl h|exact qB_normal h|exact qB_ret h|exact qT_WAn h|exact WAn_step h|exact qT_normal h|(refine g_d ?_;first|exact d_yes h|exact d_no h|exact d_noU h|exact d_op h|fail)|exact WDs_nil h|exact d_gPP cl_nil mkP mkP h|exact d_gPc mkP h|exact d_gPPc mkP mkP h|exact d_gSPc mkS mkP h|exact d_gSc mkS h|exact grp_nil h|exact g_fin h|exact grp_op h|exact d_gSS cl_nil mkS mkS h|fail)):p:=e h
/-- both ways on -/
theorem sx{a b g q1 q2:Prop}(h1:a→q1)(h2:b→q2)(e:(a→q1)→(b→q2)→g:=by(intro h1 h2;first|exact WOs_splitD h1 h2|exact WOs_splitN h1 h2|exact WDs_splitD h1 h2|exact WDs_splitN h1 h2|fail)):g:=e h1 h2
end Go.Proofs.YtomkbpoicjabfaaGreatDoor
