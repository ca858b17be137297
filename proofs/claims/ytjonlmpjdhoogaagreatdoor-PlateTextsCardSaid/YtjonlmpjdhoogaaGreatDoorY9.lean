/- contract: slices.Concat of two rows of three -/
import Derived.Test.YtjonlmpjdhoogaaGreatDoorGAH
set_option linter.unusedSimpArgs false
set_option linter.unusedVariables false
namespace Go.Proofs.YtjonlmpjdhoogaaGreatDoor
open Go.RowKit
attribute [local irreducible] WA WOs WDs WAn qThen qBlock tput
set_option maxHeartbeats 1000000
set_option maxRecDepth 20000
set_option linter.unusedSimpArgs false
set_option linter.unusedVariables false
set_option maxHeartbeats 4000000
def coS(X:List (List V))(k:Nat):List TV:=[([.sl 0 0,.sl 0 3,.sl 0 6]:List TV).getD k (.v .any),.v (.lst X),.v (.int .i64 2),.v (.int .i64 k)]
def coE(a b c x y z:Int)(k:Nat):List TB:=[.cells .own 3 1 (([[],[[.v (.int .i64 a)],[.v (.int .i64 b)],[.v (.int .i64 c)]],[[.v (.int .i64 a)],[.v (.int .i64 b)],[.v (.int .i64 c)],[.v (.int .i64 x)],[.v (.int .i64 y)],[.v (.int .i64 z)]]]:List (List (List TV))).getD k [])]
theorem coS_ok{X:List (List V)}{a b c x y z:Int}{k:Nat}(h:k≤2):(coS X k).all (TV.okT (coE a b c x y z k).length)=true:=by
  obtain rfl|rfl|rfl:k=0∨k=1∨k=2:=by omega
  all_goals rfl
theorem coE_ok{a b c x y z:Int}{k:Nat}(h:k≤2):(coE a b c x y z k).all (TB.ok (coE a b c x y z k).length)=true:=by
  obtain rfl|rfl|rfl:k=0∨k=1∨k=2:=by omega
  all_goals rfl

theorem sconcat_c(a b c x y z:Int)(m:Mem):Gives Tryz.prog 19 [.lst [[.lst [[.int .i64 a],[.int .i64 b],[.int .i64 c]]],[.lst [[.int .i64 x],[.int .i64 y],[.int .i64 z]]]]] m (.lst (nsV [a,b,c,x,y,z])):=by
  suffices key:CallA Tryz.prog 19 [.lst [[.lst [[.int .i64 a],[.int .i64 b],[.int .i64 c]]],[.lst [[.int .i64 x],[.int .i64 y],[.int .i64 z]]]]] m (fun v mo=>mo=none∧WkV v (.lst (nsV [a,b,c,x,y,z]))) from Gives_ofX key fun v mo h=>h
  refine CallA_in Tryz.func19 rfl Tryz.ntmps19 Tryz.results19 (by kernel_rfl) (by simp) fun Q hQ=>?_
  generalize hX:[[V.lst [[V.int .i64 a],[V.int .i64 b],[V.int .i64 c]]],[V.lst [[V.int .i64 x],[V.int .i64 y],[V.int .i64 z]]]]=X
  have hXl:X.length=2:=by rw [←hX];rfl
  have hX0:X[0]?=some [V.lst [[V.int .i64 a],[V.int .i64 b],[V.int .i64 c]]]:=by rw [←hX];rfl
  have hX1:X[1]?=some [V.lst [[V.int .i64 x],[V.int .i64 y],[V.int .i64 z]]]:=by rw [←hX];rfl
  (have FX:=And.intro hXl (And.intro hX0 hX1);repeat'(first|(refine sx ?_ ?_<;>intro h<;>first|(exfalso;omega)|skip)|refine ny ?_|refine WA_block ?_))
  clear FX
  refine WA_while (σ:=Nat) [0,3,9,10,11] (fun k=>[.lst X,.int .i64 ([0,3,6].getD k 0),.lst X,.int .i64 2,.int .i64 k]) (fun _=>lend m) (fun k=>k≤2) (fun k=>2 - k) 0 (Nat.zero_le _) tv_ (by simp) ?_
  rintro k hk K hK
  simp only [zipT]
  obtain rfl|rfl|rfl:k=0∨k=1∨k=2:=by omega
  · simp only [List.getD_cons_zero,List.getD_cons_succ,show((0:Nat):Int)=0 from rfl]
    (have FX:=And.intro hXl (And.intro hX0 hX1);repeat'(first|(refine sx ?_ ?_<;>intro h<;>first|(exfalso;omega)|skip)|refine ny ?_|refine WA_block ?_))
    exact next_ hK 1 (by decide) (by decide)
  · simp only [List.getD_cons_zero,List.getD_cons_succ,show((1:Nat):Int)=1 from rfl]
    (have FX:=And.intro hXl (And.intro hX0 hX1);repeat'(first|(refine sx ?_ ?_<;>intro h<;>first|(exfalso;omega)|skip)|refine ny ?_|refine WA_block ?_))
    exact next_ hK 2 (by decide) (by decide)
  · simp only [List.getD_cons_zero,List.getD_cons_succ,show((2:Nat):Int)=2 from rfl]
    (have FX:=And.intro hXl (And.intro hX0 hX1);repeat'(first|(refine sx ?_ ?_<;>intro h<;>first|(exfalso;omega)|skip)|refine ny ?_|refine WA_block ?_))
    refine g_op ?_;refine g_call ?_;refine g_args ?_;refine s_fnA (sgrow_c _) ?_
    rintro v mo ⟨rfl,rfl⟩
    simp only [Option.getD_some]
    (have FX:=And.intro hXl (And.intro hX0 hX1);repeat'(first|(refine sx ?_ ?_<;>intro h<;>first|(exfalso;omega)|skip)|refine ny ?_|refine WA_block ?_))
    clear FX hK
    refine WA_whileT (σ:=Nat) (L:=lend m) [6,25,26,27] (coS X) (coE a b c x y z) (fun k=>k≤2) (fun k=>2 - k) 0 (Nat.zero_le _) (by simp only [coS,List.getD_cons_zero,List.map_cons,List.map_nil,TV.inst];exact tv_) rfl (by decide) (fun _ h=>coS_ok h) (fun _ h=>coE_ok h) ?_
    rintro k hk B ⟨D,hB⟩ K hK
    have hnx:=fun(_:Unit)=>hK
    obtain rfl|rfl|rfl:k=0∨k=1∨k=2:=by omega
    · simp only [coS,coE,List.getD_cons_zero,List.getD_cons_succ,show((0:Nat):Int)=0 from rfl]
      simp only [List.map_cons,List.map_nil,TB.inst,TV.inst,tv_map,zipT,List.cons_append,List.nil_append,Nat.add_zero]
      (have FX:=And.intro hXl (And.intro hX0 hX1);repeat'(first|(refine sx ?_ ?_<;>intro h<;>first|(exfalso;omega)|skip)|refine ny ?_|refine WA_block ?_))
      have hnz:=fun(_:Unit)=>hK 1
      (refine nextU_ hnz (()) [1] (by decide) (by decide) ?_ (ht:=?_);(focus (simp only [coE,List.getD_cons_zero,List.getD_cons_succ,List.map_cons,List.map_nil,TB.inst,TV.inst,tv_map,List.cons_append,List.nil_append];first|rfl|(simp [ptsV,ptV];done)|(simp [hpsV,hpV];done)|(simp [frsV,frV];done)|(simp [txV];done)|(simp [prtsV,prtV];done)));(simp only [coS,List.map_cons,List.map_nil,TV.inst,List.getD_cons_zero,List.getD_cons_succ];exact tv_))
    · simp only [coS,coE,List.getD_cons_zero,List.getD_cons_succ,show((1:Nat):Int)=1 from rfl]
      simp only [List.map_cons,List.map_nil,TB.inst,TV.inst,tv_map,zipT,List.cons_append,List.nil_append,Nat.add_zero]
      (have FX:=And.intro hXl (And.intro hX0 hX1);repeat'(first|(refine sx ?_ ?_<;>intro h<;>first|(exfalso;omega)|skip)|refine ny ?_|refine WA_block ?_))
      have hnz:=fun(_:Unit)=>hK 2
      (refine nextU_ hnz (()) [1] (by decide) (by decide) ?_ (ht:=?_);(focus (simp only [coE,List.getD_cons_zero,List.getD_cons_succ,List.map_cons,List.map_nil,TB.inst,TV.inst,tv_map,List.cons_append,List.nil_append];first|rfl|(simp [ptsV,ptV];done)|(simp [hpsV,hpV];done)|(simp [frsV,frV];done)|(simp [txV];done)|(simp [prtsV,prtV];done)));(simp only [coS,List.map_cons,List.map_nil,TV.inst,List.getD_cons_zero,List.getD_cons_succ];exact tv_))
    · simp only [coS,coE,List.getD_cons_zero,List.getD_cons_succ,show((2:Nat):Int)=2 from rfl]
      simp only [List.map_cons,List.map_nil,TB.inst,TV.inst,tv_map,zipT,List.cons_append,List.nil_append,Nat.add_zero]
      (have FX:=And.intro hXl (And.intro hX0 hX1);repeat'(first|(refine sx ?_ ?_<;>intro h<;>first|(exfalso;omega)|skip)|refine ny ?_|refine WA_block ?_))
      exact r_esA hQ (v':= .sl B.length 6) (fin_sl (B:=B) (j:=0) (k:=6) (X:=[.cells .own 3 1 (nsV [a,b,c,x,y,z])]) hB rfl (Nat.le_refl _) (nsV_plain [a,b,c,x,y,z]) ⟨rfl,WkV.refl _⟩)
end Go.Proofs.YtjonlmpjdhoogaaGreatDoor
