/- contract: the reference reads a line -/
import Derived.Test.YtjonlmpjdhoogaaGreatDoorGAH
import Derived.Test.YtjonlmpjdhoogaaGreatDoorX6
import Derived.Test.YtjonlmpjdhoogaaGreatDoorX7
set_option linter.unusedSimpArgs false
set_option linter.unusedVariables false
namespace Go.Proofs.YtjonlmpjdhoogaaGreatDoor
open Go.RowKit
attribute [local irreducible] WA WOs WDs WAn qThen qBlock tput
set_option maxHeartbeats 1000000
set_option maxRecDepth 20000
set_option linter.unusedSimpArgs false
set_option linter.unusedVariables false
set_option maxHeartbeats 4000000
def rlS(o:Txt)(w:List Txt)(z:Nat×List Int):List TV:=[.ptr 0 0 0,.v (.lst (xsV (o::w))),.ptr 1 0 0,.v (.int .i64 z.1)]
def rlE(z:Nat×List Int):List TB:=[.cells .own 62 6 [[.v (.int .i64 0),.v (.int .i64 0),.v (.int .i64 0),.v (.int .i64 0),.v (.int .i64 0),.v (.int .i64 0)]],.cells .own 62 6 [[.v (.int .i64 (z.2.getD 0 0)),.v (.int .i64 (z.2.getD 1 0)),.v (.int .i64 (z.2.getD 2 0)),.v (.int .i64 (z.2.getD 3 0)),.v (.int .i64 (z.2.getD 4 0)),.v (.int .i64 (z.2.getD 5 0))]]]

theorem rline_c (s:Txt) (hs:s.length≤1000) (m:Mem):CallA Tryz.prog 31 [.str s] m (fun v mo=>mo=none∧∃ p:Pl,v= .tup [.agg (plV p),.bool (decide (lineF s).isSome)]∧∀ q,lineF s=some q→q=p):=by
  have hct:=fun m=>bcut_c s 32 (by omega) m
  obtain⟨o,w,hc⟩:∃ o w,cutP 32 s=o::w:=by
    rcases h:cutP 32 s with _|⟨o,w⟩
    · exact absurd h (cutP_ne 32 s)
    · exact⟨o,w,rfl⟩
  have hcm:=fun p=>cutP_sub (c:=32) (s:=s) (p:=p)
  rw [hc] at hct hcm
  have hll:(xsV (o::w)).length=w.length+1:=by rw [xsV_length];rfl
  have hal:(xsV (o::w)).all (fun e=>e.length==1)=true:=by simp [xsV]
  have hx0:(xsV (o::w))[0]?=some [.str o]:=rfl
  refine CallA_in Tryz.func31 rfl Tryz.ntmps31 Tryz.results31 (by kernel_rfl) (by simp) fun Q hQ=>?_
  by_cases h:o=forceT∧w.length=6
  · obtain⟨rfl,hw⟩:=h
    have hx0:(xsV (forceT::w))[0]?=some [.str [102,111,114,99,101]]:=rfl
    have hll:(xsV (forceT::w)).length=7:=by rw [hll,hw]
    (have FX:=And.intro hll (And.intro hal hx0);repeat'(first|(refine sx ?_ ?_<;>intro h<;>first|(exfalso;omega)|skip)|(refine g_op ?_;refine g_call ?_;refine g_args ?_;(first|refine s_fn (hct _) ?_)<;>try first|omega|assumption)|refine ny ?_|refine WA_block ?_))
    all_goals(try(exfalso;omega))
    refine WA_whileT (σ:=Nat×List Int) (L:=lend m) [2,4,5,6] (rlS forceT w) rlE (fun z=>z.1≤6∧numsP 10 (w.take z.1)=some z.2) (fun z=>6 - z.1) (0,[]) ⟨by decide,rfl⟩ (by simp only [rlS,List.map_cons,List.map_nil,TV.inst];exact tv_) rfl (by decide) (fun _ _=>rfl) (fun _ _=>rfl) ?_
    rintro⟨i,l⟩ ⟨hi,hl⟩ B ⟨D,hB⟩ K hK
    dsimp only at hi hl
    have hli:l.length=i:=by rw [numsP_len hl,List.length_take];omega
    have hgw:∀ k,k<6→(xsV (forceT::w))[k+1]?=some [.str (w.getD k [])]:=fun k hk=>xsV_get (ws:=w) (i:=k) (by omega)
    have hwm:∀ k,k<6→(w.getD k []).length≤1000:=fun k hk=>by
      have:=hcm (w.getD k []) (List.mem_cons_of_mem _ (by rw [List.getD_eq_getElem?_getD,List.getElem?_eq_getElem (by omega)];exact List.getElem_mem _))
      omega
    rcases Nat.lt_or_ge i 6 with hlt|hge
    · have hgi:=hgw i hlt
      have hwl:=hwm i hlt
      have hno:=numsP_none (d:=10) (ws:=w) (i:=i) (by omega)
      have hsn:=take_snocT (ws:=w) (i:=i) (by omega)
      have hye:∀ n,numP 10 (w.getD i [])=some n→numsP 10 (w.take (i+1))=some (l++[n]):=fun n hn=>by
        rw [hsn,numsP_app,hl]
        simp only [Option.bind_some,numsP,hn,Option.map_some]
      generalize w.getD i []=u at *
      clear hsn hgw hwm hcm hct
      obtain rfl|rfl|rfl|rfl|rfl|rfl:i=0∨i=1∨i=2∨i=3∨i=4∨i=5:=by omega
      · obtain rfl:l=[]:=List.length_eq_zero_iff.1 hli
        have hgj:(xsV (forceT::w))[1]?=some [.str u]:=hgi
        simp only [rlS,rlE,List.getD_cons_zero,List.getD_cons_succ,List.getD_nil,show((0:Nat):Int)=0 from rfl]
        simp only [List.map_cons,List.map_nil,TB.inst,TV.inst,tv_map,zipT,List.cons_append,List.nil_append,Nat.add_zero]
        (have FX:=And.intro hll hgj;repeat'(first|(refine sx ?_ ?_<;>intro h<;>first|(exfalso;omega)|skip)|refine ny ?_|refine WA_block ?_))
        all_goals(try(exfalso;omega))
        refine g_op ?_;refine g_call ?_;refine g_args ?_;refine s_fnA (bnum_c u 10 (by decide) (by omega) _) ?_
        rintro v mo ⟨rfl,n,rfl,hn⟩
        simp only [Option.getD_none]
        obtain⟨wn,hy⟩:∃ wn,numP 10 u=wn:=⟨_,rfl⟩
        rw [hy] at hn ⊢
        rcases wn with _|wn
        all_goals simp only [Option.isSome,decide_true,decide_false,Bool.false_eq_true]
        all_goals(have FX:=And.intro hll hgj;repeat'(first|(refine sx ?_ ?_<;>intro h<;>first|(exfalso;omega)|skip)|refine ny ?_|refine WA_block ?_))
        · rw [lineF_num hc (hno hy)] at hQ
          exact r_esA hQ (v':= .tup [.agg [.int .i64 0,.int .i64 0,.int .i64 0,.int .i64 0,.int .i64 0,.int .i64 0],.bool false]) (.inl ⟨rfl,rfl,⟨0,0,0,0,0,0⟩,rfl,fun q hq=>by cases hq⟩)
        · obtain rfl:=hn _ rfl
          have hnx:=fun(_:Unit)=>hK (1,[n])
          (refine nextU_ hnx (()) [0,1] (⟨by dsimp only;decide,hye n hy⟩) (by dsimp only;decide) ?_ (ht:=?_);(focus (simp only [rlE,List.cons_append,List.nil_append,List.getD_cons_zero,List.getD_cons_succ,List.getD_nil,List.map_cons,List.map_nil,TB.inst,TV.inst,tv_map,List.cons_append,List.nil_append];first|rfl|(simp [ptsV,ptV];done)|(simp [hpsV,hpV];done)|(simp [frsV,frV];done)|(simp [txV];done)|(simp [prtsV,prtV];done)));(simp only [rlS,List.map_cons,List.map_nil,TV.inst,List.getD_cons_zero,List.getD_cons_succ];exact tv_))
      · obtain⟨a,rfl⟩:∃ a,l=[a]:=by
          rcases l with _|⟨a,_|⟨b,l⟩⟩<;>simp at hli
          exact⟨_,rfl⟩
        have hgj:(xsV (forceT::w))[2]?=some [.str u]:=hgi
        simp only [rlS,rlE,List.getD_cons_zero,List.getD_cons_succ,List.getD_nil,show((1:Nat):Int)=1 from rfl]
        simp only [List.map_cons,List.map_nil,TB.inst,TV.inst,tv_map,zipT,List.cons_append,List.nil_append,Nat.add_zero]
        (have FX:=And.intro hll hgj;repeat'(first|(refine sx ?_ ?_<;>intro h<;>first|(exfalso;omega)|skip)|refine ny ?_|refine WA_block ?_))
        all_goals(try(exfalso;omega))
        refine g_op ?_;refine g_call ?_;refine g_args ?_;refine s_fnA (bnum_c u 10 (by decide) (by omega) _) ?_
        rintro v mo ⟨rfl,n,rfl,hn⟩
        simp only [Option.getD_none]
        obtain⟨wn,hy⟩:∃ wn,numP 10 u=wn:=⟨_,rfl⟩
        rw [hy] at hn ⊢
        rcases wn with _|wn
        all_goals simp only [Option.isSome,decide_true,decide_false,Bool.false_eq_true]
        all_goals(have FX:=And.intro hll hgj;repeat'(first|(refine sx ?_ ?_<;>intro h<;>first|(exfalso;omega)|skip)|refine ny ?_|refine WA_block ?_))
        · rw [lineF_num hc (hno hy)] at hQ
          exact r_esA hQ (v':= .tup [.agg [.int .i64 a,.int .i64 0,.int .i64 0,.int .i64 0,.int .i64 0,.int .i64 0],.bool false]) (.inl ⟨rfl,rfl,⟨a,0,0,0,0,0⟩,rfl,fun q hq=>by cases hq⟩)
        · obtain rfl:=hn _ rfl
          have hnx:=fun(_:Unit)=>hK (2,[a,n])
          (refine nextU_ hnx (()) [0,1] (⟨by dsimp only;decide,hye n hy⟩) (by dsimp only;decide) ?_ (ht:=?_);(focus (simp only [rlE,List.cons_append,List.nil_append,List.getD_cons_zero,List.getD_cons_succ,List.getD_nil,List.map_cons,List.map_nil,TB.inst,TV.inst,tv_map,List.cons_append,List.nil_append];first|rfl|(simp [ptsV,ptV];done)|(simp [hpsV,hpV];done)|(simp [frsV,frV];done)|(simp [txV];done)|(simp [prtsV,prtV];done)));(simp only [rlS,List.map_cons,List.map_nil,TV.inst,List.getD_cons_zero,List.getD_cons_succ];exact tv_))
      · obtain⟨a,b,rfl⟩:∃ a b,l=[a,b]:=by
          rcases l with _|⟨a,_|⟨b,_|⟨c,l⟩⟩⟩<;>simp at hli
          exact⟨_,_,rfl⟩
        have hgj:(xsV (forceT::w))[3]?=some [.str u]:=hgi
        simp only [rlS,rlE,List.getD_cons_zero,List.getD_cons_succ,List.getD_nil,show((2:Nat):Int)=2 from rfl]
        simp only [List.map_cons,List.map_nil,TB.inst,TV.inst,tv_map,zipT,List.cons_append,List.nil_append,Nat.add_zero]
        (have FX:=And.intro hll hgj;repeat'(first|(refine sx ?_ ?_<;>intro h<;>first|(exfalso;omega)|skip)|refine ny ?_|refine WA_block ?_))
        all_goals(try(exfalso;omega))
        refine g_op ?_;refine g_call ?_;refine g_args ?_;refine s_fnA (bnum_c u 10 (by decide) (by omega) _) ?_
        rintro v mo ⟨rfl,n,rfl,hn⟩
        simp only [Option.getD_none]
        obtain⟨wn,hy⟩:∃ wn,numP 10 u=wn:=⟨_,rfl⟩
        rw [hy] at hn ⊢
        rcases wn with _|wn
        all_goals simp only [Option.isSome,decide_true,decide_false,Bool.false_eq_true]
        all_goals(have FX:=And.intro hll hgj;repeat'(first|(refine sx ?_ ?_<;>intro h<;>first|(exfalso;omega)|skip)|refine ny ?_|refine WA_block ?_))
        · rw [lineF_num hc (hno hy)] at hQ
          exact r_esA hQ (v':= .tup [.agg [.int .i64 a,.int .i64 b,.int .i64 0,.int .i64 0,.int .i64 0,.int .i64 0],.bool false]) (.inl ⟨rfl,rfl,⟨a,b,0,0,0,0⟩,rfl,fun q hq=>by cases hq⟩)
        · obtain rfl:=hn _ rfl
          have hnx:=fun(_:Unit)=>hK (3,[a,b,n])
          (refine nextU_ hnx (()) [0,1] (⟨by dsimp only;decide,hye n hy⟩) (by dsimp only;decide) ?_ (ht:=?_);(focus (simp only [rlE,List.cons_append,List.nil_append,List.getD_cons_zero,List.getD_cons_succ,List.getD_nil,List.map_cons,List.map_nil,TB.inst,TV.inst,tv_map,List.cons_append,List.nil_append];first|rfl|(simp [ptsV,ptV];done)|(simp [hpsV,hpV];done)|(simp [frsV,frV];done)|(simp [txV];done)|(simp [prtsV,prtV];done)));(simp only [rlS,List.map_cons,List.map_nil,TV.inst,List.getD_cons_zero,List.getD_cons_succ];exact tv_))
      · obtain⟨a,b,c,rfl⟩:∃ a b c,l=[a,b,c]:=by
          rcases l with _|⟨a,_|⟨b,_|⟨c,_|⟨x,l⟩⟩⟩⟩<;>simp at hli
          exact⟨_,_,_,rfl⟩
        have hgj:(xsV (forceT::w))[4]?=some [.str u]:=hgi
        have hsb:(3:Int) - 3=0:=rfl
        simp only [rlS,rlE,List.getD_cons_zero,List.getD_cons_succ,List.getD_nil,show((3:Nat):Int)=3 from rfl]
        simp only [List.map_cons,List.map_nil,TB.inst,TV.inst,tv_map,zipT,List.cons_append,List.nil_append,Nat.add_zero]
        (have FX:=And.intro hll (And.intro hgj hsb);repeat'(first|(refine sx ?_ ?_<;>intro h<;>first|(exfalso;omega)|skip)|refine ny ?_|refine WA_block ?_))
        all_goals(try(exfalso;omega))
        refine g_op ?_;refine g_call ?_;refine g_args ?_;refine s_fnA (bnum_c u 10 (by decide) (by omega) _) ?_
        rintro v mo ⟨rfl,n,rfl,hn⟩
        simp only [Option.getD_none]
        obtain⟨wn,hy⟩:∃ wn,numP 10 u=wn:=⟨_,rfl⟩
        rw [hy] at hn ⊢
        rcases wn with _|wn
        all_goals simp only [Option.isSome,decide_true,decide_false,Bool.false_eq_true]
        all_goals(have FX:=And.intro hll (And.intro hgj hsb);repeat'(first|(refine sx ?_ ?_<;>intro h<;>first|(exfalso;omega)|skip)|refine ny ?_|refine WA_block ?_))
        · rw [lineF_num hc (hno hy)] at hQ
          exact r_esA hQ (v':= .tup [.agg [.int .i64 a,.int .i64 b,.int .i64 c,.int .i64 0,.int .i64 0,.int .i64 0],.bool false]) (.inl ⟨rfl,rfl,⟨a,b,c,0,0,0⟩,rfl,fun q hq=>by cases hq⟩)
        · obtain rfl:=hn _ rfl
          have hnx:=fun(_:Unit)=>hK (4,[a,b,c,n])
          (refine nextU_ hnx (()) [0,1] (⟨by dsimp only;decide,hye n hy⟩) (by dsimp only;decide) ?_ (ht:=?_);(focus (simp only [rlE,List.cons_append,List.nil_append,List.getD_cons_zero,List.getD_cons_succ,List.getD_nil,List.map_cons,List.map_nil,TB.inst,TV.inst,tv_map,List.cons_append,List.nil_append];first|rfl|(simp [ptsV,ptV];done)|(simp [hpsV,hpV];done)|(simp [frsV,frV];done)|(simp [txV];done)|(simp [prtsV,prtV];done)));(simp only [rlS,List.map_cons,List.map_nil,TV.inst,List.getD_cons_zero,List.getD_cons_succ];exact tv_))
      · obtain⟨a,b,c,x,rfl⟩:∃ a b c x,l=[a,b,c,x]:=by
          rcases l with _|⟨a,_|⟨b,_|⟨c,_|⟨x,_|⟨y,l⟩⟩⟩⟩⟩<;>simp at hli
          exact⟨_,_,_,_,rfl⟩
        have hgj:(xsV (forceT::w))[5]?=some [.str u]:=hgi
        have hsb:(4:Int) - 3=1:=rfl
        simp only [rlS,rlE,List.getD_cons_zero,List.getD_cons_succ,List.getD_nil,show((4:Nat):Int)=4 from rfl]
        simp only [List.map_cons,List.map_nil,TB.inst,TV.inst,tv_map,zipT,List.cons_append,List.nil_append,Nat.add_zero]
        (have FX:=And.intro hll (And.intro hgj hsb);repeat'(first|(refine sx ?_ ?_<;>intro h<;>first|(exfalso;omega)|skip)|refine ny ?_|refine WA_block ?_))
        all_goals(try(exfalso;omega))
        refine g_op ?_;refine g_call ?_;refine g_args ?_;refine s_fnA (bnum_c u 10 (by decide) (by omega) _) ?_
        rintro v mo ⟨rfl,n,rfl,hn⟩
        simp only [Option.getD_none]
        obtain⟨wn,hy⟩:∃ wn,numP 10 u=wn:=⟨_,rfl⟩
        rw [hy] at hn ⊢
        rcases wn with _|wn
        all_goals simp only [Option.isSome,decide_true,decide_false,Bool.false_eq_true]
        all_goals(have FX:=And.intro hll (And.intro hgj hsb);repeat'(first|(refine sx ?_ ?_<;>intro h<;>first|(exfalso;omega)|skip)|refine ny ?_|refine WA_block ?_))
        · rw [lineF_num hc (hno hy)] at hQ
          exact r_esA hQ (v':= .tup [.agg [.int .i64 a,.int .i64 b,.int .i64 c,.int .i64 x,.int .i64 0,.int .i64 0],.bool false]) (.inl ⟨rfl,rfl,⟨a,b,c,x,0,0⟩,rfl,fun q hq=>by cases hq⟩)
        · obtain rfl:=hn _ rfl
          have hnx:=fun(_:Unit)=>hK (5,[a,b,c,x,n])
          (refine nextU_ hnx (()) [0,1] (⟨by dsimp only;decide,hye n hy⟩) (by dsimp only;decide) ?_ (ht:=?_);(focus (simp only [rlE,List.cons_append,List.nil_append,List.getD_cons_zero,List.getD_cons_succ,List.getD_nil,List.map_cons,List.map_nil,TB.inst,TV.inst,tv_map,List.cons_append,List.nil_append];first|rfl|(simp [ptsV,ptV];done)|(simp [hpsV,hpV];done)|(simp [frsV,frV];done)|(simp [txV];done)|(simp [prtsV,prtV];done)));(simp only [rlS,List.map_cons,List.map_nil,TV.inst,List.getD_cons_zero,List.getD_cons_succ];exact tv_))
      · obtain⟨a,b,c,x,y,rfl⟩:∃ a b c x y,l=[a,b,c,x,y]:=by
          rcases l with _|⟨a,_|⟨b,_|⟨c,_|⟨x,_|⟨y,_|⟨z,l⟩⟩⟩⟩⟩⟩<;>simp at hli
          exact⟨_,_,_,_,_,rfl⟩
        have hgj:(xsV (forceT::w))[6]?=some [.str u]:=hgi
        have hsb:(5:Int) - 3=2:=rfl
        simp only [rlS,rlE,List.getD_cons_zero,List.getD_cons_succ,List.getD_nil,show((5:Nat):Int)=5 from rfl]
        simp only [List.map_cons,List.map_nil,TB.inst,TV.inst,tv_map,zipT,List.cons_append,List.nil_append,Nat.add_zero]
        (have FX:=And.intro hll (And.intro hgj hsb);repeat'(first|(refine sx ?_ ?_<;>intro h<;>first|(exfalso;omega)|skip)|refine ny ?_|refine WA_block ?_))
        all_goals(try(exfalso;omega))
        refine g_op ?_;refine g_call ?_;refine g_args ?_;refine s_fnA (bnum_c u 10 (by decide) (by omega) _) ?_
        rintro v mo ⟨rfl,n,rfl,hn⟩
        simp only [Option.getD_none]
        obtain⟨wn,hy⟩:∃ wn,numP 10 u=wn:=⟨_,rfl⟩
        rw [hy] at hn ⊢
        rcases wn with _|wn
        all_goals simp only [Option.isSome,decide_true,decide_false,Bool.false_eq_true]
        all_goals(have FX:=And.intro hll (And.intro hgj hsb);repeat'(first|(refine sx ?_ ?_<;>intro h<;>first|(exfalso;omega)|skip)|refine ny ?_|refine WA_block ?_))
        · rw [lineF_num hc (hno hy)] at hQ
          exact r_esA hQ (v':= .tup [.agg [.int .i64 a,.int .i64 b,.int .i64 c,.int .i64 x,.int .i64 y,.int .i64 0],.bool false]) (.inl ⟨rfl,rfl,⟨a,b,c,x,y,0⟩,rfl,fun q hq=>by cases hq⟩)
        · obtain rfl:=hn _ rfl
          have hnx:=fun(_:Unit)=>hK (6,[a,b,c,x,y,n])
          (refine nextU_ hnx (()) [0,1] (⟨by dsimp only;decide,hye n hy⟩) (by dsimp only;decide) ?_ (ht:=?_);(focus (simp only [rlE,List.cons_append,List.nil_append,List.getD_cons_zero,List.getD_cons_succ,List.getD_nil,List.map_cons,List.map_nil,TB.inst,TV.inst,tv_map,List.cons_append,List.nil_append];first|rfl|(simp [ptsV,ptV];done)|(simp [hpsV,hpV];done)|(simp [frsV,frV];done)|(simp [txV];done)|(simp [prtsV,prtV];done)));(simp only [rlS,List.map_cons,List.map_nil,TV.inst,List.getD_cons_zero,List.getD_cons_succ];exact tv_))
    · obtain rfl:i=6:=by omega
      obtain⟨a,b,c,x,y,z,rfl⟩:∃ a b c x y z,l=[a,b,c,x,y,z]:=by
        rcases l with _|⟨a,_|⟨b,_|⟨c,_|⟨x,_|⟨y,_|⟨z,_|⟨z',l⟩⟩⟩⟩⟩⟩⟩<;>simp at hli
        exact⟨_,_,_,_,_,_,rfl⟩
      rw [List.take_of_length_le (by omega)] at hl
      rw [lineF_some hc hl] at hQ
      clear hK
      simp only [rlS,rlE,List.getD_cons_zero,List.getD_cons_succ]
      simp only [List.map_cons,List.map_nil,TB.inst,TV.inst,tv_map,zipT,List.cons_append,List.nil_append,Nat.add_zero]
      (have FX:=hll;repeat'(first|(refine sx ?_ ?_<;>intro h<;>first|(exfalso;omega)|skip)|refine ny ?_|refine WA_block ?_))
      exact r_esA hQ (v':= .tup [.agg [.int .i64 a,.int .i64 b,.int .i64 c,.int .i64 x,.int .i64 y,.int .i64 z],.bool true]) (.inl ⟨rfl,rfl,⟨a,b,c,x,y,z⟩,rfl,fun q hq=>(Option.some.inj hq).symm⟩)
  · rw [lineF_none hc h] at hQ
    have hoo:¬ (o=[102,111,114,99,101]∧w.length=6):=h
    clear h
    (have FX:=And.intro hll (And.intro hal hx0);repeat'(first|(refine sx ?_ ?_<;>intro h<;>first|(exfalso;omega)|skip)|(refine g_op ?_;refine g_call ?_;refine g_args ?_;(first|refine s_fn (hct _) ?_)<;>try first|omega|assumption)|refine ny ?_|refine WA_block ?_))
    all_goals(try(exfalso;first|omega|exact hoo ⟨by assumption,by omega⟩))
    all_goals exact r_esA hQ (v':= .tup [.agg [.int .i64 0,.int .i64 0,.int .i64 0,.int .i64 0,.int .i64 0,.int .i64 0],.bool false]) (.inl ⟨rfl,rfl,⟨0,0,0,0,0,0⟩,rfl,fun q hq=>by cases hq⟩)
end Go.Proofs.YtjonlmpjdhoogaaGreatDoor
