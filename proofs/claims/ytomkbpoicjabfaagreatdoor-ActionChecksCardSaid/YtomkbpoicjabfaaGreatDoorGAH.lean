import Derived.Test.YtomkbpoicjabfaaGreatDoorGAD
import Derived.Test.YtomkbpoicjabfaaGreatDoorGAG
set_option linter.unusedSimpArgs false
set_option linter.unusedVariables false
/- contracts: parts and events by their names -/
namespace Go.Proofs.YtomkbpoicjabfaaGreatDoor
open Go.RowKit
attribute [local irreducible] WA WOs WDs WAn qThen qBlock tput
set_option maxHeartbeats 1000000
set_option maxRecDepth 20000
set_option linter.unusedSimpArgs false
set_option linter.unusedVariables false
theorem lend_at_last(M:Mem)(b:Blk):(lend M++[b])[(lend M).length]?=some b:=by simp
def lSta:Sta→Sta
  | .ro=> .ro
  |_=> .lent
theorem lend_get2{M:Mem}{k:Nat}{st:Sta}{ty sz:Nat}{es:List (List V)}(h:M[k]?=some (.cells st ty sz es))(X:Mem):(lend M++X)[k]?=some (.cells (lSta st) ty sz es):=by
  have hlt:k<(lend M).length:=by
    have:=(List.getElem?_eq_some_iff.1 h).1
    simpa [lend] using this
  rw [List.getElem?_append_left hlt]
  simp only [lend,List.getElem?_map,h,Option.map_some]
  cases st<;>rfl

theorem afind1_c(p:PartR)(s:List UInt8)(M:Mem)(k:Nat)(st:Sta)(hk:M[k]?=some (.cells st 9 1 [[.str s]])):Gives Tryz.prog 74 [.agg (prtV p),.ptr k 0 0] M (.bool (isP s p)):=by
  have hkl:=lend_get2 hk
  unfold prtV
  refine Gives_in Tryz.func74 rfl Tryz.ntmps74 Tryz.results74 (by kernel_rfl) (by simp) rfl fun Q hQ=>?_
  (have FX:=hkl;repeat'(first|(refine sx ?_ ?_<;>intro h<;>first|(exfalso;omega)|skip)|refine ny ?_|refine WA_block ?_))
  all_goals((refine r_es hQ ?_;try with_reducible rfl))
  all_goals(unfold isP)
  all_goals(exact congrArg V.bool (by first|exact(decide_eq_true (by assumption)).symm|exact(decide_eq_false (by assumption)).symm))

theorem apartix_c (l:List PartR) (f:PartR→Bool) (k:Nat) (m:Mem) (hlb:l.length≤1000) (hc:∀ i,i<l.length→Gives Tryz.prog 74 [.agg (prtV (l.getD i p0)),.ptr k 0 0] (lend m++[]) (.bool (f (l.getD i p0)))):Gives Tryz.prog 73 [.lst (prtsV l),.clo (.func 74) [] [.ptr k 0 0]] m (.int .i64 (fidx f l)):=by
  have hlen:=prtsV_length (l:=l)
  have hget:=hlen
  refine Gives_in Tryz.func73 rfl Tryz.ntmps73 Tryz.results73 (by kernel_rfl) (by simp) rfl fun Q hQ=>?_
  (have FX:=And.intro hlen hget;repeat'(first|(refine sx ?_ ?_<;>intro h<;>first|(exfalso;omega)|skip)|(refine g_op ?_;refine g_call ?_;refine g_args ?_;(first|refine s_fn (hcl ()) ?_)<;>try first|omega|assumption)|(refine g_op ?_;refine g_dyn ?_;refine g_dargs ?_;first|(refine s_fn (hcl ()) ?_<;>try first|omega|assumption))|refine ny ?_|refine WA_block ?_))
  refine WA_while (σ:=Nat) [0,1,6,7,8] (fun i=>[.lst (prtsV l),.clo (.func 74) [] [.ptr k 0 0],.lst (prtsV l),.int .i64 l.length,.int .i64 i]) (fun _=>lend m++[]) (fun i=>i≤l.length∧∀ j,j<i→f (l.getD j p0)=false) (fun i=>l.length - i) 0 ⟨Nat.zero_le _,fun j h=>absurd h (Nat.not_lt_zero _)⟩ tv_ rfl ?_
  rintro i ⟨hi,hj⟩ L hL
  simp only [zipT]
  clear FX
  rcases Nat.lt_or_ge i l.length with hlt|hge
  · have hget:=prtsV_get hlt
    have hcl:=fun(_:Unit)=>hc i hlt
    unfold prtV at hcl hget
    cases hf:f (l.getD i p0) with
    | true=>
      rw [hf] at hcl
      (have FX:=And.intro hlen hget;repeat'(first|(refine sx ?_ ?_<;>intro h<;>first|(exfalso;omega)|skip)|(refine g_op ?_;refine g_call ?_;refine g_args ?_;(first|refine s_fn (hcl ()) ?_)<;>try first|omega|assumption)|(refine g_op ?_;refine g_dyn ?_;refine g_dargs ?_;first|(refine s_fn (hcl ()) ?_<;>try first|omega|assumption))|refine ny ?_|refine WA_block ?_))
      all_goals(try(exfalso;omega))
      all_goals((refine r_es hQ ?_;try with_reducible rfl))
      all_goals(exact congrArg (V.int .i64) (fidx_at hlt hj hf).symm)
    | false=>
      rw [hf] at hcl
      (have FX:=And.intro hlen hget;repeat'(first|(refine sx ?_ ?_<;>intro h<;>first|(exfalso;omega)|skip)|(refine g_op ?_;refine g_call ?_;refine g_args ?_;(first|refine s_fn (hcl ()) ?_)<;>try first|omega|assumption)|(refine g_op ?_;refine g_dyn ?_;refine g_dargs ?_;first|(refine s_fn (hcl ()) ?_<;>try first|omega|assumption))|refine ny ?_|refine WA_block ?_))
      all_goals(try(exfalso;omega))
      all_goals(refine next_ hL (i+1) ⟨by omega,fun j h=>?_⟩ (by omega))
      all_goals(rcases Nat.lt_or_ge j i with h2|h2)
      all_goals first
        |exact hj j h2
        | (obtain rfl:j=i:=by omega
           exact hf)
  · have e:i=l.length:=by omega
    subst e
    have hcl:=fun(_:Unit)=>True
    (have FX:=And.intro hlen hget;repeat'(first|(refine sx ?_ ?_<;>intro h<;>first|(exfalso;omega)|skip)|(refine g_op ?_;refine g_call ?_;refine g_args ?_;(first|refine s_fn (hcl ()) ?_)<;>try first|omega|assumption)|(refine g_op ?_;refine g_dyn ?_;refine g_dargs ?_;first|(refine s_fn (hcl ()) ?_<;>try first|omega|assumption))|refine ny ?_|refine WA_block ?_))
    all_goals(try(exfalso;omega))
    all_goals((refine r_es hQ ?_;try with_reducible rfl))
    all_goals(exact congrArg (V.int .i64) (fidx_no hj).symm)

theorem afind_c(l:List PartR)(s:List UInt8)(m:Mem)(hlb:l.length≤1000):Gives Tryz.prog 43 [.lst (prtsV l),.str s] m (.int .i64 (fidx (isP s) l)):=by
  refine Gives_in Tryz.func43 rfl Tryz.ntmps43 Tryz.results43 (by kernel_rfl) (by simp) rfl fun Q hQ=>?_
  (repeat'(first|(refine sx ?_ ?_<;>intro h<;>first|(exfalso;omega)|skip)|(refine g_op ?_;refine g_call ?_;refine g_args ?_;(first|refine s_fn (apartix_c l (isP s) _ _ hlb (fun i hi=>afind1_c _ s _ _ _ (lend_get2 (lend_at_last _ _) []))) ?_)<;>try first|omega|assumption)|refine ny ?_|refine WA_block ?_))
  all_goals try exact lend_get2 (st:= .lent) (lend_at_last _ _) []
  all_goals((refine r_es hQ ?_;try with_reducible rfl))

theorem afindev1_c(p:EvR)(s:List UInt8)(M:Mem)(k:Nat)(st:Sta)(hk:M[k]?=some (.cells st 9 1 [[.str s]])):Gives Tryz.prog 72 [.agg (evV p),.ptr k 0 0] M (.bool (isE s p)):=by
  have hkl:=lend_get2 hk
  unfold evV
  refine Gives_in Tryz.func72 rfl Tryz.ntmps72 Tryz.results72 (by kernel_rfl) (by simp) rfl fun Q hQ=>?_
  (have FX:=hkl;repeat'(first|(refine sx ?_ ?_<;>intro h<;>first|(exfalso;omega)|skip)|refine ny ?_|refine WA_block ?_))
  all_goals((refine r_es hQ ?_;try with_reducible rfl))
  all_goals(unfold isE)
  all_goals(exact congrArg V.bool (by first|exact(decide_eq_true (by assumption)).symm|exact(decide_eq_false (by assumption)).symm))

theorem aevix_c (l:List EvR) (f:EvR→Bool) (k:Nat) (m:Mem) (hlb:l.length≤1000) (hc:∀ i,i<l.length→Gives Tryz.prog 72 [.agg (evV (l.getD i e0)),.ptr k 0 0] (lend m++[]) (.bool (f (l.getD i e0)))):Gives Tryz.prog 71 [.lst (evsV l),.clo (.func 72) [] [.ptr k 0 0]] m (.int .i64 (fidx f l)):=by
  have hlen:=evsV_length (l:=l)
  have hget:=hlen
  refine Gives_in Tryz.func71 rfl Tryz.ntmps71 Tryz.results71 (by kernel_rfl) (by simp) rfl fun Q hQ=>?_
  (have FX:=And.intro hlen hget;repeat'(first|(refine sx ?_ ?_<;>intro h<;>first|(exfalso;omega)|skip)|(refine g_op ?_;refine g_call ?_;refine g_args ?_;(first|refine s_fn (hcl ()) ?_)<;>try first|omega|assumption)|(refine g_op ?_;refine g_dyn ?_;refine g_dargs ?_;first|(refine s_fn (hcl ()) ?_<;>try first|omega|assumption))|refine ny ?_|refine WA_block ?_))
  refine WA_while (σ:=Nat) [0,1,6,7,8] (fun i=>[.lst (evsV l),.clo (.func 72) [] [.ptr k 0 0],.lst (evsV l),.int .i64 l.length,.int .i64 i]) (fun _=>lend m++[]) (fun i=>i≤l.length∧∀ j,j<i→f (l.getD j e0)=false) (fun i=>l.length - i) 0 ⟨Nat.zero_le _,fun j h=>absurd h (Nat.not_lt_zero _)⟩ tv_ rfl ?_
  rintro i ⟨hi,hj⟩ L hL
  simp only [zipT]
  clear FX
  rcases Nat.lt_or_ge i l.length with hlt|hge
  · have hget:=evsV_get hlt
    have hcl:=fun(_:Unit)=>hc i hlt
    unfold evV at hcl hget
    cases hf:f (l.getD i e0) with
    | true=>
      rw [hf] at hcl
      (have FX:=And.intro hlen hget;repeat'(first|(refine sx ?_ ?_<;>intro h<;>first|(exfalso;omega)|skip)|(refine g_op ?_;refine g_call ?_;refine g_args ?_;(first|refine s_fn (hcl ()) ?_)<;>try first|omega|assumption)|(refine g_op ?_;refine g_dyn ?_;refine g_dargs ?_;first|(refine s_fn (hcl ()) ?_<;>try first|omega|assumption))|refine ny ?_|refine WA_block ?_))
      all_goals(try(exfalso;omega))
      all_goals((refine r_es hQ ?_;try with_reducible rfl))
      all_goals(exact congrArg (V.int .i64) (fidx_at hlt hj hf).symm)
    | false=>
      rw [hf] at hcl
      (have FX:=And.intro hlen hget;repeat'(first|(refine sx ?_ ?_<;>intro h<;>first|(exfalso;omega)|skip)|(refine g_op ?_;refine g_call ?_;refine g_args ?_;(first|refine s_fn (hcl ()) ?_)<;>try first|omega|assumption)|(refine g_op ?_;refine g_dyn ?_;refine g_dargs ?_;first|(refine s_fn (hcl ()) ?_<;>try first|omega|assumption))|refine ny ?_|refine WA_block ?_))
      all_goals(try(exfalso;omega))
      all_goals(refine next_ hL (i+1) ⟨by omega,fun j h=>?_⟩ (by omega))
      all_goals(rcases Nat.lt_or_ge j i with h2|h2)
      all_goals first
        |exact hj j h2
        | (obtain rfl:j=i:=by omega
           exact hf)
  · have e:i=l.length:=by omega
    subst e
    have hcl:=fun(_:Unit)=>True
    (have FX:=And.intro hlen hget;repeat'(first|(refine sx ?_ ?_<;>intro h<;>first|(exfalso;omega)|skip)|(refine g_op ?_;refine g_call ?_;refine g_args ?_;(first|refine s_fn (hcl ()) ?_)<;>try first|omega|assumption)|(refine g_op ?_;refine g_dyn ?_;refine g_dargs ?_;first|(refine s_fn (hcl ()) ?_<;>try first|omega|assumption))|refine ny ?_|refine WA_block ?_))
    all_goals(try(exfalso;omega))
    all_goals((refine r_es hQ ?_;try with_reducible rfl))
    all_goals(exact congrArg (V.int .i64) (fidx_no hj).symm)

theorem afindev_c(l:List EvR)(s:List UInt8)(m:Mem)(hlb:l.length≤1000):Gives Tryz.prog 42 [.lst (evsV l),.str s] m (.int .i64 (fidx (isE s) l)):=by
  refine Gives_in Tryz.func42 rfl Tryz.ntmps42 Tryz.results42 (by kernel_rfl) (by simp) rfl fun Q hQ=>?_
  (repeat'(first|(refine sx ?_ ?_<;>intro h<;>first|(exfalso;omega)|skip)|(refine g_op ?_;refine g_call ?_;refine g_args ?_;(first|refine s_fn (aevix_c l (isE s) _ _ hlb (fun i hi=>afindev1_c _ s _ _ _ (lend_get2 (lend_at_last _ _) []))) ?_)<;>try first|omega|assumption)|refine ny ?_|refine WA_block ?_))
  all_goals try exact lend_get2 (st:= .lent) (lend_at_last _ _) []
  all_goals((refine r_es hQ ?_;try with_reducible rfl))
theorem uC17_70_10{N:Nat}{l:List Oper}{t:List (Nat×V)}{m:Mem}{Q:Exit→List (Nat×V)→Mem→Prop}(h:RgN Tryz.prog N l t m Q (fun i=>if i==5 || i==12 then .q else .p) [.one 0,.one 1,.one 2,.one 3,.one 4,.one 5,.one 6,.one 7,.one 8,.one 9,.one 10,.one 11,.one 12,.one 13,.one 14,.one 15]):WA Tryz.prog N (.region 10 l.toArray true) t m Q:=d_rgN h
theorem acheckknees_c (l:List Rk) (m:Mem):Gives Tryz.prog 70 [.lst (rksV l)] m (.int .i64 (knErr l)):=by
  have hla:=rksV_length (l:=l)
  have hga:=hla
  have hgb:=hla
  have hti:=hla
  by_cases hn:1≤l.length∧l.length≤12
  · refine Gives_in Tryz.func70 rfl Tryz.ntmps70 Tryz.results70 (by kernel_rfl) (by simp) rfl fun Q hQ=>?_
    (have FX:=And.intro hla (And.intro hga (And.intro hgb hti));repeat'(first|(refine sx ?_ ?_<;>intro h<;>first|(exfalso;omega)|skip)|(refine g_op ?_;refine g_call ?_;refine g_args ?_;(first|refine s_fn (awithin_c _ _ _ _) ?_)<;>try first|omega|assumption)|refine ny ?_|refine WA_block ?_|(refine uC17_70_10 ?_;refine⟨by kernel_rfl,?_⟩)|((first|refine grp_cons (fun _=>awithin_c _ _ _ _) ?_)<;>try first|omega|assumption)|(refine g_d ?_;refine d_args ?_;(first|refine d_fn (awithin_c _ _ _ _) ?_|refine d_fnQ (fun _=>awithin_c _ _ _ _) ?_)<;>try first|omega|assumption)|(refine g_d ?_;(first|refine d_fnY (awithin_c _ _ _ _) ?_)<;>try first|omega|assumption)))
    all_goals(try(exfalso;omega))
    refine WA_whileK (σ:=Nat) [0,9,10,11] (fun i=>[.lst (rksV l),.lst (rksV l),.int .i64 l.length,.int .i64 i]) (fun _=>[]) 0 (fun i=>i≤l.length∧∀ j,j<i→knErrAt l j=0) (fun i=>l.length - i) 0 ⟨Nat.zero_le _,fun j h=>absurd h (Nat.not_lt_zero _)⟩ tv_ rfl (fun _=>rfl) (by intro s s' _ _;simp [conB,conS,V.keeps,V.plain,Blk.flat,flatL,plainL,V.flat]) (by intro s s' _ _;simp [conB,conS,V.keeps,V.plain,Blk.flat,flatL,plainL,V.flat]) ?_
    rintro i ⟨hi1,hi2⟩ K hK
    simp only [zipT]
    clear FX hga hgb hti
    rcases Nat.lt_or_ge i l.length with hi|hi
    · have hga:=rksV_get hi
      have hgb:=rksV_get (l:=l) (i:=i - 1) (by omega)
      have hti:((i:Int) - 1).toNat=i - 1:=by omega
      obtain⟨⟨⟨a,b⟩,⟨c,d⟩⟩,hx⟩:∃ x,l.getD i rk0=x:=⟨_,rfl⟩
      obtain⟨⟨⟨u,u2⟩,⟨v,v2⟩⟩,hy⟩:∃ x,l.getD (i - 1) rk0=x:=⟨_,rfl⟩
      rw [hx] at hga
      rw [hy] at hgb
      dsimp only [rkV] at hga hgb
      have hat:knErrAt l i=if b≠1∨d≠1 then 3 else if ¬ (-10000≤a∧a≤10000)∨¬ (-10000≤c∧c≤10000) then 2 else if 0<i∧a≤u then 9 else 0:=by unfold knErrAt;rw [hx,hy]
      (have FX:=And.intro hla (And.intro hga (And.intro hgb hti));repeat'(first|(refine sx ?_ ?_<;>intro h<;>first|(exfalso;omega)|skip)|(refine g_op ?_;refine g_call ?_;refine g_args ?_;(first|refine s_fn (awithin_c _ _ _ _) ?_)<;>try first|omega|assumption)|refine ny ?_|refine WA_block ?_|(refine uC17_70_10 ?_;refine⟨by kernel_rfl,?_⟩)|((first|refine grp_cons (fun _=>awithin_c _ _ _ _) ?_)<;>try first|omega|assumption)|(refine g_d ?_;refine d_args ?_;(first|refine d_fn (awithin_c _ _ _ _) ?_|refine d_fnQ (fun _=>awithin_c _ _ _ _) ?_)<;>try first|omega|assumption)|(refine g_d ?_;(first|refine d_fnY (awithin_c _ _ _ _) ?_)<;>try first|omega|assumption)))
      all_goals(try(exfalso;omega))
      all_goals try
        ((refine r_es hQ ?_;try with_reducible rfl)
         exact congrArg (V.int .i64) (knErr_first hn hi hi2 (by rw [hat];(repeat (first|rw [if_pos (by first|assumption|omega|grind)]|rw [if_neg (by first|assumption|omega|grind)]))) (by decide)).symm)
      all_goals(refine nextL_ hK (i+1) ⟨hi,ext_zero hi2 (by rw [hat];(repeat (first|rw [if_pos (by first|assumption|omega|grind)]|rw [if_neg (by first|assumption|omega|grind)])))⟩ (by omega))
    · have hie:i=l.length:=by omega
      subst hie
      have hga:=hla
      have hgb:=hla
      have hti:=hla
      (have FX:=And.intro hla (And.intro hga (And.intro hgb hti));repeat'(first|(refine sx ?_ ?_<;>intro h<;>first|(exfalso;omega)|skip)|(refine g_op ?_;refine g_call ?_;refine g_args ?_;(first|refine s_fn (awithin_c _ _ _ _) ?_)<;>try first|omega|assumption)|refine ny ?_|refine WA_block ?_|(refine uC17_70_10 ?_;refine⟨by kernel_rfl,?_⟩)|((first|refine grp_cons (fun _=>awithin_c _ _ _ _) ?_)<;>try first|omega|assumption)|(refine g_d ?_;refine d_args ?_;(first|refine d_fn (awithin_c _ _ _ _) ?_|refine d_fnQ (fun _=>awithin_c _ _ _ _) ?_)<;>try first|omega|assumption)|(refine g_d ?_;(first|refine d_fnY (awithin_c _ _ _ _) ?_)<;>try first|omega|assumption)))
      all_goals(try(exfalso;omega))
      all_goals((refine r_es hQ ?_;try with_reducible rfl))
      all_goals(exact congrArg (V.int .i64) (knErr_none hn hi2).symm)
  · have h10:knErr l=10:=by unfold knErr;rw [if_pos hn]
    refine Gives_in Tryz.func70 rfl Tryz.ntmps70 Tryz.results70 (by kernel_rfl) (by simp) rfl fun Q hQ=>?_
    (have FX:=And.intro hla (And.intro hga (And.intro hgb hti));repeat'(first|(refine sx ?_ ?_<;>intro h<;>first|(exfalso;omega)|skip)|(refine g_op ?_;refine g_call ?_;refine g_args ?_;(first|refine s_fn (awithin_c _ _ _ _) ?_)<;>try first|omega|assumption)|refine ny ?_|refine WA_block ?_|(refine uC17_70_10 ?_;refine⟨by kernel_rfl,?_⟩)|((first|refine grp_cons (fun _=>awithin_c _ _ _ _) ?_)<;>try first|omega|assumption)|(refine g_d ?_;refine d_args ?_;(first|refine d_fn (awithin_c _ _ _ _) ?_|refine d_fnQ (fun _=>awithin_c _ _ _ _) ?_)<;>try first|omega|assumption)|(refine g_d ?_;(first|refine d_fnY (awithin_c _ _ _ _) ?_)<;>try first|omega|assumption)))
    all_goals(try(exfalso;omega))
    all_goals((refine r_es hQ ?_;try with_reducible rfl))
    all_goals(exact congrArg (V.int .i64) h10.symm)
theorem uC17_67_11{N:Nat}{l:List Oper}{t:List (Nat×V)}{m:Mem}{Q:Exit→List (Nat×V)→Mem→Prop}(h:RgN Tryz.prog N l t m Q (fun i=>if i==8 || i==15 then .q else .p) [.one 0,.one 1,.one 2,.one 3,.one 4,.one 5,.one 6,.one 7,.one 8,.one 9,.one 10,.one 11,.one 12,.one 13,.one 14,.one 15,.one 16,.one 17]):WA Tryz.prog N (.region 11 l.toArray true) t m Q:=d_rgN h
theorem rcheckwhole_c (l:List Rk) (m:Mem):Gives Tryz.prog 67 [.agg [.lst (rksV l)]] m (.int .i64 (knErr l)):=by
  have hla:=rksV_length (l:=l)
  have hga:=hla
  have hgb:=hla
  have hti:=hla
  by_cases hn:1≤l.length∧l.length≤12
  · refine Gives_in Tryz.func67 rfl Tryz.ntmps67 Tryz.results67 (by kernel_rfl) (by simp) rfl fun Q hQ=>?_
    (have FX:=And.intro hla (And.intro hga (And.intro hgb hti));repeat'(first|(refine sx ?_ ?_<;>intro h<;>first|(exfalso;omega)|skip)|(refine g_op ?_;refine g_call ?_;refine g_args ?_;(first|refine s_fn (bwithin_c _ _ _ _) ?_)<;>try first|omega|assumption)|refine ny ?_|refine WA_block ?_|(refine uC17_67_11 ?_;refine⟨by kernel_rfl,?_⟩)|((first|refine grp_cons (fun _=>bwithin_c _ _ _ _) ?_)<;>try first|omega|assumption)|(refine g_d ?_;refine d_args ?_;(first|refine d_fn (bwithin_c _ _ _ _) ?_|refine d_fnQ (fun _=>bwithin_c _ _ _ _) ?_)<;>try first|omega|assumption)|(refine g_d ?_;(first|refine d_fnY (bwithin_c _ _ _ _) ?_)<;>try first|omega|assumption)))
    all_goals(try(exfalso;omega))
    refine WA_whileK (σ:=Nat) [3,4] (fun i=>[.lst (rksV l),.int .i64 i]) (fun _=>[.cells .own 48 1 [[.lst (rksV l)]]]) 1 (fun i=>i≤l.length∧∀ j,j<i→knErrAt l j=0) (fun i=>l.length - i) 0 ⟨Nat.zero_le _,fun j h=>absurd h (Nat.not_lt_zero _)⟩ tv_ rfl (fun _=>rfl) (by intro s s' _ _;simp [conB,conS,V.keeps,V.plain,Blk.flat,flatL,plainL,V.flat]) (by intro s s' _ _;simp [conB,conS,V.keeps,V.plain,Blk.flat,flatL,plainL,V.flat]) ?_
    rintro i ⟨hi1,hi2⟩ K hK
    simp only [zipT]
    clear FX hga hgb hti
    rcases Nat.lt_or_ge i l.length with hi|hi
    · have hga:=rksV_get hi
      have hgb:=rksV_get (l:=l) (i:=i - 1) (by omega)
      have hti:((i:Int) - 1).toNat=i - 1:=by omega
      obtain⟨⟨⟨a,b⟩,⟨c,d⟩⟩,hx⟩:∃ x,l.getD i rk0=x:=⟨_,rfl⟩
      obtain⟨⟨⟨u,u2⟩,⟨v,v2⟩⟩,hy⟩:∃ x,l.getD (i - 1) rk0=x:=⟨_,rfl⟩
      rw [hx] at hga
      rw [hy] at hgb
      dsimp only [rkV] at hga hgb
      have hat:knErrAt l i=if b≠1∨d≠1 then 3 else if ¬ (-10000≤a∧a≤10000)∨¬ (-10000≤c∧c≤10000) then 2 else if 0<i∧a≤u then 9 else 0:=by unfold knErrAt;rw [hx,hy]
      (have FX:=And.intro hla (And.intro hga (And.intro hgb hti));repeat'(first|(refine sx ?_ ?_<;>intro h<;>first|(exfalso;omega)|skip)|(refine g_op ?_;refine g_call ?_;refine g_args ?_;(first|refine s_fn (bwithin_c _ _ _ _) ?_)<;>try first|omega|assumption)|refine ny ?_|refine WA_block ?_|(refine uC17_67_11 ?_;refine⟨by kernel_rfl,?_⟩)|((first|refine grp_cons (fun _=>bwithin_c _ _ _ _) ?_)<;>try first|omega|assumption)|(refine g_d ?_;refine d_args ?_;(first|refine d_fn (bwithin_c _ _ _ _) ?_|refine d_fnQ (fun _=>bwithin_c _ _ _ _) ?_)<;>try first|omega|assumption)|(refine g_d ?_;(first|refine d_fnY (bwithin_c _ _ _ _) ?_)<;>try first|omega|assumption)))
      all_goals(try(exfalso;omega))
      all_goals try
        ((refine r_es hQ ?_;try with_reducible rfl)
         exact congrArg (V.int .i64) (knErr_first hn hi hi2 (by rw [hat];(repeat (first|rw [if_pos (by first|assumption|omega|grind)]|rw [if_neg (by first|assumption|omega|grind)]))) (by decide)).symm)
      all_goals(refine nextL_ hK (i+1) ⟨hi,ext_zero hi2 (by rw [hat];(repeat (first|rw [if_pos (by first|assumption|omega|grind)]|rw [if_neg (by first|assumption|omega|grind)])))⟩ (by omega))
    · have hie:i=l.length:=by omega
      subst hie
      have hga:=hla
      have hgb:=hla
      have hti:=hla
      (have FX:=And.intro hla (And.intro hga (And.intro hgb hti));repeat'(first|(refine sx ?_ ?_<;>intro h<;>first|(exfalso;omega)|skip)|(refine g_op ?_;refine g_call ?_;refine g_args ?_;(first|refine s_fn (bwithin_c _ _ _ _) ?_)<;>try first|omega|assumption)|refine ny ?_|refine WA_block ?_|(refine uC17_67_11 ?_;refine⟨by kernel_rfl,?_⟩)|((first|refine grp_cons (fun _=>bwithin_c _ _ _ _) ?_)<;>try first|omega|assumption)|(refine g_d ?_;refine d_args ?_;(first|refine d_fn (bwithin_c _ _ _ _) ?_|refine d_fnQ (fun _=>bwithin_c _ _ _ _) ?_)<;>try first|omega|assumption)|(refine g_d ?_;(first|refine d_fnY (bwithin_c _ _ _ _) ?_)<;>try first|omega|assumption)))
      all_goals(try(exfalso;omega))
      all_goals((refine r_es hQ ?_;try with_reducible rfl))
      all_goals(exact congrArg (V.int .i64) (knErr_none hn hi2).symm)
  · have h10:knErr l=10:=by unfold knErr;rw [if_pos hn]
    refine Gives_in Tryz.func67 rfl Tryz.ntmps67 Tryz.results67 (by kernel_rfl) (by simp) rfl fun Q hQ=>?_
    (have FX:=And.intro hla (And.intro hga (And.intro hgb hti));repeat'(first|(refine sx ?_ ?_<;>intro h<;>first|(exfalso;omega)|skip)|(refine g_op ?_;refine g_call ?_;refine g_args ?_;(first|refine s_fn (bwithin_c _ _ _ _) ?_)<;>try first|omega|assumption)|refine ny ?_|refine WA_block ?_|(refine uC17_67_11 ?_;refine⟨by kernel_rfl,?_⟩)|((first|refine grp_cons (fun _=>bwithin_c _ _ _ _) ?_)<;>try first|omega|assumption)|(refine g_d ?_;refine d_args ?_;(first|refine d_fn (bwithin_c _ _ _ _) ?_|refine d_fnQ (fun _=>bwithin_c _ _ _ _) ?_)<;>try first|omega|assumption)|(refine g_d ?_;(first|refine d_fnY (bwithin_c _ _ _ _) ?_)<;>try first|omega|assumption)))
    all_goals(try(exfalso;omega))
    all_goals((refine r_es hQ ?_;try with_reducible rfl))
    all_goals(exact congrArg (V.int .i64) h10.symm)
end Go.Proofs.YtomkbpoicjabfaaGreatDoor
