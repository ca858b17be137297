import Derived.Test.YtnablpehkeicmaaGreatGAR
set_option linter.unusedSimpArgs false
set_option linter.unusedVariables false
/- contracts: parts and events by their names -/
namespace Go.Proofs.YtnablpehkeicmaaGreat
open Go.RowKit
attribute [local irreducible] WA WOs WDs WAn qThen qBlock tput
set_option maxHeartbeats 1000000
set_option maxRecDepth 20000
set_option linter.unusedSimpArgs false
set_option linter.unusedVariables false
theorem lend_at_last(M:Mem)(b:Blk):(lend M++[b])[(lend M).length]?=some b:=by simp
def lStaA:Sta→Sta
  | .ro=> .ro
  |_=> .lent
theorem lend_get2A{M:Mem}{k:Nat}{st:Sta}{ty sz:Nat}{es:List (List V)}(h:M[k]?=some (.cells st ty sz es))(X:Mem):(lend M++X)[k]?=some (.cells (lStaA st) ty sz es):=by
  have hlt:k<(lend M).length:=by
    have:=(List.getElem?_eq_some_iff.1 h).1
    simpa [lend] using this
  rw [List.getElem?_append_left hlt]
  simp only [lend,List.getElem?_map,h,Option.map_some]
  cases st<;>rfl

theorem afind1_c(p:PartR)(s:List UInt8)(M:Mem)(k:Nat)(st:Sta)(hk:M[k]?=some (.cells st 9 1 [[.str s]])):Gives Tryz.prog 94 [.agg (prtV p),.ptr k 0 0] M (.bool (isP s p)):=by
  have hkl:=lend_get2A hk
  unfold prtV
  refine Gives_in Tryz.func94 rfl Tryz.ntmps94 Tryz.results94 (by kernel_rfl) (by simp) rfl fun Q hQ=>?_
  (have FX:=hkl;repeat'(first|(refine sx ?_ ?_<;>intro h<;>first|(exfalso;omega)|skip)|refine ny ?_|refine WA_block ?_))
  all_goals((refine r_es hQ ?_;try with_reducible rfl))
  all_goals(unfold isP)
  all_goals(exact congrArg V.bool (by first|exact(decide_eq_true (by assumption)).symm|exact(decide_eq_false (by assumption)).symm))

theorem apartix_c (l:List PartR) (f:PartR→Bool) (k:Nat) (m:Mem) (hlb:l.length≤1000) (hc:∀ i,i<l.length→Gives Tryz.prog 94 [.agg (prtV (l.getD i p0)),.ptr k 0 0] (lend m++[]) (.bool (f (l.getD i p0)))):Gives Tryz.prog 93 [.lst (prtsV l),.clo (.func 94) [] [.ptr k 0 0]] m (.int .i64 (fidx f l)):=by
  have hlen:=prtsV_length (l:=l)
  have hget:=hlen
  refine Gives_in Tryz.func93 rfl Tryz.ntmps93 Tryz.results93 (by kernel_rfl) (by simp) rfl fun Q hQ=>?_
  (have FX:=And.intro hlen hget;repeat'(first|(refine sx ?_ ?_<;>intro h<;>first|(exfalso;omega)|skip)|(refine na ?_;(first|refine s_fn (hcl ()) ?_)<;>try first|omega|assumption)|(refine g_op ?_;refine g_dyn ?_;refine g_dargs ?_;first|(refine s_fn (hcl ()) ?_<;>try first|omega|assumption))|refine ny ?_|refine WA_block ?_))
  refine WA_while (σ:=Nat) [0,1,6,7,8] (fun i=>[.lst (prtsV l),.clo (.func 94) [] [.ptr k 0 0],.lst (prtsV l),.int .i64 l.length,.int .i64 i]) (fun _=>lend m++[]) (fun i=>i≤l.length∧∀ j,j<i→f (l.getD j p0)=false) (fun i=>l.length - i) 0 ⟨Nat.zero_le _,fun j h=>absurd h (Nat.not_lt_zero _)⟩ tv_ rfl ?_
  rintro i ⟨hi,hj⟩ L hL
  simp only [zipT]
  clear FX
  rcases Nat.lt_or_ge i l.length with hlt|hge
  · have hget:=prtsV_get hlt
    have hcl:=fun(_:Unit)=>hc i hlt
    unfold prtV at hcl hget
    cases hf:f (l.getD i p0) with
    | true=>
      rw [hf] at hcl
      (have FX:=And.intro hlen hget;repeat'(first|(refine sx ?_ ?_<;>intro h<;>first|(exfalso;omega)|skip)|(refine na ?_;(first|refine s_fn (hcl ()) ?_)<;>try first|omega|assumption)|(refine g_op ?_;refine g_dyn ?_;refine g_dargs ?_;first|(refine s_fn (hcl ()) ?_<;>try first|omega|assumption))|refine ny ?_|refine WA_block ?_))
      all_goals(try(exfalso;omega))
      all_goals((refine r_es hQ ?_;try with_reducible rfl))
      all_goals(exact congrArg (V.int .i64) (fidx_at hlt hj hf).symm)
    | false=>
      rw [hf] at hcl
      (have FX:=And.intro hlen hget;repeat'(first|(refine sx ?_ ?_<;>intro h<;>first|(exfalso;omega)|skip)|(refine na ?_;(first|refine s_fn (hcl ()) ?_)<;>try first|omega|assumption)|(refine g_op ?_;refine g_dyn ?_;refine g_dargs ?_;first|(refine s_fn (hcl ()) ?_<;>try first|omega|assumption))|refine ny ?_|refine WA_block ?_))
      all_goals(try(exfalso;omega))
      all_goals(refine next_ hL (i+1) ⟨by omega,fun j h=>?_⟩ (by omega))
      all_goals(rcases Nat.lt_or_ge j i with h2|h2)
      all_goals first
        |exact hj j h2
        | (obtain rfl:j=i:=by omega
           exact hf)
  · have e:i=l.length:=by omega
    subst e
    have hcl:=fun(_:Unit)=>True
    (have FX:=And.intro hlen hget;repeat'(first|(refine sx ?_ ?_<;>intro h<;>first|(exfalso;omega)|skip)|(refine na ?_;(first|refine s_fn (hcl ()) ?_)<;>try first|omega|assumption)|(refine g_op ?_;refine g_dyn ?_;refine g_dargs ?_;first|(refine s_fn (hcl ()) ?_<;>try first|omega|assumption))|refine ny ?_|refine WA_block ?_))
    all_goals(try(exfalso;omega))
    all_goals((refine r_es hQ ?_;try with_reducible rfl))
    all_goals(exact congrArg (V.int .i64) (fidx_no hj).symm)

theorem afind_c(l:List PartR)(s:List UInt8)(m:Mem)(hlb:l.length≤1000):Gives Tryz.prog 73 [.lst (prtsV l),.str s] m (.int .i64 (fidx (isP s) l)):=by
  refine Gives_in Tryz.func73 rfl Tryz.ntmps73 Tryz.results73 (by kernel_rfl) (by simp) rfl fun Q hQ=>?_
  (repeat'(first|(refine sx ?_ ?_<;>intro h<;>first|(exfalso;omega)|skip)|(refine na ?_;(first|refine s_fn (apartix_c l (isP s) _ _ hlb (fun i hi=>afind1_c _ s _ _ _ (lend_get2A (lend_at_last _ _) []))) ?_)<;>try first|omega|assumption)|refine ny ?_|refine WA_block ?_))
  all_goals try exact lend_get2A (st:= .lent) (lend_at_last _ _) []
  all_goals((refine r_es hQ ?_;try with_reducible rfl))

theorem afindev1_c(p:EvR)(s:List UInt8)(M:Mem)(k:Nat)(st:Sta)(hk:M[k]?=some (.cells st 9 1 [[.str s]])):Gives Tryz.prog 76 [.agg (evV p),.ptr k 0 0] M (.bool (isE s p)):=by
  have hkl:=lend_get2A hk
  unfold evV
  refine Gives_in Tryz.func76 rfl Tryz.ntmps76 Tryz.results76 (by kernel_rfl) (by simp) rfl fun Q hQ=>?_
  (have FX:=hkl;repeat'(first|(refine sx ?_ ?_<;>intro h<;>first|(exfalso;omega)|skip)|refine ny ?_|refine WA_block ?_))
  all_goals((refine r_es hQ ?_;try with_reducible rfl))
  all_goals(unfold isE)
  all_goals(exact congrArg V.bool (by first|exact(decide_eq_true (by assumption)).symm|exact(decide_eq_false (by assumption)).symm))

theorem aevix_c (l:List EvR) (f:EvR→Bool) (k:Nat) (m:Mem) (hlb:l.length≤1000) (hc:∀ i,i<l.length→Gives Tryz.prog 76 [.agg (evV (l.getD i e0)),.ptr k 0 0] (lend m++[]) (.bool (f (l.getD i e0)))):Gives Tryz.prog 75 [.lst (evsV l),.clo (.func 76) [] [.ptr k 0 0]] m (.int .i64 (fidx f l)):=by
  have hlen:=evsV_length (l:=l)
  have hget:=hlen
  refine Gives_in Tryz.func75 rfl Tryz.ntmps75 Tryz.results75 (by kernel_rfl) (by simp) rfl fun Q hQ=>?_
  (have FX:=And.intro hlen hget;repeat'(first|(refine sx ?_ ?_<;>intro h<;>first|(exfalso;omega)|skip)|(refine na ?_;(first|refine s_fn (hcl ()) ?_)<;>try first|omega|assumption)|(refine g_op ?_;refine g_dyn ?_;refine g_dargs ?_;first|(refine s_fn (hcl ()) ?_<;>try first|omega|assumption))|refine ny ?_|refine WA_block ?_))
  refine WA_while (σ:=Nat) [0,1,6,7,8] (fun i=>[.lst (evsV l),.clo (.func 76) [] [.ptr k 0 0],.lst (evsV l),.int .i64 l.length,.int .i64 i]) (fun _=>lend m++[]) (fun i=>i≤l.length∧∀ j,j<i→f (l.getD j e0)=false) (fun i=>l.length - i) 0 ⟨Nat.zero_le _,fun j h=>absurd h (Nat.not_lt_zero _)⟩ tv_ rfl ?_
  rintro i ⟨hi,hj⟩ L hL
  simp only [zipT]
  clear FX
  rcases Nat.lt_or_ge i l.length with hlt|hge
  · have hget:=evsV_get hlt
    have hcl:=fun(_:Unit)=>hc i hlt
    unfold evV at hcl hget
    cases hf:f (l.getD i e0) with
    | true=>
      rw [hf] at hcl
      (have FX:=And.intro hlen hget;repeat'(first|(refine sx ?_ ?_<;>intro h<;>first|(exfalso;omega)|skip)|(refine na ?_;(first|refine s_fn (hcl ()) ?_)<;>try first|omega|assumption)|(refine g_op ?_;refine g_dyn ?_;refine g_dargs ?_;first|(refine s_fn (hcl ()) ?_<;>try first|omega|assumption))|refine ny ?_|refine WA_block ?_))
      all_goals(try(exfalso;omega))
      all_goals((refine r_es hQ ?_;try with_reducible rfl))
      all_goals(exact congrArg (V.int .i64) (fidx_at hlt hj hf).symm)
    | false=>
      rw [hf] at hcl
      (have FX:=And.intro hlen hget;repeat'(first|(refine sx ?_ ?_<;>intro h<;>first|(exfalso;omega)|skip)|(refine na ?_;(first|refine s_fn (hcl ()) ?_)<;>try first|omega|assumption)|(refine g_op ?_;refine g_dyn ?_;refine g_dargs ?_;first|(refine s_fn (hcl ()) ?_<;>try first|omega|assumption))|refine ny ?_|refine WA_block ?_))
      all_goals(try(exfalso;omega))
      all_goals(refine next_ hL (i+1) ⟨by omega,fun j h=>?_⟩ (by omega))
      all_goals(rcases Nat.lt_or_ge j i with h2|h2)
      all_goals first
        |exact hj j h2
        | (obtain rfl:j=i:=by omega
           exact hf)
  · have e:i=l.length:=by omega
    subst e
    have hcl:=fun(_:Unit)=>True
    (have FX:=And.intro hlen hget;repeat'(first|(refine sx ?_ ?_<;>intro h<;>first|(exfalso;omega)|skip)|(refine na ?_;(first|refine s_fn (hcl ()) ?_)<;>try first|omega|assumption)|(refine g_op ?_;refine g_dyn ?_;refine g_dargs ?_;first|(refine s_fn (hcl ()) ?_<;>try first|omega|assumption))|refine ny ?_|refine WA_block ?_))
    all_goals(try(exfalso;omega))
    all_goals((refine r_es hQ ?_;try with_reducible rfl))
    all_goals(exact congrArg (V.int .i64) (fidx_no hj).symm)

theorem afindev_c(l:List EvR)(s:List UInt8)(m:Mem)(hlb:l.length≤1000):Gives Tryz.prog 51 [.lst (evsV l),.str s] m (.int .i64 (fidx (isE s) l)):=by
  refine Gives_in Tryz.func51 rfl Tryz.ntmps51 Tryz.results51 (by kernel_rfl) (by simp) rfl fun Q hQ=>?_
  (repeat'(first|(refine sx ?_ ?_<;>intro h<;>first|(exfalso;omega)|skip)|(refine na ?_;(first|refine s_fn (aevix_c l (isE s) _ _ hlb (fun i hi=>afindev1_c _ s _ _ _ (lend_get2A (lend_at_last _ _) []))) ?_)<;>try first|omega|assumption)|refine ny ?_|refine WA_block ?_))
  all_goals try exact lend_get2A (st:= .lent) (lend_at_last _ _) []
  all_goals((refine r_es hQ ?_;try with_reducible rfl))
theorem uC17_92_10{N:Nat}{l:List Oper}{t:List (Nat×V)}{m:Mem}{Q:Exit→List (Nat×V)→Mem→Prop}(h:RgN Tryz.prog N l t m Q (fun i=>if i==5 || i==12 then .q else .p) [.one 0,.one 1,.one 2,.one 3,.one 4,.one 5,.one 6,.one 7,.one 8,.one 9,.one 10,.one 11,.one 12,.one 13,.one 14,.one 15]):WA Tryz.prog N (.region 10 l.toArray true) t m Q:=d_rgN h
theorem acheckknees_c (l:List Rk) (m:Mem):Gives Tryz.prog 92 [.lst (rksV l)] m (.int .i64 (knErr l)):=by
  have hla:=rksV_length (l:=l)
  have hga:=hla
  have hgb:=hla
  have hti:=hla
  by_cases hn:1≤l.length∧l.length≤12
  · refine Gives_in Tryz.func92 rfl Tryz.ntmps92 Tryz.results92 (by kernel_rfl) (by simp) rfl fun Q hQ=>?_
    (have FX:=fx4 hla hga hgb hti;repeat'(first|(refine sx ?_ ?_<;>intro h<;>first|(exfalso;omega)|skip)|(refine na ?_;(first|refine nb (awithin_c _ _ _) ?_)<;>try first|omega|assumption)|refine ny ?_|refine WA_block ?_|(refine uC17_92_10 ?_;refine⟨by kernel_rfl,?_⟩)|(refine g_d ?_;(first|refine d_fnY (awithin_c _ _ _ _) ?_)<;>try first|omega|assumption)))
    all_goals(try(exfalso;omega))
    refine WA_whileK (σ:=Nat) [0,9,10,11] (fun i=>[.lst (rksV l),.lst (rksV l),.int .i64 l.length,.int .i64 i]) (fun _=>[]) 0 (fun i=>i≤l.length∧∀ j,j<i→knErrAt l j=0) (fun i=>l.length - i) 0 ⟨Nat.zero_le _,fun j h=>absurd h (Nat.not_lt_zero _)⟩ tv_ rfl (fun _=>rfl) (by intro s s' _ _;simp [conB,conS,V.keeps,V.plain,Blk.flat,flatL,plainL,V.flat]) (by intro s s' _ _;simp [conB,conS,V.keeps,V.plain,Blk.flat,flatL,plainL,V.flat]) ?_
    rintro i ⟨hi1,hi2⟩ K hK
    simp only [zipT]
    clear FX hga hgb hti
    rcases Nat.lt_or_ge i l.length with hi|hi
    · have hga:=rksV_get hi
      have hgb:=rksV_get (l:=l) (i:=i - 1) (by omega)
      have hti:((i:Int) - 1).toNat=i - 1:=by omega
      obtain⟨⟨⟨a,b⟩,⟨c,d⟩⟩,hx⟩:∃ x,l.getD i rk0=x:=⟨_,rfl⟩
      obtain⟨⟨⟨u,u2⟩,⟨v,v2⟩⟩,hy⟩:∃ x,l.getD (i - 1) rk0=x:=⟨_,rfl⟩
      rw [hx] at hga
      rw [hy] at hgb
      dsimp only [rkV] at hga hgb
      have hat:knErrAt l i=if b≠1∨d≠1 then 3 else if ¬ (-10000≤a∧a≤10000)∨¬ (-10000≤c∧c≤10000) then 2 else if 0<i∧a≤u then 9 else 0:=by unfold knErrAt;rw [hx,hy]
      (have FX:=fx4 hla hga hgb hti;repeat'(first|(refine sx ?_ ?_<;>intro h<;>first|(exfalso;omega)|skip)|(refine na ?_;(first|refine nb (awithin_c _ _ _) ?_)<;>try first|omega|assumption)|refine ny ?_|refine WA_block ?_|(refine uC17_92_10 ?_;refine⟨by kernel_rfl,?_⟩)|(refine g_d ?_;(first|refine d_fnY (awithin_c _ _ _ _) ?_)<;>try first|omega|assumption)))
      all_goals(try(exfalso;omega))
      all_goals try
        ((refine r_es hQ ?_;try with_reducible rfl)
         exact congrArg (V.int .i64) (knErr_first hn hi hi2 (by rw [hat];(repeat (first|rw [if_pos (by first|assumption|omega|grind)]|rw [if_neg (by first|assumption|omega|grind)]))) (by decide)).symm)
      all_goals(refine nextL_ hK (i+1) ⟨hi,ext_zero hi2 (by rw [hat];(repeat (first|rw [if_pos (by first|assumption|omega|grind)]|rw [if_neg (by first|assumption|omega|grind)])))⟩ (by omega))
    · have hie:i=l.length:=by omega
      subst hie
      have hga:=hla
      have hgb:=hla
      have hti:=hla
      (have FX:=fx4 hla hga hgb hti;repeat'(first|(refine sx ?_ ?_<;>intro h<;>first|(exfalso;omega)|skip)|(refine na ?_;(first|refine nb (awithin_c _ _ _) ?_)<;>try first|omega|assumption)|refine ny ?_|refine WA_block ?_|(refine uC17_92_10 ?_;refine⟨by kernel_rfl,?_⟩)|(refine g_d ?_;(first|refine d_fnY (awithin_c _ _ _ _) ?_)<;>try first|omega|assumption)))
      all_goals(try(exfalso;omega))
      all_goals((refine r_es hQ ?_;try with_reducible rfl))
      all_goals(exact congrArg (V.int .i64) (knErr_none hn hi2).symm)
  · have h10:knErr l=10:=by unfold knErr;rw [if_pos hn]
    refine Gives_in Tryz.func92 rfl Tryz.ntmps92 Tryz.results92 (by kernel_rfl) (by simp) rfl fun Q hQ=>?_
    (have FX:=fx4 hla hga hgb hti;repeat'(first|(refine sx ?_ ?_<;>intro h<;>first|(exfalso;omega)|skip)|(refine na ?_;(first|refine nb (awithin_c _ _ _) ?_)<;>try first|omega|assumption)|refine ny ?_|refine WA_block ?_|(refine uC17_92_10 ?_;refine⟨by kernel_rfl,?_⟩)|(refine g_d ?_;(first|refine d_fnY (awithin_c _ _ _ _) ?_)<;>try first|omega|assumption)))
    all_goals(try(exfalso;omega))
    all_goals((refine r_es hQ ?_;try with_reducible rfl))
    all_goals(exact congrArg (V.int .i64) h10.symm)

theorem achecklead_c(l:Int×Int)(m:Mem):Gives Tryz.prog 95 [.agg (ldV l)] m (.int .i64 (ldErr l)):=by
  unfold ldV
  refine Gives_in Tryz.func95 rfl Tryz.ntmps95 Tryz.results95 (by kernel_rfl) (by simp) rfl fun Q hQ=>?_
  (repeat'(first|(refine sx ?_ ?_<;>intro h<;>first|(exfalso;omega)|skip)|(refine na ?_;(first|refine nb (awithin_c _ _ _) ?_)<;>try first|omega|assumption)|refine ny ?_|refine WA_block ?_))
  all_goals((refine r_es hQ ?_;try with_reducible rfl))
  all_goals(refine congrArg (V.int .i64) ?_;unfold ldErr;(repeat (first|rw [if_pos (by first|assumption|omega|grind)]|rw [if_neg (by first|assumption|omega|grind)])))

theorem acheckleads_c (l:List (Int×Int)) (m:Mem):Gives Tryz.prog 74 [.lst (ldsV l)] m (.int .i64 (ldsErr l)):=by
  have hla:=ldsV_length (l:=l)
  have hga:=hla
  have hcl:=fun m=>achecklead_c (0,0) m
  unfold ldV at hcl
  by_cases hn:l.length≤8
  · refine Gives_in Tryz.func74 rfl Tryz.ntmps74 Tryz.results74 (by kernel_rfl) (by simp) rfl fun Q hQ=>?_
    (have FX:=And.intro hla hga;repeat'(first|(refine sx ?_ ?_<;>intro h<;>first|(exfalso;omega)|skip)|(refine na ?_;(first|refine nb hcl ?_)<;>try first|omega|assumption)|refine ny ?_|refine WA_block ?_))
    all_goals(try(exfalso;omega))
    refine WA_whileK (σ:=Nat) [9,10,11] (fun i=>[.lst (ldsV l),.int .i64 l.length,.int .i64 i]) (fun _=>[]) 0 (fun i=>i≤l.length∧∀ j,j<i→ldErrAt l j=0) (fun i=>l.length - i) 0 ⟨Nat.zero_le _,fun j h=>absurd h (Nat.not_lt_zero _)⟩ tv_ rfl (fun _=>rfl) (by intro s s' _ _;simp [conB,conS,V.keeps,V.plain,Blk.flat,flatL,plainL,V.flat]) (by intro s s' _ _;simp [conB,conS,V.keeps,V.plain,Blk.flat,flatL,plainL,V.flat]) ?_
    rintro i ⟨hi1,hi2⟩ K hK
    simp only [zipT]
    clear FX hga hcl
    rcases Nat.lt_or_ge i l.length with hi|hi
    · have hga:=ldsV_get hi
      have hcl:=fun m=>achecklead_c (l.getD i l0) m
      have hat:ldErrAt l i=ldErr (l.getD i l0):=rfl
      unfold ldV at hga hcl
      (have FX:=And.intro hla hga;repeat'(first|(refine sx ?_ ?_<;>intro h<;>first|(exfalso;omega)|skip)|(refine na ?_;(first|refine nb hcl ?_)<;>try first|omega|assumption)|refine ny ?_|refine WA_block ?_))
      all_goals(try(exfalso;omega))
      all_goals try
        ((refine r_es hQ ?_;try with_reducible rfl)
         refine congrArg (V.int .i64) ?_
         unfold ldsErr
         rw [if_neg (by omega),firstE_is hi hi2 hat (by assumption)])
      all_goals(refine nextL_ hK (i+1) ⟨hi,ext_zero hi2 (by rw [hat];first|assumption|omega|grind)⟩ (by omega))
    · have hie:i=l.length:=by omega
      subst hie
      have hga:=hla
      have hcl:=hla
      (have FX:=And.intro hla hga;repeat'(first|(refine sx ?_ ?_<;>intro h<;>first|(exfalso;omega)|skip)|(refine na ?_;(first|refine nb hcl ?_)<;>try first|omega|assumption)|refine ny ?_|refine WA_block ?_))
      all_goals(try(exfalso;omega))
      all_goals((refine r_es hQ ?_;try with_reducible rfl))
      all_goals(refine congrArg (V.int .i64) ?_;unfold ldsErr;rw [if_neg (by omega),firstE_zero.2 hi2])
  · refine Gives_in Tryz.func74 rfl Tryz.ntmps74 Tryz.results74 (by kernel_rfl) (by simp) rfl fun Q hQ=>?_
    (have FX:=And.intro hla hga;repeat'(first|(refine sx ?_ ?_<;>intro h<;>first|(exfalso;omega)|skip)|(refine na ?_;(first|refine nb hcl ?_)<;>try first|omega|assumption)|refine ny ?_|refine WA_block ?_))
    all_goals(try(exfalso;omega))
    all_goals((refine r_es hQ ?_;try with_reducible rfl))
    all_goals(refine congrArg (V.int .i64) ?_;unfold ldsErr;rw [if_pos (by omega)])

theorem acheckpart_c(b:List PartR)(p:PartR)(m:Mem)(hb:b.length≤1000)(hpn:p.name.length≤1000):Gives Tryz.prog 71 [.lst (prtsV b),.agg (prtV p)] m (.int .i64 (ptErr b p)):=by
  unfold prtV
  have h1:=fidx_bd (isP p.name) b
  have h2:=fidx_bd (isP p.driver) b
  refine Gives_in Tryz.func71 rfl Tryz.ntmps71 Tryz.results71 (by kernel_rfl) (by simp) rfl fun Q hQ=>?_
  (repeat'(first|(refine sx ?_ ?_<;>intro h<;>first|(exfalso;omega)|skip)|(refine na ?_;(first|refine nb (aisname_c _ hpn) ?_|refine s_fn (afind_c b _ _ hb) ?_|refine nb (acheckknees_c p.cor) ?_|refine nb (awithin_c _ _ _) ?_)<;>try first|omega|assumption)|refine ny ?_|refine WA_block ?_))
  all_goals(try(exfalso;omega))
  all_goals((refine r_es hQ ?_;try with_reducible rfl))
  all_goals(refine congrArg (V.int .i64) ?_;unfold ptErr;(repeat (first|rw [if_pos (by first|assumption|omega|grind)]|rw [if_neg (by first|assumption|omega|grind)])))
/-- an action whose lists and names are not too long for the walks -/
structure Lt(a:ActR):Prop where
  np:a.parts.length≤1000
  ne:a.evs.length≤1000
  nl:a.leads.length≤1000
  pn:∀ i,i<a.parts.length→(a.parts.getD i p0).name.length≤1000
  en:∀ i,i<a.evs.length→(a.evs.getD i e0).name.length≤1000
theorem prtsV_all{l:List PartR}{n:Nat}(h:n=5):(prtsV l).all (fun e=>e.length==n)=true:=by subst h;simp [prtsV,prtV]
theorem evsV_all{l:List EvR}{n:Nat}(h:n=4):(evsV l).all (fun e=>e.length==n)=true:=by subst h;simp [evsV,evV]
theorem prtsV_take(l:List PartR)(i:Nat):(prtsV l).take i=prtsV (l.take i):=by simp [prtsV,List.map_take]
theorem evsV_take(l:List EvR)(i:Nat):(evsV l).take i=evsV (l.take i):=by simp [evsV,List.map_take]
abbrev actB(a:ActR):Blk:= .cells .own 80 4 [[.int .i64 a.dip,.lst (prtsV a.parts),.lst (evsV a.evs),.lst (ldsV a.leads)]]
theorem uC19_50_8{N:Nat}{l:List Oper}{t:List (Nat×V)}{m:Mem}{Q:Exit→List (Nat×V)→Mem→Prop}(h:RgN Tryz.prog N l t m Q (fun i=>if i==1 || i==4 || i==5 then .q else .p) [.one 0,.one 1,.one 2,.one 3,.one 4,.one 5,.one 6]):WA Tryz.prog N (.region 8 l.toArray true) t m Q:=d_rgN h
theorem uC19_50_19{N:Nat}{l:List Oper}{t:List (Nat×V)}{m:Mem}{Q:Exit→List (Nat×V)→Mem→Prop}(h:RgN Tryz.prog N l t m Q (fun i=>if i==1 || i==5 || i==6 then .q else .p) [.one 0,.one 1,.one 2,.one 3,.one 4,.one 5,.one 6,.one 7,.one 8]):WA Tryz.prog N (.region 19 l.toArray true) t m Q:=d_rgN h
theorem acheckaction_c (a:ActR) (ha:Lt a) (m:Mem):Gives Tryz.prog 50 [.agg (actV a)] m (.int .i64 (acErr a)):=by
  have hla:=prtsV_length (l:=a.parts)
  have hle:=evsV_length (l:=a.evs)
  have hga:=hla
  have hal:=hla
  have hsl:=hla
  have hti:=hla
  have hcp:=fun m=>achecklead_c (0,0) m
  have hfe:=hcp
  have hen:=hla
  unfold actV
  refine Gives_in Tryz.func50 rfl Tryz.ntmps50 Tryz.results50 (by kernel_rfl) (by simp) rfl fun Q hQ=>?_
  (have FX:=fx6 hla hle hga hal hsl hti;repeat'(first|(refine sx ?_ ?_<;>intro h<;>first|(exfalso;omega)|skip)|(refine na ?_;(first|refine nb (awithin_c _ _ _) ?_|refine nb hcp ?_|refine nb (aisname_c _ hen) ?_|refine s_fn (afind_c a.parts _ _ ha.np) ?_|refine d_fn (afind_c a.parts _ _ ha.np) ?_|refine d_fnQ (fun _=>afind_c a.parts _ _ ha.np) ?_|refine grp_cons (fun _=>afind_c a.parts _ _ ha.np) ?_|refine nb hfe ?_|refine nb (acheckleads_c a.leads) ?_)<;>try first|omega|assumption)|refine ny ?_|refine WA_block ?_|(refine uC19_50_8 ?_;refine⟨by kernel_rfl,?_⟩)|(refine uC19_50_19 ?_;refine⟨by kernel_rfl,?_⟩)|(refine g_d ?_;(first|refine d_fnY (awithin_c _ _ _ _) ?_|refine d_fnY (hcp _) ?_|refine d_fnY (aisname_c _ hen _) ?_|refine d_fnY (afind_c a.parts _ _ ha.np) ?_|refine d_fnY (hfe _) ?_|refine d_fnY (acheckleads_c a.leads _) ?_)<;>try first|omega|assumption)))
  all_goals(try(exfalso;omega))
  all_goals try
    ((refine r_es hQ ?_;try with_reducible rfl)
     refine congrArg (V.int .i64) ?_
     unfold acErr
     first|(rw [if_pos (by omega)];done)|(rw [if_neg (by omega),if_pos (by omega)];done))
  have hd:1≤a.dip∧a.dip≤2000:=by omega
  have hp12:a.parts.length≤12:=by omega
  refine WA_whileK (σ:=Nat) [1,19,20,21] (fun i=>[.ptr (lend m).length 0 0,.lst (prtsV a.parts),.int .i64 a.parts.length,.int .i64 i]) (fun _=>[actB a]) 1 (fun i=>i≤a.parts.length∧∀ j,j<i→ptErrAt a.parts j=0) (fun i=>a.parts.length - i) 0 ⟨Nat.zero_le _,fun j h=>absurd h (Nat.not_lt_zero _)⟩ tv_ rfl (fun _=>rfl) (by intro s s' _ _;simp [conB,conS,V.keeps,V.plain,Blk.flat,flatL,plainL,V.flat]) (by intro s s' _ _;simp [conB,conS,V.keeps,V.plain,Blk.flat,flatL,plainL,V.flat]) ?_
  rintro i ⟨hi1,hi2⟩ K hK
  simp only [zipT]
  clear FX hga hal hsl hti hcp
  rcases Nat.lt_or_ge i a.parts.length with hi|hi
  · have hga:=prtsV_get hi
    have hal:=fun n h=>prtsV_all (l:=a.parts) (n:=n) h
    have hsl:=prtsV_take a.parts i
    have hti:((i:Int) - ((0:Nat):Int)).toNat=i:=by omega
    have hcp:=fun m=>acheckpart_c (a.parts.take i) (a.parts.getD i p0) m (by rw [List.length_take];omega) (ha.pn i hi)
    have hat:ptErrAt a.parts i=ptErr (a.parts.take i) (a.parts.getD i p0):=rfl
    unfold prtV at hga hcp
    (have FX:=fx6 hla hle hga hal hsl hti;repeat'(first|(refine sx ?_ ?_<;>intro h<;>first|(exfalso;omega)|skip)|(refine na ?_;(first|refine nb (awithin_c _ _ _) ?_|refine nb hcp ?_|refine nb (aisname_c _ hen) ?_|refine s_fn (afind_c a.parts _ _ ha.np) ?_|refine d_fn (afind_c a.parts _ _ ha.np) ?_|refine d_fnQ (fun _=>afind_c a.parts _ _ ha.np) ?_|refine grp_cons (fun _=>afind_c a.parts _ _ ha.np) ?_|refine nb hfe ?_|refine nb (acheckleads_c a.leads) ?_)<;>try first|omega|assumption)|refine ny ?_|refine WA_block ?_|(refine uC19_50_8 ?_;refine⟨by kernel_rfl,?_⟩)|(refine uC19_50_19 ?_;refine⟨by kernel_rfl,?_⟩)|(refine g_d ?_;(first|refine d_fnY (awithin_c _ _ _ _) ?_|refine d_fnY (hcp _) ?_|refine d_fnY (aisname_c _ hen _) ?_|refine d_fnY (afind_c a.parts _ _ ha.np) ?_|refine d_fnY (hfe _) ?_|refine d_fnY (acheckleads_c a.leads _) ?_)<;>try first|omega|assumption)))
    all_goals(try(exfalso;omega))
    all_goals try
      ((refine r_es hQ ?_;try with_reducible rfl)
       have he:=firstE_is hi hi2 hat (by assumption)
       refine congrArg (V.int .i64) ?_
       unfold acErr
       rw [if_neg (by omega),if_neg (by omega),if_pos (by rw [he];assumption),he])
    all_goals(refine nextL_ hK (i+1) ⟨hi,ext_zero hi2 (by rw [hat];first|assumption|omega|grind)⟩ (by omega))
  · have hie:i=a.parts.length:=by omega
    subst hie
    have hpz:=firstE_zero.2 hi2
    have hga:=hla
    have hal:=hla
    have hsl:=hla
    have hti:=hla
    have hcp:=hla
    (have FX:=fx6 hla hle hga hal hsl hti;repeat'(first|(refine sx ?_ ?_<;>intro h<;>first|(exfalso;omega)|skip)|(refine na ?_;(first|refine nb (awithin_c _ _ _) ?_|refine nb hcp ?_|refine nb (aisname_c _ hen) ?_|refine s_fn (afind_c a.parts _ _ ha.np) ?_|refine d_fn (afind_c a.parts _ _ ha.np) ?_|refine d_fnQ (fun _=>afind_c a.parts _ _ ha.np) ?_|refine grp_cons (fun _=>afind_c a.parts _ _ ha.np) ?_|refine nb hfe ?_|refine nb (acheckleads_c a.leads) ?_)<;>try first|omega|assumption)|refine ny ?_|refine WA_block ?_|(refine uC19_50_8 ?_;refine⟨by kernel_rfl,?_⟩)|(refine uC19_50_19 ?_;refine⟨by kernel_rfl,?_⟩)|(refine g_d ?_;(first|refine d_fnY (awithin_c _ _ _ _) ?_|refine d_fnY (hcp _) ?_|refine d_fnY (aisname_c _ hen _) ?_|refine d_fnY (afind_c a.parts _ _ ha.np) ?_|refine d_fnY (hfe _) ?_|refine d_fnY (acheckleads_c a.leads _) ?_)<;>try first|omega|assumption)))
    all_goals(try(exfalso;omega))
    all_goals try
      ((refine r_es hQ ?_;try with_reducible rfl)
       refine congrArg (V.int .i64) ?_
       unfold acErr
       rw [if_neg (by omega),if_neg (by omega),if_neg (by rw [hpz];decide),if_pos (by omega)]
       done)
    have he20:a.evs.length≤20:=by omega
    clear FX hK
    refine WA_whileK (σ:=Nat) [1,41,42,43] (fun i=>[.ptr (lend m).length 0 0,.lst (evsV a.evs),.int .i64 a.evs.length,.int .i64 i]) (fun _=>[actB a]) 1 (fun i=>i≤a.evs.length∧∀ j,j<i→evErrAt a j=0) (fun i=>a.evs.length - i) 0 ⟨Nat.zero_le _,fun j h=>absurd h (Nat.not_lt_zero _)⟩ tv_ rfl (fun _=>rfl) (by intro s s' _ _;simp [conB,conS,V.keeps,V.plain,Blk.flat,flatL,plainL,V.flat]) (by intro s s' _ _;simp [conB,conS,V.keeps,V.plain,Blk.flat,flatL,plainL,V.flat]) ?_
    rintro i ⟨hj1,hj2⟩ K hK
    simp only [zipT]
    clear hga hal hsl hti hcp
    rcases Nat.lt_or_ge i a.evs.length with hj|hj
    · have hga:=evsV_get hj
      have hal:=fun n h=>evsV_all (l:=a.evs) (n:=n) h
      have hsl:=evsV_take a.evs i
      have hti:((i:Int) - ((0:Nat):Int)).toNat=i:=by omega
      have hen:=ha.en i hj
      have hfe:=fun m=>afindev_c (a.evs.take i) (a.evs.getD i e0).name m (by rw [List.length_take];omega)
      have b1:=fidx_bd (isE (a.evs.getD i e0).name) (a.evs.take i)
      have b2:=fidx_bd (isP (a.evs.getD i e0).part) a.parts
      have hat:evErrAt a i=if ¬ namePA (a.evs.getD i e0).name then 4 else if 0≤fidx (isE (a.evs.getD i e0).name) (a.evs.take i) then 5 else if fidx (isP (a.evs.getD i e0).part) a.parts<0 then 6 else if ¬ (-10000≤(a.evs.getD i e0).lev∧(a.evs.getD i e0).lev≤10000) then 2 else 0:=rfl
      have hcp:=hla
      have hfin:∀ e,firstE (evErrAt a) a.evs.length=e→e≠0→acErr a=e:=fun e he hne=>by unfold acErr;rw [if_neg (by omega),if_neg (by omega),if_neg (by rw [hpz];decide),if_neg (by omega),if_pos (by rw [he];exact hne),he]
      unfold evV at hga
      (have FX:=fx6 hla hle hga hal hsl hti;repeat'(first|(refine sx ?_ ?_<;>intro h<;>first|(exfalso;omega)|skip)|(refine na ?_;(first|refine nb (awithin_c _ _ _) ?_|refine nb hcp ?_|refine nb (aisname_c _ hen) ?_|refine s_fn (afind_c a.parts _ _ ha.np) ?_|refine d_fn (afind_c a.parts _ _ ha.np) ?_|refine d_fnQ (fun _=>afind_c a.parts _ _ ha.np) ?_|refine grp_cons (fun _=>afind_c a.parts _ _ ha.np) ?_|refine nb hfe ?_|refine nb (acheckleads_c a.leads) ?_)<;>try first|omega|assumption)|refine ny ?_|refine WA_block ?_|(refine uC19_50_8 ?_;refine⟨by kernel_rfl,?_⟩)|(refine uC19_50_19 ?_;refine⟨by kernel_rfl,?_⟩)|(refine g_d ?_;(first|refine d_fnY (awithin_c _ _ _ _) ?_|refine d_fnY (hcp _) ?_|refine d_fnY (aisname_c _ hen _) ?_|refine d_fnY (afind_c a.parts _ _ ha.np) ?_|refine d_fnY (hfe _) ?_|refine d_fnY (acheckleads_c a.leads _) ?_)<;>try first|omega|assumption)))
      all_goals(try(exfalso;omega))
      all_goals try
        ((refine r_es hQ ?_;try with_reducible rfl)
         exact congrArg (V.int .i64) (hfin _ (firstE_is hj hj2 (by rw [hat];(repeat (first|rw [if_pos (by first|assumption|omega|grind)]|rw [if_neg (by first|assumption|omega|grind)]))) (by decide)) (by decide)).symm)
      all_goals(refine nextL_ hK (i+1) ⟨hj,ext_zero hj2 (by rw [hat];(repeat (first|rw [if_pos (by first|assumption|omega|grind)]|rw [if_neg (by first|assumption|omega|grind)])))⟩ (by omega))
    · have hje:i=a.evs.length:=by omega
      subst hje
      have hez:=firstE_zero.2 hj2
      have hga:=hla
      have hal:=hla
      have hsl:=hla
      have hti:=hla
      have hcp:=hla
      (have FX:=fx6 hla hle hga hal hsl hti;repeat'(first|(refine sx ?_ ?_<;>intro h<;>first|(exfalso;omega)|skip)|(refine na ?_;(first|refine nb (awithin_c _ _ _) ?_|refine nb hcp ?_|refine nb (aisname_c _ hen) ?_|refine s_fn (afind_c a.parts _ _ ha.np) ?_|refine d_fn (afind_c a.parts _ _ ha.np) ?_|refine d_fnQ (fun _=>afind_c a.parts _ _ ha.np) ?_|refine grp_cons (fun _=>afind_c a.parts _ _ ha.np) ?_|refine nb hfe ?_|refine nb (acheckleads_c a.leads) ?_)<;>try first|omega|assumption)|refine ny ?_|refine WA_block ?_|(refine uC19_50_8 ?_;refine⟨by kernel_rfl,?_⟩)|(refine uC19_50_19 ?_;refine⟨by kernel_rfl,?_⟩)|(refine g_d ?_;(first|refine d_fnY (awithin_c _ _ _ _) ?_|refine d_fnY (hcp _) ?_|refine d_fnY (aisname_c _ hen _) ?_|refine d_fnY (afind_c a.parts _ _ ha.np) ?_|refine d_fnY (hfe _) ?_|refine d_fnY (acheckleads_c a.leads _) ?_)<;>try first|omega|assumption)))
      all_goals(try(exfalso;omega))
      all_goals((refine r_es hQ ?_;try with_reducible rfl))
      all_goals(refine congrArg (V.int .i64) ?_;unfold acErr;rw [if_neg (by omega),if_neg (by omega),if_neg (by rw [hpz];decide),if_neg (by omega),if_neg (by rw [hez];decide)])
end Go.Proofs.YtnablpehkeicmaaGreat
