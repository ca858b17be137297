/- contracts: the checks of parts and leads -/
import Derived.Test.YtomkbpoicjabfaaGreatDoorGAH
set_option linter.unusedSimpArgs false
set_option linter.unusedVariables false
namespace Go.Proofs.YtomkbpoicjabfaaGreatDoor
open Go.RowKit
attribute [local irreducible] WA WOs WDs WAn qThen qBlock tput
set_option maxHeartbeats 1000000
set_option maxRecDepth 20000
set_option linter.unusedSimpArgs false
set_option linter.unusedVariables false

theorem achecklead_c(l:Int×Int)(m:Mem):Gives Tryz.prog 75 [.agg (ldV l)] m (.int .i64 (ldErr l)):=by
  unfold ldV
  refine Gives_in Tryz.func75 rfl Tryz.ntmps75 Tryz.results75 (by kernel_rfl) (by simp) rfl fun Q hQ=>?_
  (repeat'(first|(refine sx ?_ ?_<;>intro h<;>first|(exfalso;omega)|skip)|(refine g_op ?_;refine g_call ?_;refine g_args ?_;(first|refine s_fn (awithin_c _ _ _ _) ?_)<;>try first|omega|assumption)|refine ny ?_|refine WA_block ?_))
  all_goals((refine r_es hQ ?_;try with_reducible rfl))
  all_goals(refine congrArg (V.int .i64) ?_;unfold ldErr;(repeat (first|rw [if_pos (by first|assumption|omega|grind)]|rw [if_neg (by first|assumption|omega|grind)])))

theorem rchecklead_c(l:Int×Int)(m:Mem):Gives Tryz.prog 38 [.agg (ldV l)] m (.int .i64 (ldErr l)):=by
  unfold ldV
  refine Gives_in Tryz.func38 rfl Tryz.ntmps38 Tryz.results38 (by kernel_rfl) (by simp) rfl fun Q hQ=>?_
  (repeat'(first|(refine sx ?_ ?_<;>intro h<;>first|(exfalso;omega)|skip)|(refine g_op ?_;refine g_call ?_;refine g_args ?_;(first|refine s_fn (bwithin_c _ _ _ _) ?_)<;>try first|omega|assumption)|refine ny ?_|refine WA_block ?_))
  all_goals((refine r_es hQ ?_;try with_reducible rfl))
  all_goals(refine congrArg (V.int .i64) ?_;unfold ldErr;(repeat (first|rw [if_pos (by first|assumption|omega|grind)]|rw [if_neg (by first|assumption|omega|grind)])))

theorem acheckleads_c (l:List (Int×Int)) (m:Mem):Gives Tryz.prog 44 [.lst (ldsV l)] m (.int .i64 (ldsErr l)):=by
  have hla:=ldsV_length (l:=l)
  have hga:=hla
  have hcl:=fun m=>achecklead_c (0,0) m
  unfold ldV at hcl
  by_cases hn:l.length≤8
  · refine Gives_in Tryz.func44 rfl Tryz.ntmps44 Tryz.results44 (by kernel_rfl) (by simp) rfl fun Q hQ=>?_
    (have FX:=And.intro hla hga;repeat'(first|(refine sx ?_ ?_<;>intro h<;>first|(exfalso;omega)|skip)|(refine g_op ?_;refine g_call ?_;refine g_args ?_;(first|refine s_fn (hcl _) ?_)<;>try first|omega|assumption)|refine ny ?_|refine WA_block ?_))
    all_goals(try(exfalso;omega))
    refine WA_whileK (σ:=Nat) [9,10,11] (fun i=>[.lst (ldsV l),.int .i64 l.length,.int .i64 i]) (fun _=>[]) 0 (fun i=>i≤l.length∧∀ j,j<i→ldErrAt l j=0) (fun i=>l.length - i) 0 ⟨Nat.zero_le _,fun j h=>absurd h (Nat.not_lt_zero _)⟩ tv_ rfl (fun _=>rfl) (by intro s s' _ _;simp [conB,conS,V.keeps,V.plain,Blk.flat,flatL,plainL,V.flat]) (by intro s s' _ _;simp [conB,conS,V.keeps,V.plain,Blk.flat,flatL,plainL,V.flat]) ?_
    rintro i ⟨hi1,hi2⟩ K hK
    simp only [zipT]
    clear FX hga hcl
    rcases Nat.lt_or_ge i l.length with hi|hi
    · have hga:=ldsV_get hi
      have hcl:=fun m=>achecklead_c (l.getD i l0) m
      have hat:ldErrAt l i=ldErr (l.getD i l0):=rfl
      unfold ldV at hga hcl
      (have FX:=And.intro hla hga;repeat'(first|(refine sx ?_ ?_<;>intro h<;>first|(exfalso;omega)|skip)|(refine g_op ?_;refine g_call ?_;refine g_args ?_;(first|refine s_fn (hcl _) ?_)<;>try first|omega|assumption)|refine ny ?_|refine WA_block ?_))
      all_goals(try(exfalso;omega))
      all_goals try
        ((refine r_es hQ ?_;try with_reducible rfl)
         refine congrArg (V.int .i64) ?_
         unfold ldsErr
         rw [if_neg (by omega),firstE_is hi hi2 hat (by assumption)])
      all_goals(refine nextL_ hK (i+1) ⟨hi,ext_zero hi2 (by rw [hat];first|assumption|omega|grind)⟩ (by omega))
    · have hie:i=l.length:=by omega
      subst hie
      have hga:=hla
      have hcl:=hla
      (have FX:=And.intro hla hga;repeat'(first|(refine sx ?_ ?_<;>intro h<;>first|(exfalso;omega)|skip)|(refine g_op ?_;refine g_call ?_;refine g_args ?_;(first|refine s_fn (hcl _) ?_)<;>try first|omega|assumption)|refine ny ?_|refine WA_block ?_))
      all_goals(try(exfalso;omega))
      all_goals((refine r_es hQ ?_;try with_reducible rfl))
      all_goals(refine congrArg (V.int .i64) ?_;unfold ldsErr;rw [if_neg (by omega),firstE_zero.2 hi2])
  · refine Gives_in Tryz.func44 rfl Tryz.ntmps44 Tryz.results44 (by kernel_rfl) (by simp) rfl fun Q hQ=>?_
    (have FX:=And.intro hla hga;repeat'(first|(refine sx ?_ ?_<;>intro h<;>first|(exfalso;omega)|skip)|(refine g_op ?_;refine g_call ?_;refine g_args ?_;(first|refine s_fn (hcl _) ?_)<;>try first|omega|assumption)|refine ny ?_|refine WA_block ?_))
    all_goals(try(exfalso;omega))
    all_goals((refine r_es hQ ?_;try with_reducible rfl))
    all_goals(refine congrArg (V.int .i64) ?_;unfold ldsErr;rw [if_pos (by omega)])

theorem rpartat_c(l:List PartR)(s:List UInt8)(m:Mem)(hlb:l.length≤1000):Gives Tryz.prog 37 [.lst (prtsV l),.str s] m (.int .i64 (fidx (isP s) l)):=by
  have hla:=prtsV_length (l:=l)
  have hga:=hla
  refine Gives_in Tryz.func37 rfl Tryz.ntmps37 Tryz.results37 (by kernel_rfl) (by simp) rfl fun Q hQ=>?_
  (have FX:=And.intro hla hga;repeat'(first|(refine sx ?_ ?_<;>intro h<;>first|(exfalso;omega)|skip)|refine ny ?_|refine WA_block ?_))
  refine WA_while (σ:=Nat) [0,1,5] (fun i=>[.lst (prtsV l),.str s,.int .i64 i]) (fun _=>lend m++[]) (fun i=>i≤l.length∧∀ j,j<i→isP s (l.getD j p0)=false) (fun i=>l.length - i) 0 ⟨Nat.zero_le _,fun j h=>absurd h (Nat.not_lt_zero _)⟩ tv_ rfl ?_
  rintro i ⟨hi,hj⟩ L hL
  simp only [zipT]
  clear FX hga
  rcases Nat.lt_or_ge i l.length with hlt|hge
  · have hga:=prtsV_get hlt
    unfold prtV at hga
    (have FX:=And.intro hla hga;repeat'(first|(refine sx ?_ ?_<;>intro h<;>first|(exfalso;omega)|skip)|refine ny ?_|refine WA_block ?_))
    all_goals(try(exfalso;omega))
    all_goals try
      ((refine r_es hQ ?_;try with_reducible rfl)
       exact congrArg (V.int .i64) (fidx_at hlt hj (decide_eq_true (by assumption))).symm)
    all_goals(refine next_ hL (i+1) ⟨by omega,fun j h=>?_⟩ (by omega))
    all_goals(rcases Nat.lt_or_ge j i with h2|h2)
    all_goals first
      |exact hj j h2
      | (obtain rfl:j=i:=by omega
         exact decide_eq_false (by assumption))
  · have e:i=l.length:=by omega
    subst e
    have hga:=hla
    (have FX:=And.intro hla hga;repeat'(first|(refine sx ?_ ?_<;>intro h<;>first|(exfalso;omega)|skip)|refine ny ?_|refine WA_block ?_))
    all_goals(try(exfalso;omega))
    all_goals((refine r_es hQ ?_;try with_reducible rfl))
    all_goals(exact congrArg (V.int .i64) (fidx_no hj).symm)

theorem reventnumber_c(a:ActR)(s:List UInt8)(m:Mem)(hlb:a.evs.length≤1000):Gives Tryz.prog 36 [.agg (actV a),.str s] m (.int .i64 (fidx (isE s) a.evs)):=by
  have hla:=evsV_length (l:=a.evs)
  have hga:=hla
  unfold actV
  refine Gives_in Tryz.func36 rfl Tryz.ntmps36 Tryz.results36 (by kernel_rfl) (by simp) rfl fun Q hQ=>?_
  (have FX:=And.intro hla hga;repeat'(first|(refine sx ?_ ?_<;>intro h<;>first|(exfalso;omega)|skip)|refine ny ?_|refine WA_block ?_))
  refine WA_whileK (σ:=Nat) [1,2,5] (fun i=>[.str s,.ptr (lend m).length 0 0,.int .i64 i]) (fun _=>[.cells .own 27 4 [[.int .i64 a.dip,.lst (prtsV a.parts),.lst (evsV a.evs),.lst (ldsV a.leads)]]]) 1 (fun i=>i≤a.evs.length∧∀ j,j<i→isE s (a.evs.getD j e0)=false) (fun i=>a.evs.length - i) 0 ⟨Nat.zero_le _,fun j h=>absurd h (Nat.not_lt_zero _)⟩ tv_ rfl (fun _=>rfl) (by intro s s' _ _;simp [conB,conS,V.keeps,V.plain,Blk.flat,flatL,plainL,V.flat]) (by intro s s' _ _;simp [conB,conS,V.keeps,V.plain,Blk.flat,flatL,plainL,V.flat]) ?_
  rintro i ⟨hi,hj⟩ K hK
  simp only [zipT]
  clear FX hga
  rcases Nat.lt_or_ge i a.evs.length with hlt|hge
  · have hga:=evsV_get hlt
    unfold evV at hga
    (have FX:=And.intro hla hga;repeat'(first|(refine sx ?_ ?_<;>intro h<;>first|(exfalso;omega)|skip)|refine ny ?_|refine WA_block ?_))
    all_goals(try(exfalso;omega))
    all_goals try
      ((refine r_es hQ ?_;try with_reducible rfl)
       exact congrArg (V.int .i64) (fidx_at hlt hj (decide_eq_true (by assumption))).symm)
    all_goals(refine nextL_ hK (i+1) ⟨by omega,fun j h=>?_⟩ (by omega))
    all_goals(rcases Nat.lt_or_ge j i with h2|h2)
    all_goals first
      |exact hj j h2
      | (obtain rfl:j=i:=by omega
         exact decide_eq_false (by assumption))
  · have e:i=a.evs.length:=by omega
    subst e
    have hga:=hla
    (have FX:=And.intro hla hga;repeat'(first|(refine sx ?_ ?_<;>intro h<;>first|(exfalso;omega)|skip)|refine ny ?_|refine WA_block ?_))
    all_goals(try(exfalso;omega))
    all_goals((refine r_es hQ ?_;try with_reducible rfl))
    all_goals(exact congrArg (V.int .i64) (fidx_no hj).symm)

theorem acheckpart_c(b:List PartR)(p:PartR)(m:Mem)(hb:b.length≤1000)(hpn:p.name.length≤1000):Gives Tryz.prog 40 [.lst (prtsV b),.agg (prtV p)] m (.int .i64 (ptErr b p)):=by
  unfold prtV
  have h1:=fidx_bd (isP p.name) b
  have h2:=fidx_bd (isP p.driver) b
  refine Gives_in Tryz.func40 rfl Tryz.ntmps40 Tryz.results40 (by kernel_rfl) (by simp) rfl fun Q hQ=>?_
  (repeat'(first|(refine sx ?_ ?_<;>intro h<;>first|(exfalso;omega)|skip)|(refine g_op ?_;refine g_call ?_;refine g_args ?_;(first|refine s_fn (aisname_c _ hpn _) ?_|refine s_fn (afind_c b _ _ hb) ?_|refine s_fn (acheckknees_c p.cor _) ?_|refine s_fn (awithin_c _ _ _ _) ?_)<;>try first|omega|assumption)|refine ny ?_|refine WA_block ?_))
  all_goals(try(exfalso;omega))
  all_goals((refine r_es hQ ?_;try with_reducible rfl))
  all_goals(refine congrArg (V.int .i64) ?_;unfold ptErr;(repeat (first|rw [if_pos (by first|assumption|omega|grind)]|rw [if_neg (by first|assumption|omega|grind)])))

theorem rcheckpart_c(b:List PartR)(p:PartR)(m:Mem)(hb:b.length≤1000):Gives Tryz.prog 34 [.lst (prtsV b),.agg (prtV p)] m (.int .i64 (ptErr b p)):=by
  unfold prtV
  have h1:=fidx_bd (isP p.name) b
  have h2:=fidx_bd (isP p.driver) b
  refine Gives_in Tryz.func34 rfl Tryz.ntmps34 Tryz.results34 (by kernel_rfl) (by simp) rfl fun Q hQ=>?_
  (repeat'(first|(refine sx ?_ ?_<;>intro h<;>first|(exfalso;omega)|skip)|(refine g_op ?_;refine g_call ?_;refine g_args ?_;(first|refine s_fn (bisname_c _ _) ?_|refine s_fn (rpartat_c b _ _ hb) ?_|refine s_fn (rcheckwhole_c p.cor _) ?_|refine s_fn (bwithin_c _ _ _ _) ?_)<;>try first|omega|assumption)|refine ny ?_|refine WA_block ?_))
  all_goals(try(exfalso;omega))
  all_goals((refine r_es hQ ?_;try with_reducible rfl))
  all_goals(refine congrArg (V.int .i64) ?_;unfold ptErr;(repeat (first|rw [if_pos (by first|assumption|omega|grind)]|rw [if_neg (by first|assumption|omega|grind)])))
end Go.Proofs.YtomkbpoicjabfaaGreatDoor
