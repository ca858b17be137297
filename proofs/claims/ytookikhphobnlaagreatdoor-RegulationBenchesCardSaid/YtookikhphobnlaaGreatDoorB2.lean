/- contracts: names, small numbers -/
import Derived.Test.YtookikhphobnlaaGreatDoorGAA
set_option linter.unusedSimpArgs false
set_option linter.unusedVariables false
namespace Go.Proofs.YtookikhphobnlaaGreatDoor
open Go.RowKit
attribute [local irreducible] WA WOs WDs WAn qThen qBlock tput
set_option maxHeartbeats 1000000
set_option maxRecDepth 20000
set_option linter.unusedSimpArgs false
set_option linter.unusedVariables false

theorem gisname_c(s:List UInt8)(hs:s.length≤1000)(m:Mem):Gives Tryz.prog 85 [.str s] m (.bool (decide (nameP s))):=by
  have hgi:=hs
  refine Gives_in Tryz.func85 rfl Tryz.ntmps85 Tryz.results85 (by kernel_rfl) (by simp) rfl fun Q hQ=>?_
  (have FX:=hgi;repeat'(first|(refine sx ?_ ?_<;>intro h<;>first|(exfalso;omega)|skip)|refine ny ?_|refine WA_block ?_))
  refine WA_while (σ:=Nat) [0,2,6,7] (fun i=>[.str s,.bool false,.int .i64 s.length,.int .i64 i]) (fun _=>lend m++[]) (fun i=>i≤s.length∧∀ j,j<i→okC s j) (fun i=>s.length - i) 0 ⟨Nat.zero_le _,fun j h=>absurd h (Nat.not_lt_zero _)⟩ tv_ rfl ?_
  rintro i ⟨hi,hj⟩ L hL
  simp only [zipT]
  clear FX
  rcases Nat.lt_or_ge i s.length with hlt|hge
  · have hgi:=byt_get hlt
    have hok:okC s i↔(letP (byt s i)∨(i≠0∧(digP (byt s i)∨byt s i=45))):=Iff.rfl
    unfold letP digP at hok
    unfold byt at hok
    (have FX:=hgi;repeat'(first|(refine sx ?_ ?_<;>intro h<;>first|(exfalso;omega)|skip)|refine ny ?_|refine WA_block ?_))
    all_goals(try(exfalso;omega))
    all_goals try
      ((refine r_es hQ ?_;try with_reducible rfl)
       exact congrArg V.bool (nameP_bad hlt (fun h=>by have:=hok.1 h;omega)).symm)
    all_goals(refine next_ hL (i+1) ⟨by omega,fun j h=>?_⟩ (by omega))
    all_goals(rcases Nat.lt_or_ge j i with h2|h2)
    all_goals first
      |exact hj j h2
      | (obtain rfl:j=i:=by omega
         exact hok.2 (by omega))
  · have e:i=s.length:=by omega
    subst e
    have hgi:=hs
    have hnm:nameP s↔(1≤s.length∧s.length≤12):=⟨fun h=>⟨h.1,h.2.1⟩,fun h=>⟨h.1,h.2,hj⟩⟩
    have hne:s=[]↔s.length=0:=str_eq_nil
    (have FX:=hgi;repeat'(first|(refine sx ?_ ?_<;>intro h<;>first|(exfalso;omega)|skip)|refine ny ?_|refine WA_block ?_))
    all_goals(try(exfalso;omega))
    all_goals((refine r_es hQ ?_;try with_reducible rfl))
    all_goals(clear hQ hL;simp only [hne] at *)
    all_goals first
      |exact congrArg V.bool (decide_eq_true (hnm.2 (by omega))).symm
      |exact congrArg V.bool (decide_eq_false (fun h=>by have:=hnm.1 h;omega)).symm

theorem bisletter_c(c:Int)(m:Mem):Gives Tryz.prog 109 [.int .u8 c] m (.bool (decide (letP c))):=by
  refine Gives_in Tryz.func109 rfl Tryz.ntmps109 Tryz.results109 (by kernel_rfl) (by simp) rfl fun Q hQ=>?_
  (repeat'(first|(refine sx ?_ ?_<;>intro h<;>first|(exfalso;omega)|skip)|refine ny ?_|refine WA_block ?_))
  all_goals((refine r_es hQ ?_;try with_reducible rfl);unfold letP)
  all_goals(first|exact congrArg V.bool (decide_eq_true (by first|omega|simp_all)).symm|exact congrArg V.bool (decide_eq_false (by first|omega|simp_all)).symm|exact congrArg V.bool (decide_eq_decide.2 (by omega)))

theorem bisdigit_c(c:Int)(m:Mem):Gives Tryz.prog 71 [.int .u8 c] m (.bool (decide (digP c))):=by
  refine Gives_in Tryz.func71 rfl Tryz.ntmps71 Tryz.results71 (by kernel_rfl) (by simp) rfl fun Q hQ=>?_
  (repeat'(first|(refine sx ?_ ?_<;>intro h<;>first|(exfalso;omega)|skip)|refine ny ?_|refine WA_block ?_))
  all_goals((refine r_es hQ ?_;try with_reducible rfl);unfold digP)
  all_goals(first|exact congrArg V.bool (decide_eq_true (by first|omega|simp_all)).symm|exact congrArg V.bool (decide_eq_false (by first|omega|simp_all)).symm|exact congrArg V.bool (decide_eq_decide.2 (by omega)))

theorem bisname_c (s:List UInt8) (m:Mem):Gives Tryz.prog 80 [.str s] m (.bool (decide (nameP s))):=by
  rcases Nat.eq_zero_or_pos s.length with hz|hz
  · have hgi:=hz
    refine Gives_in Tryz.func80 rfl Tryz.ntmps80 Tryz.results80 (by kernel_rfl) (by simp) rfl fun Q hQ=>?_
    (have FX:=hgi;repeat'(first|(refine sx ?_ ?_<;>intro h<;>first|(exfalso;omega)|skip)|(refine g_op ?_;refine g_call ?_;refine g_args ?_;(first|refine s_fn (bisletter_c _ _) ?_|refine s_fn (bisdigit_c _ _) ?_)<;>try first|omega|assumption)|refine ny ?_|refine WA_block ?_))
    all_goals(try(exfalso;omega))
    all_goals((refine r_es hQ ?_;try with_reducible rfl))
    all_goals(exact congrArg V.bool (decide_eq_false (fun h=>by have:=h.1;omega)).symm)
  · have hgi:s[0]?=some (s.getD 0 0):=byt_get hz
    have hbd:byt s 0=((s.getD 0 0).toNat:Int):=rfl
    have hn0:nameP s→letP ((s.getD 0 0).toNat:Int):=fun hn=>by
      rcases hn.2.2 0 hz with h2|h2
      · exact h2
      · exact absurd rfl h2.1
    refine Gives_in Tryz.func80 rfl Tryz.ntmps80 Tryz.results80 (by kernel_rfl) (by simp) rfl fun Q hQ=>?_
    (have FX:=hgi;repeat'(first|(refine sx ?_ ?_<;>intro h<;>first|(exfalso;omega)|skip)|(refine g_op ?_;refine g_call ?_;refine g_args ?_;(first|refine s_fn (bisletter_c _ _) ?_|refine s_fn (bisdigit_c _ _) ?_)<;>try first|omega|assumption)|refine ny ?_|refine WA_block ?_))
    all_goals try
      ((refine r_es hQ ?_;try with_reducible rfl)
       exact congrArg V.bool (decide_eq_false (fun hn=>by first|(have h1:=hn.2.1;omega)|exact absurd (hn0 hn) (by assumption))).symm)
    have h0:letP ((s.getD 0 0).toNat:Int):=by assumption
    have h12:s.length≤12:=by omega
    refine WA_while (σ:=Nat) [0,2,3] (fun i=>[.str s,.bool false,.int .i64 i]) (fun _=>lend m++[]) (fun i=>i≤s.length∧∀ j,j<i→okC s j) (fun i=>s.length - i) 0 ⟨Nat.zero_le _,fun j h=>absurd h (Nat.not_lt_zero _)⟩ tv_ rfl ?_
    rintro i ⟨hi,hj⟩ L hL
    simp only [zipT]
    clear FX hgi
    rcases Nat.lt_or_ge i s.length with hlt|hge
    · have hgi:=byt_get hlt
      have hbi:byt s i=((s.getD i 0).toNat:Int):=rfl
      have hok:okC s i↔(letP ((s.getD i 0).toNat:Int)∨(i≠0∧(digP ((s.getD i 0).toNat:Int)∨((s.getD i 0).toNat:Int)=45))):=Iff.rfl
      have hz0:i=0→letP ((s.getD i 0).toNat:Int):=fun h=>by subst h;exact h0
      (have FX:=hgi;repeat'(first|(refine sx ?_ ?_<;>intro h<;>first|(exfalso;omega)|skip)|(refine g_op ?_;refine g_call ?_;refine g_args ?_;(first|refine s_fn (bisletter_c _ _) ?_|refine s_fn (bisdigit_c _ _) ?_)<;>try first|omega|assumption)|refine ny ?_|refine WA_block ?_))
      all_goals(try(exfalso;omega))
      all_goals try
        ((refine r_es hQ ?_;try with_reducible rfl)
         exact congrArg V.bool (nameP_bad hlt (fun h=>by have:=hok.1 h;grind)).symm)
      all_goals(refine next_ hL (i+1) ⟨by omega,fun j h=>?_⟩ (by omega))
      all_goals(rcases Nat.lt_or_ge j i with h2|h2)
      all_goals first
        |exact hj j h2
        | (obtain rfl:j=i:=by omega
           exact hok.2 (by grind))
    · have e:i=s.length:=by omega
      subst e
      have hgi:=hbd
      (have FX:=hgi;repeat'(first|(refine sx ?_ ?_<;>intro h<;>first|(exfalso;omega)|skip)|(refine g_op ?_;refine g_call ?_;refine g_args ?_;(first|refine s_fn (bisletter_c _ _) ?_|refine s_fn (bisdigit_c _ _) ?_)<;>try first|omega|assumption)|refine ny ?_|refine WA_block ?_))
      all_goals(try(exfalso;omega))
      all_goals((refine r_es hQ ?_;try with_reducible rfl))
      all_goals(exact congrArg V.bool (decide_eq_true ⟨hz,h12,hj⟩).symm)

theorem gwithin_c(n lo hi:Int)(m:Mem):Gives Tryz.prog 50 [.int .i64 n,.int .i64 lo,.int .i64 hi] m (.bool (decide (lo≤n∧n≤hi))):=by
  refine Gives_in Tryz.func50 rfl Tryz.ntmps50 Tryz.results50 (by kernel_rfl) (by simp) rfl fun Q hQ=>?_
  (repeat'(first|(refine sx ?_ ?_<;>intro h<;>first|(exfalso;omega)|skip)|refine ny ?_|refine WA_block ?_))
  all_goals((refine r_es hQ ?_;try with_reducible rfl);simp only [V.bool.injEq,decide_eq_true_eq,decide_eq_false_iff_not,eq_comm];first|omega|(simp;omega)|simp)

theorem bwithin_c(n lo hi:Int)(m:Mem):Gives Tryz.prog 13 [.int .i64 n,.int .i64 lo,.int .i64 hi] m (.bool (decide (lo≤n∧n≤hi))):=by
  refine Gives_in Tryz.func13 rfl Tryz.ntmps13 Tryz.results13 (by kernel_rfl) (by simp) rfl fun Q hQ=>?_
  (repeat'(first|(refine sx ?_ ?_<;>intro h<;>first|(exfalso;omega)|skip)|refine ny ?_|refine WA_block ?_))
  all_goals((refine r_es hQ ?_;try with_reducible rfl);simp only [V.bool.injEq,decide_eq_true_eq,decide_eq_false_iff_not,eq_comm];first|omega|(simp;omega)|simp)

theorem babs_c(n:Int)(h1: -9223372036854775807≤n)(h2:n≤9223372036854775807)(m:Mem):Gives Tryz.prog 73 [.int .i64 n] m (.int .i64 (n.natAbs:Int)):=by
  refine Gives_in Tryz.func73 rfl Tryz.ntmps73 Tryz.results73 (by kernel_rfl) (by simp) rfl fun Q hQ=>?_
  (repeat'(first|(refine sx ?_ ?_<;>intro h<;>first|(exfalso;omega)|skip)|refine ny ?_|refine WA_block ?_))
  all_goals((refine r_es hQ ?_;try with_reducible rfl);all_goals(simp only [V.int.injEq,true_and];omega))
def cmpI(x y:Int):Int:=if x<y then -1 else if y<x then 1 else 0
theorem cnan_c(n:Int)(m:Mem):Gives Tryz.prog 95 [.int .i64 n] m (.bool false):=by
  refine Gives_in Tryz.func95 rfl Tryz.ntmps95 Tryz.results95 (by kernel_rfl) (by simp) rfl fun Q hQ=>?_
  (repeat'(first|(refine sx ?_ ?_<;>intro h<;>first|(exfalso;omega)|skip)|refine ny ?_|refine WA_block ?_))
  all_goals((refine r_es hQ ?_;try with_reducible rfl);try simp)

theorem ccompare_c(x y:Int)(m:Mem):Gives Tryz.prog 60 [.int .i64 x,.int .i64 y] m (.int .i64 (cmpI x y)):=by
  refine Gives_in Tryz.func60 rfl Tryz.ntmps60 Tryz.results60 (by kernel_rfl) (by simp) rfl fun Q hQ=>?_
  (repeat'(first|(refine sx ?_ ?_<;>intro h<;>first|(exfalso;omega)|skip)|(refine g_op ?_;refine g_call ?_;refine g_args ?_;(first|refine s_fn (cnan_c _ _) ?_)<;>try first|omega|assumption)|refine ny ?_|refine WA_block ?_))
  all_goals((refine r_es hQ ?_;try with_reducible rfl);unfold cmpI;simp only [V.int.injEq,true_and];repeat (first|rw [if_pos (by assumption)]|rw [if_neg (by assumption)]))

theorem gsize_c(n:Int)(h1: -9223372036854775807≤n)(h2:n≤9223372036854775807)(m:Mem):Gives Tryz.prog 94 [.int .i64 n] m (.int .i64 (n.natAbs:Int)):=by
  refine Gives_in Tryz.func94 rfl Tryz.ntmps94 Tryz.results94 (by kernel_rfl) (by simp) rfl fun Q hQ=>?_
  (repeat'(first|(refine sx ?_ ?_<;>intro h<;>first|(exfalso;omega)|skip)|refine ny ?_|refine WA_block ?_))
  all_goals((refine r_es hQ ?_;try with_reducible rfl);try(simp only [V.int.injEq,true_and];split<;>omega))
end Go.Proofs.YtookikhphobnlaaGreatDoor
