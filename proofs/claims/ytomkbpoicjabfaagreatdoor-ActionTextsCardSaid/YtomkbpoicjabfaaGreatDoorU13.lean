/- the law ActionTexts, over contracts -/
import Derived.Test.YtomkbpoicjabfaaGreatDoorU11
import Derived.Test.YtomkbpoicjabfaaGreatDoorGAO
import Derived.Test.YtomkbpoicjabfaaGreatDoorGAW
set_option linter.unusedSimpArgs false
set_option linter.unusedVariables false
namespace Go.Proofs.YtomkbpoicjabfaaGreatDoor
open Go.RowKit
attribute [local irreducible] WA WOs WDs WAn qThen qBlock tput
set_option maxHeartbeats 1000000
set_option maxRecDepth 20000
set_option linter.unusedSimpArgs false
set_option linter.unusedVariables false
set_option maxHeartbeats 8000000
theorem aparse_c(s:Txt)(h:¬ (600<s.length∧s.length≤60000))(m:Mem):Gives Tryz.prog 6 [.str s] m (paV (prsA s)):=by
  by_cases hs:60000<s.length
  · exact aparse_long s hs m
  · have h1:=cutP_len 10 s
    exact aparse_rows s (by omega) (by omega) (fun r hr=>Nat.le_trans (cutP_sub hr) (by omega)) m
theorem rparse_c(s:Txt)(h:¬ (600<s.length∧s.length≤60000))(m:Mem):Gives Tryz.prog 7 [.str s] m (paV (prsA s)):=by
  by_cases hs:60000<s.length
  · exact rparse_long s hs m
  · exact rparse_walk s (by omega) m

theorem texts_out(s:Txt)(hout:(600<s.length∧s.length≤60000)∨60005<s.length)(m:Mem):Gives Tryz.prog 3 [.str s] m (.bool true):=by
  refine Gives_in Tryz.func3 rfl Tryz.ntmps3 Tryz.results3 (by kernel_rfl) (by simp) rfl fun Q hQ=>?_
  (repeat'(first|(refine sx ?_ ?_<;>intro h<;>first|(exfalso;omega)|skip)|(refine g_op ?_;refine g_call ?_;refine g_args ?_;(first|refine s_fn (lawake_c _) ?_)<;>try first|omega|assumption)|refine ny ?_|refine WA_block ?_))
  all_goals(try(exfalso;omega))
  all_goals(refine r_es hQ ?_;try with_reducible rfl)
theorem texts_in(s:Txt)(hin:¬ ((600<s.length∧s.length≤60000)∨60005<s.length))(m:Mem):Gives Tryz.prog 3 [.str s] m (.bool true):=by
  have hgp:=fun m=>aparse_c s (by omega) m
  have hrp:=fun m=>rparse_c s (by omega) m
  have hn:=prsA_n (s:=s) (by omega)
  have h0:=hn.n
  have hsm:=fun m=>rsame_c (prsA s).1 (by omega) (by omega) (by omega) (fun x hx=>(hn.p x hx).2) m
  simp only [paV,actV] at hgp hrp hsm
  clear hn h0
  generalize (prsA s).1=aa at *
  generalize (prsA s).2.1=k1 at *
  generalize (prsA s).2.2=k2 at *
  refine Gives_in Tryz.func3 rfl Tryz.ntmps3 Tryz.results3 (by kernel_rfl) (by simp) rfl fun Q hQ=>?_
  (repeat'(first|(refine sx ?_ ?_<;>intro h<;>first|(exfalso;omega)|skip)|(refine g_op ?_;refine g_call ?_;refine g_args ?_;(first|refine s_fn (lawake_c _) ?_|refine s_fn (hgp _) ?_|refine s_fn (hrp _) ?_|refine s_fn (hsm _) ?_)<;>try first|omega|assumption)|refine ny ?_|refine WA_block ?_))
  all_goals(try(exfalso;first|omega|contradiction))
  all_goals(refine r_es hQ ?_;try with_reducible rfl)
theorem texts_law(s:Txt)(m:Mem):Gives Tryz.prog 3 [.str s] m (.bool true):=by
  by_cases h:(600<s.length∧s.length≤60000)∨60005<s.length
  · exact texts_out s h m
  · exact texts_in s h m
end Go.Proofs.YtomkbpoicjabfaaGreatDoor
