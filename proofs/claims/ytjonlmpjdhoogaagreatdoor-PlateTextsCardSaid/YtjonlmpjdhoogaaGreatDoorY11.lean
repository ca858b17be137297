/- the law PlateTexts, over contracts -/
import Derived.Test.YtjonlmpjdhoogaaGreatDoorY10
import Derived.Test.YtjonlmpjdhoogaaGreatDoorY5
import Derived.Test.YtjonlmpjdhoogaaGreatDoorGAJ
set_option linter.unusedSimpArgs false
set_option linter.unusedVariables false
namespace Go.Proofs.YtjonlmpjdhoogaaGreatDoor
open Go.RowKit
attribute [local irreducible] WA WOs WDs WAn qThen qBlock tput
set_option maxHeartbeats 1000000
set_option maxRecDepth 20000
set_option linter.unusedSimpArgs false
set_option linter.unusedVariables false
set_option maxHeartbeats 8000000

theorem plate_out1(l:List Pl)(s:Txt)(h:¬ (l.length≤20∨(300<l.length∧l.length≤305)))(m:Mem):Gives Tryz.prog 3 [.lst (plsV l),.str s] m (.bool true):=by
  have hf:=fun m=>few_c l false (decide_eq_false h) m
  refine Gives_in Tryz.func3 rfl Tryz.ntmps3 Tryz.results3 (by kernel_rfl) (by simp) rfl fun Q hQ=>?_
  (repeat'(first|(refine sx ?_ ?_<;>intro h<;>first|(exfalso;omega)|skip)|(refine g_op ?_;refine g_call ?_;refine g_args ?_;(first|refine s_fn (awake_c _) ?_|refine s_fn (hf _) ?_)<;>try first|omega|assumption)|refine ny ?_|refine WA_block ?_))
  all_goals(try(exfalso;omega))
  all_goals(refine r_es hQ ?_;try with_reducible rfl)
theorem plate_out2(l:List Pl)(s:Txt)(h:l.length≤20∨(300<l.length∧l.length≤305))(hs:(500<s.length∧s.length≤60000)∨60100<s.length)(m:Mem):Gives Tryz.prog 3 [.lst (plsV l),.str s] m (.bool true):=by
  have hf:=fun m=>few_c l true (decide_eq_true h) m
  refine Gives_in Tryz.func3 rfl Tryz.ntmps3 Tryz.results3 (by kernel_rfl) (by simp) rfl fun Q hQ=>?_
  (repeat'(first|(refine sx ?_ ?_<;>intro h<;>first|(exfalso;omega)|skip)|(refine g_op ?_;refine g_call ?_;refine g_args ?_;(first|refine s_fn (awake_c _) ?_|refine s_fn (hf _) ?_)<;>try first|omega|assumption)|refine ny ?_|refine WA_block ?_))
  all_goals(try(exfalso;omega))
  all_goals(refine r_es hQ ?_;try with_reducible rfl)
theorem plate_bad(l:List Pl)(s:Txt)(h:l.length≤20∨(300<l.length∧l.length≤305))(hs:s.length≤500∨(60000<s.length∧s.length≤60100))(h0:frcErr l≠0)(m:Mem):Gives Tryz.prog 3 [.lst (plsV l),.str s] m (.bool true):=by
  have hf:=fun m=>few_c l true (decide_eq_true h) m
  have hcp:=fun m=>copied_c l (by omega) m
  have hpr:=fun m=>pprint_bad l h0 m
  have hcb:=fun m=>rcheckf_c l (by omega) m
  have hpp:=fun m=>pparse_c s (by omega) m
  have hrp:=fun m=>rparse_c s (by omega) m
  have h3:=prsF_few s
  have hsm:=fun m=>same_c (prsF s).1 (prsF s).1 (by omega) (by omega) m
  simp only [decide_true] at hsm
  simp only [pfV] at hpp hrp
  clear h3
  generalize (prsF s).1=bb at *
  generalize (prsF s).2.1=n1 at *
  generalize (prsF s).2.2=n2 at *
  generalize frcErr l=c at *
  refine Gives_in Tryz.func3 rfl Tryz.ntmps3 Tryz.results3 (by kernel_rfl) (by simp) rfl fun Q hQ=>?_
  (have FX:=h0;repeat'(first|(refine sx ?_ ?_<;>intro h<;>first|(exfalso;omega)|skip)|(refine g_op ?_;refine g_call ?_;refine g_args ?_;(first|refine s_fn (awake_c _) ?_|refine s_fn (hf _) ?_|refine s_fn (hcp _) ?_|refine s_fn (hpr _) ?_|refine s_fn (hcb _) ?_|refine s_fn (hpp _) ?_|refine s_fn (hrp _) ?_|refine s_fn (hsm _) ?_)<;>try first|omega|assumption)|refine ny ?_|refine WA_block ?_))
  all_goals(try(exfalso;first|omega|contradiction))
  all_goals(refine r_es hQ ?_;try with_reducible rfl)
theorem plate_ok(l:List Pl)(s:Txt)(h:l.length≤20∨(300<l.length∧l.length≤305))(hs:s.length≤500∨(60000<s.length∧s.length≤60100))(h0:frcErr l=0)(m:Mem):Gives Tryz.prog 3 [.lst (plsV l),.str s] m (.bool true):=by
  have hf:=fun m=>few_c l true (decide_eq_true h) m
  have hcp:=fun m=>copied_c l (by omega) m
  have hpr:=fun m=>pprint_ok l h0 m
  have hcb:=fun m=>rcheckf_c l (by omega) m
  obtain⟨f1,f2,f3,f4⟩:=printF_all h0
  obtain⟨g1,g2⟩:=ok_fwr h0
  have hbk:=fun m=>pparse_rows (printF l) f1 f2 f3 m
  have hrr:=fun m=>rprint_c l g2 g1 m
  have hse:=fun m=>same_c l l (by omega) (by omega) m
  have hpp:=fun m=>pparse_c s (by omega) m
  have hrp:=fun m=>rparse_c s (by omega) m
  have h3:=prsF_few s
  have hsm:=fun m=>same_c (prsF s).1 (prsF s).1 (by omega) (by omega) m
  rw [f4] at hbk
  rw [h0] at hcb
  simp only [decide_true] at hsm hse
  simp only [pfV] at hpp hrp hbk
  clear h3 f2 f3 f4 g2
  generalize (prsF s).1=bb at *
  generalize (prsF s).2.1=n1 at *
  generalize (prsF s).2.2=n2 at *
  generalize printF l=tx at *
  refine Gives_in Tryz.func3 rfl Tryz.ntmps3 Tryz.results3 (by kernel_rfl) (by simp) rfl fun Q hQ=>?_
  (have FX:=h0;repeat'(first|(refine sx ?_ ?_<;>intro h<;>first|(exfalso;omega)|skip)|(refine g_op ?_;refine g_call ?_;refine g_args ?_;(first|refine s_fn (awake_c _) ?_|refine s_fn (hf _) ?_|refine s_fn (hcp _) ?_|refine s_fn (hpr _) ?_|refine s_fn (hcb _) ?_|refine s_fn (hbk _) ?_|refine s_fn (hrr _) ?_|refine s_fn (hse _) ?_|refine s_fn (hpp _) ?_|refine s_fn (hrp _) ?_|refine s_fn (hsm _) ?_)<;>try first|omega|assumption)|refine ny ?_|refine WA_block ?_))
  all_goals(try(exfalso;first|omega|contradiction))
  all_goals(refine r_es hQ ?_;try with_reducible rfl)
theorem plate_law(l:List Pl)(s:Txt)(m:Mem):Gives Tryz.prog 3 [.lst (plsV l),.str s] m (.bool true):=by
  by_cases h:l.length≤20∨(300<l.length∧l.length≤305)
  · by_cases hs:(500<s.length∧s.length≤60000)∨60100<s.length
    · exact plate_out2 l s h hs m
    · by_cases h0:frcErr l=0
      · exact plate_ok l s h (by omega) h0 m
      · exact plate_bad l s h (by omega) h0 m
  · exact plate_out1 l s h m
end Go.Proofs.YtjonlmpjdhoogaaGreatDoor
