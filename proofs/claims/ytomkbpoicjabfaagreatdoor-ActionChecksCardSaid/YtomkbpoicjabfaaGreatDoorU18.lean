/- the law ActionChecks, over contracts -/
import Derived.Test.YtomkbpoicjabfaaGreatDoorU17
import Derived.Test.YtomkbpoicjabfaaGreatDoorGAM
import Derived.Test.YtomkbpoicjabfaaGreatDoorU8
import Derived.Test.YtomkbpoicjabfaaGreatDoorGAU
import Derived.Test.YtomkbpoicjabfaaGreatDoorC20
import Derived.Test.YtomkbpoicjabfaaGreatDoorGAV
set_option linter.unusedSimpArgs false
set_option linter.unusedVariables false
namespace Go.Proofs.YtomkbpoicjabfaaGreatDoor
open Go.RowKit
attribute [local irreducible] WA WOs WDs WAn qThen qBlock tput
set_option maxHeartbeats 1000000
set_option maxRecDepth 20000
set_option linter.unusedSimpArgs false
set_option linter.unusedVariables false
set_option maxHeartbeats 8000000

theorem checks_out(a:ActR)(hout:¬ light a)(m:Mem):Gives Tryz.prog 4 [.agg (actV a)] m (.bool true):=by
  have hlg:=fun m=>llight_c a m
  unfold actV at hlg ⊢
  refine Gives_in Tryz.func4 rfl Tryz.ntmps4 Tryz.results4 (by kernel_rfl) (by simp) rfl fun Q hQ=>?_
  (have FX:=hout;repeat'(first|(refine sx ?_ ?_<;>intro h<;>first|(exfalso;omega)|skip)|(refine g_op ?_;refine g_call ?_;refine g_args ?_;(first|refine s_fn (lawake_c _) ?_|refine s_fn (hlg _) ?_)<;>try first|omega|assumption)|refine ny ?_|refine WA_block ?_))
  all_goals(try(exfalso;first|exact hout (by assumption)|omega|contradiction))
  all_goals(refine r_es hQ ?_;try with_reducible rfl)
theorem checks_bad(a:ActR)(hL:light a)(h0:acErr a≠0)(m:Mem):Gives Tryz.prog 4 [.agg (actV a)] m (.bool true):=by
  have hlt:=light_lt hL
  have hlg:=fun m=>llight_c a m
  rw [decide_eq_true hL] at hlg
  have hcp:=fun m=>lcopied_l a hL m
  have hpr:=fun m=>aprint_bad a hlt h0 m
  have hrc:=fun m=>rcheckaction_c a hlt m
  have hac:=fun m=>acheckaction_c a hlt m
  unfold actV at hlg hcp hpr hrc hac ⊢
  generalize acErr a=c at *
  refine Gives_in Tryz.func4 rfl Tryz.ntmps4 Tryz.results4 (by kernel_rfl) (by simp) rfl fun Q hQ=>?_
  (have FX:=h0;repeat'(first|(refine sx ?_ ?_<;>intro h<;>first|(exfalso;omega)|skip)|(refine g_op ?_;refine g_call ?_;refine g_args ?_;(first|refine s_fn (lawake_c _) ?_|refine s_fn (hlg _) ?_|refine s_fn (hcp _) ?_|refine s_fn (hpr _) ?_|refine s_fn (hrc _) ?_|refine s_fn (hac _) ?_)<;>try first|omega|assumption)|refine ny ?_|refine WA_block ?_))
  all_goals(try(exfalso;first|omega|contradiction))
  all_goals(refine r_es hQ ?_;try with_reducible rfl)
theorem checks_ok(a:ActR)(hL:light a)(h0:acErr a=0)(m:Mem):Gives Tryz.prog 4 [.agg (actV a)] m (.bool true):=by
  have hlt:=light_lt hL
  have hw:=wr_act h0
  have hlg:=fun m=>llight_c a m
  rw [decide_eq_true hL] at hlg
  have hcp:=fun m=>lcopied_l a hL m
  have hpr:=fun m=>aprint_ok a hlt hw h0 m
  have hrc:=fun m=>rcheckaction_c a hlt m
  have hac:=fun m=>acheckaction_c a hlt m
  rw [h0] at hrc hac
  have hpl:=printA_len hw
  have hps:=fun m=>aparse_rows (printA a) (by omega) (by
    rw [cut_printA hw,List.length_append,linesA_n]
    have:=hw.fp
    have:=hw.fe
    have:=hw.fl
    simp only [List.length_cons,List.length_nil]
    omega) (fun r hr=>by
    rw [cut_printA hw] at hr
    rcases List.mem_append.1 hr with hr|hr
    · exact linesA_len hw r hr
    · obtain rfl:=List.mem_singleton.1 hr
      exact Nat.zero_le _) m
  rw [printA_back hw h0] at hps
  simp only [paV] at hps
  have hrp:=fun m=>rprint_c a hw m
  have hsm:=fun m=>rsame_c a (by have:=hw.fp;omega) (by have:=hw.fe;omega) (by have:=hw.fl;omega) (fun x hx=>by have:=(hw.p x hx).k;omega) m
  unfold actV at hlg hcp hpr hrc hac hps hrp hsm ⊢
  generalize printA a=tx at *
  refine Gives_in Tryz.func4 rfl Tryz.ntmps4 Tryz.results4 (by kernel_rfl) (by simp) rfl fun Q hQ=>?_
  (have FX:=h0;repeat'(first|(refine sx ?_ ?_<;>intro h<;>first|(exfalso;omega)|skip)|(refine g_op ?_;refine g_call ?_;refine g_args ?_;(first|refine s_fn (lawake_c _) ?_|refine s_fn (hlg _) ?_|refine s_fn (hcp _) ?_|refine s_fn (hpr _) ?_|refine s_fn (hrc _) ?_|refine s_fn (hac _) ?_|refine s_fn (hps _) ?_|refine s_fn (hrp _) ?_|refine s_fn (hsm _) ?_)<;>try first|omega|assumption)|refine ny ?_|refine WA_block ?_))
  all_goals(try(exfalso;first|omega|contradiction))
  all_goals(refine r_es hQ ?_;try with_reducible rfl)
theorem checks_law(a:ActR)(m:Mem):Gives Tryz.prog 4 [.agg (actV a)] m (.bool true):=by
  by_cases hL:light a
  · by_cases h0:acErr a=0
    · exact checks_ok a hL h0 m
    · exact checks_bad a hL h0 m
  · exact checks_out a hL m
end Go.Proofs.YtomkbpoicjabfaaGreatDoor
