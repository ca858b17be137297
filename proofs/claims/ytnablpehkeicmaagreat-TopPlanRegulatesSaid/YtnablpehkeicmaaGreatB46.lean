/- contracts: the plan of steps -/
import Derived.Test.YtnablpehkeicmaaGreatGAN
import Derived.Test.YtnablpehkeicmaaGreatGAL
set_option linter.unusedSimpArgs false
set_option linter.unusedVariables false
namespace Go.Proofs.YtnablpehkeicmaaGreat
open Go.RowKit
attribute [local irreducible] WA WOs WDs WAn qThen qBlock tput
set_option maxHeartbeats 1000000
set_option maxRecDepth 20000
set_option linter.unusedSimpArgs false
set_option linter.unusedVariables false
set_option maxHeartbeats 8000000
theorem pasP_zero(b:BnR)(left:List Int):pasP b left 0=[]:=by simp [pasP]
theorem nsV_frz(b:Nat)(es:List (List V))(l:List Int):(nsV l).map (List.map (frzV b es))=nsV l:=by
  simp [nsV,frzV]

theorem gplanned_bad (b:BnR) (hb:Bl b) (l:List Int) (h0:mkE b l≠0) (m:Mem):Gives Tryz.prog 28 [.agg (bnV b),.lst (nsV l)] m (.tup [.nilptr,.int .i64 0,.int .i64 (mkE b l)]):=by
  have hx0:=h0
  have hpa:=h0
  unfold mkE bsErr at*
  by_cases h:bnErr b=0
  · have hwi:=fun m=>gwith_ok b hb h l m
    rw [if_neg (show ¬ bnErr b≠0 by omega)] at*
    by_cases h2:stErr b.ads l=0
    · rw [if_neg (by omega)] at hx0 h0 ⊢
      have hbd:=bnd_ok (bn_ok h)
      have hst:=stErr_ok h2
      have hpa:=fun m=>gpasses_c b hbd l hst.1 (steps_bd hbd hst.2) m
      rw [h2] at hwi
      generalize pasK b.ads l b.ads.length=n at*
      by_cases h3:50<n
      · rw [if_pos h3] at hx0 h0 ⊢
        unfold bnV at hwi ⊢
        refine Gives_in Tryz.func28 rfl Tryz.ntmps28 Tryz.results28 (by kernel_rfl) (by simp) rfl fun Q hQ=>?_
        (have FX:=hx0;repeat'(first|(refine sx ?_ ?_<;>intro h<;>first|(exfalso;omega)|skip)|(refine na ?_;(first|refine nb hwi ?_|refine nb hpa ?_)<;>try first|omega|assumption)|refine ny ?_|refine WA_block ?_))
        all_goals(try(exfalso;omega))
        all_goals((refine r_es hQ ?_;try with_reducible rfl))
      · rw [if_neg h3] at h0
        omega
    · rw [if_pos (by omega)] at hx0 h0 ⊢
      unfold bnV at hwi ⊢
      refine Gives_in Tryz.func28 rfl Tryz.ntmps28 Tryz.results28 (by kernel_rfl) (by simp) rfl fun Q hQ=>?_
      (have FX:=hx0;repeat'(first|(refine sx ?_ ?_<;>intro h<;>first|(exfalso;omega)|skip)|(refine na ?_;(first|refine nb hwi ?_|refine nb hpa ?_)<;>try first|omega|assumption)|refine ny ?_|refine WA_block ?_))
      all_goals(try(exfalso;omega))
      all_goals((refine r_es hQ ?_;try with_reducible rfl))
  · have hwi:=fun m=>gwith_bad b hb h l m
    rw [if_pos (show bnErr b≠0 by omega)] at*
    rw [if_pos (by omega)] at hx0 h0 ⊢
    unfold bnV at hwi ⊢
    refine Gives_in Tryz.func28 rfl Tryz.ntmps28 Tryz.results28 (by kernel_rfl) (by simp) rfl fun Q hQ=>?_
    (have FX:=hx0;repeat'(first|(refine sx ?_ ?_<;>intro h<;>first|(exfalso;omega)|skip)|(refine na ?_;(first|refine nb hwi ?_|refine nb hpa ?_)<;>try first|omega|assumption)|refine ny ?_|refine WA_block ?_))
    all_goals(try(exfalso;omega))
    all_goals((refine r_es hQ ?_;try with_reducible rfl))
theorem mk_ok{b:BnR}{l:List Int}(h:mkE b l=0):bnErr b=0∧stErr b.ads l=0∧stOk b.ads l∧0≤pasK b.ads l b.ads.length∧pasK b.ads l b.ads.length≤50:=by
  unfold mkE bsErr at h
  by_cases h1:bnErr b=0
  · rw [if_neg (show ¬ bnErr b≠0 by omega)] at h
    by_cases h2:stErr b.ads l=0
    · rw [if_neg (by omega)] at h
      have hbd:=bnd_ok (bn_ok h1)
      have hst:=stErr_ok h2
      have hp:=pasK_bd (steps_bd hbd hst.2) hbd.pa b.ads.length (Nat.le_refl _)
      by_cases h3:50<pasK b.ads l b.ads.length
      · rw [if_pos h3] at h;omega
      · exact⟨h1,h2,stErr_iff.1 h2,hp.1,by omega⟩
    · rw [if_pos (by omega)] at h;omega
  · rw [if_pos (by omega),if_pos (by omega)] at h;omega
theorem gplanned_ok(b:BnR)(hb:Bl b)(l:List Int)(h0:mkE b l=0)(m:Mem):Gives Tryz.prog 28 [.agg (bnV b),.lst (nsV l)] m (.tup [.bp (bxC b) 0,.int .i64 (pasK b.ads l b.ads.length),.int .i64 0]):=by
  obtain⟨h,h2,hst,hp1,hp2⟩:=mk_ok h0
  have hx0:=h0
  have hbd:=bnd_ok (bn_ok h)
  have hwi:=fun m=>gwith_ok b hb h l m
  rw [h2] at hwi
  have hpa:=fun m=>gpasses_c b hbd l hst.1 (steps_bd hbd hst.2) m
  generalize pasK b.ads l b.ads.length=n at*
  unfold bnV at hwi ⊢
  refine CallA_in Tryz.func28 rfl Tryz.ntmps28 Tryz.results28 (by kernel_rfl) (by simp) fun Q hQ=>?_
  (have FX:=hx0;repeat'(first|(refine sx ?_ ?_<;>intro h<;>first|(exfalso;omega)|skip)|(refine na ?_;(first|refine nb hwi ?_|refine nb hpa ?_)<;>try first|omega|assumption)|refine ny ?_|refine WA_block ?_))
  all_goals(try(exfalso;omega))
  all_goals(refine r_esA hQ (.inr ⟨_,_,rfl,?_,⟨rfl,rfl⟩⟩))
  all_goals(show(frzs (frz _ _ 3) [_,_,_]).map V.tup=_;rw [frzs_cons (frz_bpx b) (frzs_cons (frz_int _ _ _ _ _) (frzs_cons (frz_int _ _ _ _ _) rfl))];rfl)

theorem gPlanOf_bad(b:BnR)(hb:Bl b)(l:List Int)(h:mkE b l≠0)(m:Mem):Gives Tryz.prog 10 [.agg (bnV b),.lst (nsV l)] m (.tup [.nilsl,.int .i64 (mkE b l)]):=by
  have hx0:=nsV_length (l:=l)
  have hcl:=hx0
  have hpl:=fun m=>gplanned_bad b hb l h m
  unfold bnV at hpl ⊢
  refine Gives_in Tryz.func10 rfl Tryz.ntmps10 Tryz.results10 (by kernel_rfl) (by simp) rfl fun Q hQ=>?_
  (have FX:=hx0;repeat'(first|(refine sx ?_ ?_<;>intro h<;>first|(exfalso;omega)|skip)|(refine na ?_;(first|refine nb hpl ?_|refine nb hcl ?_)<;>try first|omega|assumption)|refine ny ?_|refine WA_block ?_))
  all_goals(try(exfalso;omega))
  all_goals((refine r_es hQ ?_;try with_reducible rfl))
end Go.Proofs.YtnablpehkeicmaaGreat
