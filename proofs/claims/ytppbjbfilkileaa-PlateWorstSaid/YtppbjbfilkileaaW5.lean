/- contracts: the greatest bending, and whether a girder holds -/
import Derived.Test.YtppbjbfilkileaaGAI
import Derived.Test.YtppbjbfilkileaaW4
set_option linter.unusedSimpArgs false
set_option linter.unusedVariables false
namespace Go.Proofs.Ytppbjbfilkileaa
open Go.RowKit
attribute [local irreducible] WA WOs WDs WAn qThen qBlock tput
set_option maxHeartbeats 1000000
set_option maxRecDepth 20000
set_option linter.unusedSimpArgs false
set_option linter.unusedVariables false
set_option maxHeartbeats 4000000
theorem chk_w{a b w:Int}{ls:List Ld}(h:chkE a b w ls=0):0≤w∧w≤1000000000000:=by
  unfold chkE at h
  split at h
  · contradiction
  · rename_i hg
    have hg:girdErr a b w=0:=by omega
    unfold girdErr at hg
    split at hg
    · simp at hg
    · omega
theorem mul_w{w d:Int}(h1:0≤w∧w≤1000000000000)(h2:0≤d∧d≤40000):0≤w * d∧w * d≤40000000000000000:=by
  have e:(w * d).natAbs=w.natAbs * d.natAbs:=Int.natAbs_mul w d
  have:w.natAbs * d.natAbs≤1000000000000 * 40000:=Nat.mul_le_mul (by omega) (by omega)
  have:0≤w * d:=Int.mul_nonneg h1.1 h2.1
  omega
theorem le_mulg{x g:Int}(hx:0≤x)(hg:0<g):x≤x * g:=by
  have:=Int.mul_le_mul_of_nonneg_left (show 1≤g by omega) hx
  omega
theorem pworst2_c(a b w:Int)(ls:List Ld)(h:BeamOk a b ls)(hl:ls.length≤12)(at0:Int)(hat:IsW a b ls at0)(m:Mem):Gives Try.prog 22 [.agg [.int .i64 a,.int .i64 b,.int .i64 w,.lst (ldsV ls)]] m (.tup [.int .i64 at0,.int .i64 (benA a b ls at0)]):=by
  have h1:=pworst_c a b w ls h hl m
  obtain⟨h2,h3⟩:=wrst_isW h
  rw [h3,isW_uniq h2 hat] at h1
  exact h1

theorem pW_bad(a b w:Int)(ls:List Ld)(hl:ls.length≤1000000)(e:Int)(he:chkE a b w ls=e)(h0:e≠0)(m:Mem):Gives Try.prog 7 [.agg [.int .i64 a,.int .i64 b,.int .i64 w],.lst (ldsV ls)] m (.tup [.int .i64 0,.agg [.int .i64 0,.int .i64 0],.int .i64 e]):=by
  refine Gives_in Try.func7 rfl Try.ntmps7 Try.results7 (by kernel_rfl) (by simp) rfl fun Q hQ=>?_
  (repeat'(first|(refine sx ?_ ?_<;>intro h<;>first|(exfalso;omega)|skip)|(refine g_op ?_;refine g_call ?_;refine g_args ?_;(first|refine s_fn (pcheck2_c _ _ _ _ _ he hl _) ?_|refine s_fn (beamof_c _ _ _ _ hl _) ?_|refine s_fn (hw _) ?_|refine s_fn (width_c _ _ _ _ ha hb _) ?_|refine s_fn (lowest_c _ _ ?_ ?_ ?_ ?_ _) ?_)<;>try first|omega|assumption)|refine ny ?_|refine WA_block ?_))
  all_goals(refine r_es hQ ?_;try with_reducible rfl)
theorem pW_ok(a b w:Int)(ls:List Ld)(he:chkE a b w ls=0)(h12:ls.length≤12)(at0:Int)(hat:IsW a b ls at0)(m:Mem):Gives Try.prog 7 [.agg [.int .i64 a,.int .i64 b,.int .i64 w],.lst (ldsV ls)] m (.tup [.int .i64 at0,.agg [.int .i64 (lowF (benA a b ls at0) (b - a)).1,.int .i64 (lowF (benA a b ls at0) (b - a)).2],.int .i64 0]):=by
  have h:=beam_of he
  have hl:ls.length≤1000000:=by omega
  have ha:=h.ha
  have hb:=h.hb
  have hab:=h.hab
  have hn:=benA_bd h (isW_in h hat)
  have hw:=fun m=>pworst2_c a b w ls h h12 at0 hat m
  generalize benA a b ls at0=n at *
  unfold lowF
  refine Gives_in Try.func7 rfl Try.ntmps7 Try.results7 (by kernel_rfl) (by simp) rfl fun Q hQ=>?_
  (repeat'(first|(refine sx ?_ ?_<;>intro h<;>first|(exfalso;omega)|skip)|(refine g_op ?_;refine g_call ?_;refine g_args ?_;(first|refine s_fn (pcheck2_c _ _ _ _ _ he hl _) ?_|refine s_fn (beamof_c _ _ _ _ hl _) ?_|refine s_fn (hw _) ?_|refine s_fn (width_c _ _ _ _ ha hb _) ?_|refine s_fn (lowest_c _ _ ?_ ?_ ?_ ?_ _) ?_)<;>try first|omega|assumption)|refine ny ?_|refine WA_block ?_))
  all_goals(refine r_es hQ ?_;try with_reducible rfl)
theorem uW5_9_6{N:Nat}{l:List Oper}{t:List (Nat×V)}{m:Mem}{Q:Exit→List (Nat×V)→Mem→Prop}(h:RgN Try.prog N l t m Q (fun i=>if i==2 || i==3 || i==5 || i==6 || i==7 then .q else .p) [.one 0,.one 1,.one 2,.one 3,.one 4,.one 5,.one 6,.one 7,.one 8,.one 9]):WA Try.prog N (.region 6 l.toArray true) t m Q:=d_rgN h
theorem pH_bad(a b w:Int)(ls:List Ld)(hl:ls.length≤1000000)(e:Int)(he:chkE a b w ls=e)(h0:e≠0)(m:Mem):Gives Try.prog 9 [.agg [.int .i64 a,.int .i64 b,.int .i64 w],.lst (ldsV ls)] m (.int .i64 e):=by
  refine Gives_in Try.func9 rfl Try.ntmps9 Try.results9 (by kernel_rfl) (by simp) rfl fun Q hQ=>?_
  (repeat'(first|(refine sx ?_ ?_<;>intro h<;>first|(exfalso;omega)|skip)|(refine g_op ?_;refine g_call ?_;refine g_args ?_;(first|refine s_fn (pcheck2_c _ _ _ _ _ he hl _) ?_|refine s_fn (beamof_c _ _ _ _ hl _) ?_|refine s_fn (hw _) ?_|refine s_fn (width_c _ _ _ _ ha hb _) ?_)<;>try first|omega|assumption)|refine ny ?_|refine WA_block ?_|(refine uW5_9_6 ?_;refine⟨by kernel_rfl,?_⟩)|((first|refine grp_cons (fun _=>pcheck2_c _ _ _ _ _ he hl _) ?_|refine grp_cons (fun _=>beamof_c _ _ _ _ hl _) ?_|refine grp_cons (fun _=>hw _) ?_|refine grp_cons (fun _=>width_c _ _ _ _ ha hb _) ?_)<;>try first|omega|assumption)|(refine g_d ?_;refine d_args ?_;(first|refine d_fn (pcheck2_c _ _ _ _ _ he hl _) ?_|refine d_fn (beamof_c _ _ _ _ hl _) ?_|refine d_fn (hw _) ?_|refine d_fn (width_c _ _ _ _ ha hb _) ?_|refine d_fnQ (fun _=>pcheck2_c _ _ _ _ _ he hl _) ?_|refine d_fnQ (fun _=>beamof_c _ _ _ _ hl _) ?_|refine d_fnQ (fun _=>hw _) ?_|refine d_fnQ (fun _=>width_c _ _ _ _ ha hb _) ?_)<;>try first|omega|assumption)|(refine g_d ?_;(first|refine d_fnY (pcheck2_c _ _ _ _ _ he hl _) ?_|refine d_fnY (beamof_c _ _ _ _ hl _) ?_|refine d_fnY (hw _) ?_|refine d_fnY (width_c _ _ _ _ ha hb _) ?_)<;>try first|omega|assumption)))
  all_goals(refine r_es hQ ?_;try with_reducible rfl)
theorem pH_ok(a b w:Int)(ls:List Ld)(he:chkE a b w ls=0)(h12:ls.length≤12)(at0:Int)(hat:IsW a b ls at0)(m:Mem):Gives Try.prog 9 [.agg [.int .i64 a,.int .i64 b,.int .i64 w],.lst (ldsV ls)] m (.int .i64 (if w * (b - a)<((benA a b ls at0).natAbs:Int) then 26 else 0)):=by
  have h:=beam_of he
  have hl:ls.length≤1000000:=by omega
  have ha:=h.ha
  have hb:=h.hb
  have hab:=h.hab
  have hn:=benA_bd h (isW_in h hat)
  have hm:=mul_w (d:=b - a) (chk_w he) (by omega)
  have hw:=fun m=>pworst2_c a b w ls h h12 at0 hat m
  generalize benA a b ls at0=n at *
  generalize hq:w * (b - a)=q at *
  have FX:=hq
  refine Gives_in Try.func9 rfl Try.ntmps9 Try.results9 (by kernel_rfl) (by simp) rfl fun Q hQ=>?_
  (repeat'(first|(refine sx ?_ ?_<;>intro h<;>first|(exfalso;omega)|skip)|(refine g_op ?_;refine g_call ?_;refine g_args ?_;(first|refine s_fn (pcheck2_c _ _ _ _ _ he hl _) ?_|refine s_fn (beamof_c _ _ _ _ hl _) ?_|refine s_fn (hw _) ?_|refine s_fn (width_c _ _ _ _ ha hb _) ?_)<;>try first|omega|assumption)|refine ny ?_|refine WA_block ?_|(refine uW5_9_6 ?_;refine⟨by kernel_rfl,?_⟩)|((first|refine grp_cons (fun _=>pcheck2_c _ _ _ _ _ he hl _) ?_|refine grp_cons (fun _=>beamof_c _ _ _ _ hl _) ?_|refine grp_cons (fun _=>hw _) ?_|refine grp_cons (fun _=>width_c _ _ _ _ ha hb _) ?_)<;>try first|omega|assumption)|(refine g_d ?_;refine d_args ?_;(first|refine d_fn (pcheck2_c _ _ _ _ _ he hl _) ?_|refine d_fn (beamof_c _ _ _ _ hl _) ?_|refine d_fn (hw _) ?_|refine d_fn (width_c _ _ _ _ ha hb _) ?_|refine d_fnQ (fun _=>pcheck2_c _ _ _ _ _ he hl _) ?_|refine d_fnQ (fun _=>beamof_c _ _ _ _ hl _) ?_|refine d_fnQ (fun _=>hw _) ?_|refine d_fnQ (fun _=>width_c _ _ _ _ ha hb _) ?_)<;>try first|omega|assumption)|(refine g_d ?_;(first|refine d_fnY (pcheck2_c _ _ _ _ _ he hl _) ?_|refine d_fnY (beamof_c _ _ _ _ hl _) ?_|refine d_fnY (hw _) ?_|refine d_fnY (width_c _ _ _ _ ha hb _) ?_)<;>try first|omega|assumption)))
  all_goals(refine r_es hQ ?_)
  all_goals first
    |rw [if_pos (by omega)]
    |rw [if_neg (by omega)]
theorem uW5_12_2{N:Nat}{l:List Oper}{t:List (Nat×V)}{m:Mem}{Q:Exit→List (Nat×V)→Mem→Prop}(h:RgN Try.prog N l t m Q (fun i=>if i==1 || i==2 || i==4 || i==6 then .q else .p) [.one 0,.one 1,.one 2,.one 3,.one 4,.one 5,.one 6,.one 7,.one 8,.one 9]):WA Try.prog N (.region 2 l.toArray true) t m Q:=d_rgN h
theorem rH_ok(a b w:Int)(ls:List Ld)(he:chkE a b w ls=0)(at0:Int)(hat:IsW a b ls at0)(m:Mem):Gives Try.prog 12 [.agg [.int .i64 a,.int .i64 b,.int .i64 w],.lst (ldsV ls)] m (.bool (decide (¬ w * (b - a)<((benA a b ls at0).natAbs:Int)))):=by
  have h:=beam_of he
  have ha:=h.ha
  have hb:=h.hb
  have hab:=h.hab
  have hw:=chk_w he
  have hn:=benA_bd h (isW_in h hat)
  have hr:=fun m=>rworst_c a b w ls h at0 hat m
  obtain⟨g,g1,g2,g3,g4,g5,g6⟩:=low_back (n:=benA a b ls at0) (d:=b - a) (by omega)
  generalize lowF (benA a b ls at0) (b - a)=R at *
  obtain⟨R1,R2⟩:=R
  dsimp only at *
  have hR2:R2≤b - a:=by rw [←g3];exact le_mulg (by omega) g1
  have hm:=mul_w (d:=R2) hw (by omega)
  have hle:((R1.natAbs:Int)≤w * R2)↔¬ (w * (b - a)<((benA a b ls at0).natAbs:Int)):=by
    rw [←g6,←g3,←Int.mul_assoc]
    constructor
    · intro h1 h2
      have:=Int.mul_le_mul_of_nonneg_right h1 (show 0≤g by omega)
      omega
    · intro h1
      exact Int.le_of_mul_le_mul_right (by omega) g1
  have hR1:(R1.natAbs:Int)≤((benA a b ls at0).natAbs:Int):=by rw [←g6];exact le_mulg (by omega) g1
  generalize benA a b ls at0=n at *
  refine Gives_in Try.func12 rfl Try.ntmps12 Try.results12 (by kernel_rfl) (by simp) rfl fun Q hQ=>?_
  (repeat'(first|(refine sx ?_ ?_<;>intro h<;>first|(exfalso;omega)|skip)|(refine g_op ?_;refine g_call ?_;refine g_args ?_;(first|refine s_fn (hr _) ?_|refine s_fn (abs_c _ ?_ ?_ _) ?_)<;>try first|omega|assumption)|refine ny ?_|refine WA_block ?_|(refine uW5_12_2 ?_;refine⟨by kernel_rfl,?_⟩)|((first|refine grp_cons (fun _=>hr _) ?_|refine grp_cons (fun _=>abs_c _ ?_ ?_ _) ?_)<;>try first|omega|assumption)|(refine g_d ?_;refine d_args ?_;(first|refine d_fn (hr _) ?_|refine d_fn (abs_c _ ?_ ?_ _) ?_|refine d_fnQ (fun _=>hr _) ?_|refine d_fnQ (fun _=>abs_c _ ?_ ?_ _) ?_)<;>try first|omega|assumption)|(refine g_d ?_;(first|refine d_fnY (hr _) ?_|refine d_fnY (abs_c _ ?_ ?_ _) ?_)<;>try first|omega|assumption)))
  all_goals(refine r_es hQ ?_)
  all_goals first
    |rw [decide_eq_true (hle.1 (by assumption))]
    |rw [decide_eq_false (fun q=>absurd (hle.2 q) (by assumption))]
end Go.Proofs.Ytppbjbfilkileaa
