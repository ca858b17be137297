/- contracts: right curves -/
import Derived.Test.YtomkbpoicjabfaaGreatDoorGAC
import Derived.Test.YtomkbpoicjabfaaGreatDoorYC
set_option linter.unusedSimpArgs false
set_option linter.unusedVariables false
namespace Go.Proofs.YtomkbpoicjabfaaGreatDoor
open Go.RowKit
attribute [local irreducible] WA WOs WDs WAn qThen qBlock tput
set_option maxHeartbeats 1000000
set_option maxRecDepth 20000
set_option linter.unusedSimpArgs false
set_option linter.unusedVariables false
attribute [local irreducible] smB cut sm
def rkV(k:Rk):List V:=[.int .i64 k.1.1,.int .i64 k.1.2,.int .i64 k.2.1,.int .i64 k.2.2]
def rksV(l:List Rk):List (List V):=l.map rkV
theorem rksV_length{l:List Rk}:(rksV l).length=l.length:=by simp [rksV]
theorem rksV_get{l:List Rk}{i:Nat}(h:i<l.length):(rksV l)[i]?=some (rkV (l.getD i rk0)):=by
  unfold rksV;rw [List.getElem?_map,rk_getD h];rfl
theorem rksV_all{l:List Rk}{n:Nat}(h:n=4):(rksV l).all (fun e=>e.length==n)=true:=by subst h;simp [rksV,rkV]
theorem rksV_plain(l:List Rk):plainLL (rksV l)=true:=by
  induction l with
  |nil=>rfl
  |cons x xs ih=>simp only [rksV,List.map_cons,plainLL,rkV,plainL,V.plain,Bool.true_and] at ih ⊢;exact ih
theorem rksV_flat(l:List Rk):(rksV l).all flatL=true:=by simp [rksV,rkV,flatL,V.flat]
/-- numbers that a gcd takes -/
def RkB(l:List Rk):Prop:=∀ i,i<l.length→(B64 (l.getD i rk0).1.1∧B64 (l.getD i rk0).1.2)∧B64 (l.getD i rk0).2.1∧B64 (l.getD i rk0).2.2
theorem cuErr_first{l:List Rk}{i:Nat}(hl:1≤l.length∧l.length≤60)(hi:i<l.length)(h0:∀ j,j<i→cuErrAt l j=0)(h:cuErrAt l i≠0):cuErr l=cuErrAt l i:=by
  unfold cuErr
  rw [if_neg (by omega)]
  exact firstE_at h0 h hi
theorem cuErr_none{l:List Rk}(hl:1≤l.length∧l.length≤60)(h0:∀ j,j<l.length→cuErrAt l j=0):cuErr l=0:=by
  unfold cuErr
  rw [if_neg (by omega)]
  exact firstE_zero.2 h0
theorem cuErr_shape{l:List Rk}(hl:¬ (1≤l.length∧l.length≤60)):cuErr l=10:=by
  unfold cuErr
  rw [if_pos (by omega)]
theorem cuAt_x{l:List Rk}{i:Nat}{e:Int}(h:frErr (l.getD i rk0).1.1 (l.getD i rk0).1.2=e)(he:e≠0):cuErrAt l i=e:=by
  unfold cuErrAt;simp only;rw [if_pos (by rw [h];exact he)];exact h
theorem cuAt_y{l:List Rk}{i:Nat}{e:Int}(h0:frErr (l.getD i rk0).1.1 (l.getD i rk0).1.2=0)(h:frErr (l.getD i rk0).2.1 (l.getD i rk0).2.2=e)(he:e≠0):cuErrAt l i=e:=by
  unfold cuErrAt;simp only;rw [if_neg (by rw [h0];simp),if_pos (by rw [h];exact he)];exact h
theorem cuAt_0{l:List Rk}(h0:frErr (l.getD 0 rk0).1.1 (l.getD 0 rk0).1.2=0)(h:frErr (l.getD 0 rk0).2.1 (l.getD 0 rk0).2.2=0):cuErrAt l 0=0:=by
  unfold cuErrAt;simp only;rw [if_neg (by rw [h0];simp),if_neg (by rw [h];simp)];exact if_pos trivial
theorem cuAt_s{l:List Rk}{i:Nat}(h0:frErr (l.getD (i+1) rk0).1.1 (l.getD (i+1) rk0).1.2=0)(h:frErr (l.getD (i+1) rk0).2.1 (l.getD (i+1) rk0).2.2=0):
    cuErrAt l (i+1)=if (toP (l.getD (i+1) rk0)).1≤(toP (l.getD i rk0)).1 then 9 else if slOk (toP (l.getD i rk0)) (toP (l.getD (i+1) rk0)) then 0 else 8:=by
  unfold cuErrAt;simp only;rw [if_neg (by rw [h0];simp),if_neg (by rw [h];simp),if_neg (by omega)];rfl
/-- a corner whose numbers are right, as a point -/
theorem rk_point{l:List Rk}{i:Nat}(h0:frErr (l.getD i rk0).1.1 (l.getD i rk0).1.2=0)(h:frErr (l.getD i rk0).2.1 (l.getD i rk0).2.2=0):∃ p:Pt,l.getD i rk0=raw p∧toP (l.getD i rk0)=p∧sm p.1∧sm p.2:=by
  obtain⟨h1,h2,h3⟩:=rk_raw h0 h
  exact⟨_,h1.symm,rfl,h2,h3⟩
theorem cmpQ_le{p q:Rat}:cmpQ p q≤0↔p≤q:=by
  unfold cmpQ
  by_cases h1:p<q
  · rw [if_pos h1];simp [Rat.le_of_lt h1]
  · rw [if_neg h1]
    by_cases h2:q<p
    · rw [if_pos h2];simp [Rat.not_le.2 h2]
    · rw [if_neg h2];simp [Rat.not_lt.1 h2]
theorem cmpQ_bd(p q:Rat): -1≤cmpQ p q∧cmpQ p q≤1:=by unfold cmpQ;split<;>(try split)<;>omega
theorem uC5_77_13{N:Nat}{l:List Oper}{t:List (Nat×V)}{m:Mem}{Q:Exit→List (Nat×V)→Mem→Prop}(h:RgN Tryz.prog N l t m Q (fun i=>if i==1 || i==3 || i==8 || i==9 then .q else .p) [.one 0,.one 1,.one 2,.one 3,.one 4,.one 5,.one 6,.one 7,.one 8,.one 9,.one 10]):WA Tryz.prog N (.region 13 l.toArray true) t m Q:=d_rgN h
theorem uC5_77_16{N:Nat}{l:List Oper}{t:List (Nat×V)}{m:Mem}{Q:Exit→List (Nat×V)→Mem→Prop}(h:RgT Tryz.prog N l t m Q 96 (fun i=>if i==7 then .f else if i==1 || i==5 || i==6 then .q else .p) [.one 0,.one 1,.one 2,.one 3,.one 4,.one 5,.one 6,.one 7]):WA Tryz.prog N (.region 16 l.toArray true) t m Q:=d_rgT h
theorem acheckcurve_c (l:List Rk) (hB:RkB l) (m:Mem):Gives Tryz.prog 77 [.agg [.lst (rksV l)]] m (.int .i64 (cuErr l)):=by
  have hla:=rksV_length (l:=l)
  have hga:=hla
  have hea:=hla
  have hca:=fun m=>acheck_c 0 0 (by omega) (by omega) m
  have hcb:=hca
  by_cases hn:1≤l.length∧l.length≤60
  · refine Gives_in Tryz.func77 rfl Tryz.ntmps77 Tryz.results77 (by kernel_rfl) (by simp) rfl fun Q hQ=>?_
    (have FX:=And.intro hla (And.intro hga hea);repeat'(first|(refine sx ?_ ?_<;>intro h<;>first|(exfalso;omega)|skip)|(refine g_op ?_;refine g_call ?_;refine g_args ?_;(first|refine s_fn (awithin_c _ _ _ _) ?_|refine s_fn (hca _) ?_|refine s_fn (hcb _) ?_)<;>try first|omega|assumption)|refine ny ?_|refine WA_block ?_|(refine uC5_77_13 ?_;refine⟨by kernel_rfl,?_⟩)|(refine uC5_77_16 ?_;refine⟨by kernel_rfl,?_⟩)|((first|refine grp_cons (fun _=>awithin_c _ _ _ _) ?_|refine grp_cons (fun _=>hca _) ?_|refine grp_cons (fun _=>hcb _) ?_)<;>try first|omega|assumption)|(refine g_d ?_;refine d_args ?_;(first|refine d_fn (awithin_c _ _ _ _) ?_|refine d_fn (hca _) ?_|refine d_fn (hcb _) ?_|refine d_fnQ (fun _=>awithin_c _ _ _ _) ?_|refine d_fnQ (fun _=>hca _) ?_|refine d_fnQ (fun _=>hcb _) ?_)<;>try first|omega|assumption)|(refine g_d ?_;(first|refine d_fnY (awithin_c _ _ _ _) ?_|refine d_fnY (hca _) ?_|refine d_fnY (hcb _) ?_)<;>try first|omega|assumption)))
    refine WA_whileK (σ:=Nat) [1,14,15,16] (fun i=>[.ptr (lend m).length 0 0,.lst (rksV l),.int .i64 l.length,.int .i64 i]) (fun _=>[.cells .own 48 1 [[.lst (rksV l)]]]) 1 (fun i=>i≤l.length∧∀ j,j<i→cuErrAt l j=0) (fun i=>l.length - i) 0 ⟨Nat.zero_le _,fun j h=>absurd h (Nat.not_lt_zero _)⟩ tv_ rfl (fun _=>rfl) (by intro s s' _ _;simp [conB,conS,V.keeps,V.plain,Blk.flat,flatL,plainL,V.flat]) (by intro s s' _ _;simp [conB,conS,V.keeps,V.plain,Blk.flat,flatL,plainL,V.flat]) ?_
    rintro i ⟨hi1,hi2⟩ K hK
    simp only [zipT]
    clear FX hga hea hca hcb
    rcases Nat.lt_or_ge i l.length with hi|hi
    · have hga := rksV_get hi
      have hb:=hB i hi
      obtain⟨⟨⟨a,b⟩,⟨c,d⟩⟩,hx⟩:∃ x,l.getD i rk0=x:=⟨_,rfl⟩
      rw [hx] at hga hb
      dsimp only [rkV] at hga hb
      have hca:=fun m=>acheck_c a b hb.1.1 hb.1.2 m
      have hcb:=fun m=>acheck_c c d hb.2.1 hb.2.2 m
      by_cases he:frErr a b=0
      · by_cases he2:frErr c d=0
        · rw [he] at hca
          rw [he2] at hcb
          obtain⟨p,hp1,hp2,hp3,hp4⟩:=rk_point (l:=l) (i:=i) (by rw [hx];exact he) (by rw [hx];exact he2)
          rw [hx] at hp1
          obtain⟨x,y⟩:=p
          injection hp1 with q1 q2
          injection q1 with q1 q1'
          injection q2 with q2 q2'
          subst q1;subst q1';subst q2;subst q2'
          dsimp only [rawQ] at *
          cases i with
          | zero=>
            have h00:cuErrAt l 0=0:=cuAt_0 (by rw [hx];exact he) (by rw [hx];exact he2)
            have hea:=hla
            (have FX:=And.intro hla (And.intro hga hea);repeat'(first|(refine sx ?_ ?_<;>intro h<;>first|(exfalso;omega)|skip)|(refine g_op ?_;refine g_call ?_;refine g_args ?_;(first|refine s_fn (awithin_c _ _ _ _) ?_|refine s_fn (hca _) ?_|refine s_fn (hcb _) ?_)<;>try first|omega|assumption)|refine ny ?_|refine WA_block ?_|(refine uC5_77_13 ?_;refine⟨by kernel_rfl,?_⟩)|(refine uC5_77_16 ?_;refine⟨by kernel_rfl,?_⟩)|((first|refine grp_cons (fun _=>awithin_c _ _ _ _) ?_|refine grp_cons (fun _=>hca _) ?_|refine grp_cons (fun _=>hcb _) ?_)<;>try first|omega|assumption)|(refine g_d ?_;refine d_args ?_;(first|refine d_fn (awithin_c _ _ _ _) ?_|refine d_fn (hca _) ?_|refine d_fn (hcb _) ?_|refine d_fnQ (fun _=>awithin_c _ _ _ _) ?_|refine d_fnQ (fun _=>hca _) ?_|refine d_fnQ (fun _=>hcb _) ?_)<;>try first|omega|assumption)|(refine g_d ?_;(first|refine d_fnY (awithin_c _ _ _ _) ?_|refine d_fnY (hca _) ?_|refine d_fnY (hcb _) ?_)<;>try first|omega|assumption)))
            all_goals(try(exfalso;omega))
            all_goals(refine nextL_ hK 1 ⟨hi,fun j hj=>?_⟩ (by omega))
            all_goals(have:j=0:=by omega)
            all_goals(subst this;exact h00)
          | succ i=>
            have hpre:=cuErrAt_zero.1 (hi2 i (by omega))
            obtain⟨p0,hz1,hz2,hz3,hz4⟩:=rk_point hpre.1 hpre.2.1
            obtain⟨u,v⟩:=p0
            have hgb:=rksV_get (l:=l) (i:=i) (by omega)
            rw [hz1] at hgb
            dsimp only [rkV,raw,rawQ] at hgb
            have hti:(((i+1:Nat):Int) - 1).toNat=i:=by omega
            have hat:=cuAt_s (l:=l) (i:=i) (by rw [hx];exact he) (by rw [hx];exact he2)
            rw [hp2,hz2] at hat
            dsimp only at hat hp3 hp4 hz3 hz4
            have hcq:=cmpQ_bd x u
            have hle:=cmpQ_le (p:=x) (q:=u)
            have hea:=And.intro hgb hti
            by_cases hle2:x≤u
            · rw [if_pos hle2] at hat
              have hc0:=hle.2 hle2
              (have FX:=And.intro hla (And.intro hga hea);repeat'(first|(refine sx ?_ ?_<;>intro h<;>first|(exfalso;omega)|skip)|(refine g_op ?_;refine g_call ?_;refine g_args ?_;(first|refine s_fn (awithin_c _ _ _ _) ?_|refine s_fn (hca _) ?_|refine s_fn (hcb _) ?_|refine s_fn (acompare_c x u hp3 hz3 _) ?_|refine s_fnW (slope_w _ (u,v) (x,y) _ hz3 hz4 hp3 hp4) ?_)<;>try first|omega|assumption)|refine ny ?_|refine WA_block ?_|(refine uC5_77_13 ?_;refine⟨by kernel_rfl,?_⟩)|(refine uC5_77_16 ?_;refine⟨by kernel_rfl,?_⟩)|((first|refine grp_cons (fun _=>awithin_c _ _ _ _) ?_|refine grp_cons (fun _=>hca _) ?_|refine grp_cons (fun _=>hcb _) ?_|refine grp_cons (fun _=>acompare_c x u hp3 hz3 _) ?_|refine grp_w (slope_w _ (u,v) (x,y) _ hz3 hz4 hp3 hp4) ?_)<;>try first|omega|assumption)|(refine g_d ?_;refine d_args ?_;(first|refine d_fn (awithin_c _ _ _ _) ?_|refine d_fn (hca _) ?_|refine d_fn (hcb _) ?_|refine d_fn (acompare_c x u hp3 hz3 _) ?_|refine d_fnW (slope_w _ (u,v) (x,y) _ hz3 hz4 hp3 hp4) ?_|refine d_fnQ (fun _=>awithin_c _ _ _ _) ?_|refine d_fnQ (fun _=>hca _) ?_|refine d_fnQ (fun _=>hcb _) ?_|refine d_fnQ (fun _=>acompare_c x u hp3 hz3 _) ?_)<;>try first|omega|assumption)|(refine g_d ?_;(first|refine d_fnY (awithin_c _ _ _ _) ?_|refine d_fnY (hca _) ?_|refine d_fnY (hcb _) ?_|refine d_fnY (acompare_c x u hp3 hz3 _) ?_)<;>try first|omega|assumption)))
              all_goals(try(exfalso;omega))
              all_goals((refine r_es hQ ?_;try with_reducible rfl);rw [cuErr_first hn hi hi2 (by rw [hat];decide),hat])
            · rw [if_neg hle2] at hat
              have hlt:u<x:=Rat.not_le.1 hle2
              have hc0:¬ cmpQ x u≤0:=fun h=>hle2 (hle.1 h)
              by_cases hs:slOk (u,v) (x,y)
              · rw [if_pos hs] at hat
                have hsl:=slP_ok hs hlt false
                obtain⟨z1,z2⟩:=hsl
                have hea:=And.intro hgb (And.intro hti z2)
                (have FX:=And.intro hla (And.intro hga hea);repeat'(first|(refine sx ?_ ?_<;>intro h<;>first|(exfalso;omega)|skip)|(refine g_op ?_;refine g_call ?_;refine g_args ?_;(first|refine s_fn (awithin_c _ _ _ _) ?_|refine s_fn (hca _) ?_|refine s_fn (hcb _) ?_|refine s_fn (acompare_c x u hp3 hz3 _) ?_|refine s_fnW (slope_w _ (u,v) (x,y) _ hz3 hz4 hp3 hp4) ?_)<;>try first|omega|assumption)|refine ny ?_|refine WA_block ?_|(refine uC5_77_13 ?_;refine⟨by kernel_rfl,?_⟩)|(refine uC5_77_16 ?_;refine⟨by kernel_rfl,?_⟩)|((first|refine grp_cons (fun _=>awithin_c _ _ _ _) ?_|refine grp_cons (fun _=>hca _) ?_|refine grp_cons (fun _=>hcb _) ?_|refine grp_cons (fun _=>acompare_c x u hp3 hz3 _) ?_|refine grp_w (slope_w _ (u,v) (x,y) _ hz3 hz4 hp3 hp4) ?_)<;>try first|omega|assumption)|(refine g_d ?_;refine d_args ?_;(first|refine d_fn (awithin_c _ _ _ _) ?_|refine d_fn (hca _) ?_|refine d_fn (hcb _) ?_|refine d_fn (acompare_c x u hp3 hz3 _) ?_|refine d_fnW (slope_w _ (u,v) (x,y) _ hz3 hz4 hp3 hp4) ?_|refine d_fnQ (fun _=>awithin_c _ _ _ _) ?_|refine d_fnQ (fun _=>hca _) ?_|refine d_fnQ (fun _=>hcb _) ?_|refine d_fnQ (fun _=>acompare_c x u hp3 hz3 _) ?_)<;>try first|omega|assumption)|(refine g_d ?_;(first|refine d_fnY (awithin_c _ _ _ _) ?_|refine d_fnY (hca _) ?_|refine d_fnY (hcb _) ?_|refine d_fnY (acompare_c x u hp3 hz3 _) ?_)<;>try first|omega|assumption)))
                all_goals(try(exfalso;omega))
                all_goals(refine nextL_ hK (i+1+1) ⟨hi,fun j hj=>?_⟩ (by omega))
                all_goals(rcases Nat.lt_or_ge j (i+1) with hq|hq)
                all_goals first|exact hi2 j hq|(have hji:j=i+1:=by omega);(subst hji;exact hat)
              · rw [if_neg hs] at hat
                have z2:slG false (u,v) (x,y)=true:=by
                  cases hg:slG false (u,v) (x,y) with
                  |true=>rfl
                  |false=>exact(hs ((slG_iff hlt).1 hg)).elim
                have hea:=And.intro hgb (And.intro hti z2)
                (have FX:=And.intro hla (And.intro hga hea);repeat'(first|(refine sx ?_ ?_<;>intro h<;>first|(exfalso;omega)|skip)|(refine g_op ?_;refine g_call ?_;refine g_args ?_;(first|refine s_fn (awithin_c _ _ _ _) ?_|refine s_fn (hca _) ?_|refine s_fn (hcb _) ?_|refine s_fn (acompare_c x u hp3 hz3 _) ?_|refine s_fnW (slope_w _ (u,v) (x,y) _ hz3 hz4 hp3 hp4) ?_)<;>try first|omega|assumption)|refine ny ?_|refine WA_block ?_|(refine uC5_77_13 ?_;refine⟨by kernel_rfl,?_⟩)|(refine uC5_77_16 ?_;refine⟨by kernel_rfl,?_⟩)|((first|refine grp_cons (fun _=>awithin_c _ _ _ _) ?_|refine grp_cons (fun _=>hca _) ?_|refine grp_cons (fun _=>hcb _) ?_|refine grp_cons (fun _=>acompare_c x u hp3 hz3 _) ?_|refine grp_w (slope_w _ (u,v) (x,y) _ hz3 hz4 hp3 hp4) ?_)<;>try first|omega|assumption)|(refine g_d ?_;refine d_args ?_;(first|refine d_fn (awithin_c _ _ _ _) ?_|refine d_fn (hca _) ?_|refine d_fn (hcb _) ?_|refine d_fn (acompare_c x u hp3 hz3 _) ?_|refine d_fnW (slope_w _ (u,v) (x,y) _ hz3 hz4 hp3 hp4) ?_|refine d_fnQ (fun _=>awithin_c _ _ _ _) ?_|refine d_fnQ (fun _=>hca _) ?_|refine d_fnQ (fun _=>hcb _) ?_|refine d_fnQ (fun _=>acompare_c x u hp3 hz3 _) ?_)<;>try first|omega|assumption)|(refine g_d ?_;(first|refine d_fnY (awithin_c _ _ _ _) ?_|refine d_fnY (hca _) ?_|refine d_fnY (hcb _) ?_|refine d_fnY (acompare_c x u hp3 hz3 _) ?_)<;>try first|omega|assumption)))
                all_goals(try(exfalso;omega))
                all_goals((refine r_es hQ ?_;try with_reducible rfl);rw [cuErr_first hn hi hi2 (by rw [hat];decide),hat])
        · have hea:=hla
          (have FX:=And.intro hla (And.intro hga hea);repeat'(first|(refine sx ?_ ?_<;>intro h<;>first|(exfalso;omega)|skip)|(refine g_op ?_;refine g_call ?_;refine g_args ?_;(first|refine s_fn (awithin_c _ _ _ _) ?_|refine s_fn (hca _) ?_|refine s_fn (hcb _) ?_)<;>try first|omega|assumption)|refine ny ?_|refine WA_block ?_|(refine uC5_77_13 ?_;refine⟨by kernel_rfl,?_⟩)|(refine uC5_77_16 ?_;refine⟨by kernel_rfl,?_⟩)|((first|refine grp_cons (fun _=>awithin_c _ _ _ _) ?_|refine grp_cons (fun _=>hca _) ?_|refine grp_cons (fun _=>hcb _) ?_)<;>try first|omega|assumption)|(refine g_d ?_;refine d_args ?_;(first|refine d_fn (awithin_c _ _ _ _) ?_|refine d_fn (hca _) ?_|refine d_fn (hcb _) ?_|refine d_fnQ (fun _=>awithin_c _ _ _ _) ?_|refine d_fnQ (fun _=>hca _) ?_|refine d_fnQ (fun _=>hcb _) ?_)<;>try first|omega|assumption)|(refine g_d ?_;(first|refine d_fnY (awithin_c _ _ _ _) ?_|refine d_fnY (hca _) ?_|refine d_fnY (hcb _) ?_)<;>try first|omega|assumption)))
          all_goals(try(exfalso;omega))
          all_goals((refine r_es hQ ?_;try with_reducible rfl);rw [cuErr_first hn hi hi2 (by rw [cuAt_y (by rw [hx];exact he) (by rw [hx]) he2];exact he2),cuAt_y (by rw [hx];exact he) (by rw [hx]) he2])
      · have hea:=hla
        (have FX:=And.intro hla (And.intro hga hea);repeat'(first|(refine sx ?_ ?_<;>intro h<;>first|(exfalso;omega)|skip)|(refine g_op ?_;refine g_call ?_;refine g_args ?_;(first|refine s_fn (awithin_c _ _ _ _) ?_|refine s_fn (hca _) ?_|refine s_fn (hcb _) ?_)<;>try first|omega|assumption)|refine ny ?_|refine WA_block ?_|(refine uC5_77_13 ?_;refine⟨by kernel_rfl,?_⟩)|(refine uC5_77_16 ?_;refine⟨by kernel_rfl,?_⟩)|((first|refine grp_cons (fun _=>awithin_c _ _ _ _) ?_|refine grp_cons (fun _=>hca _) ?_|refine grp_cons (fun _=>hcb _) ?_)<;>try first|omega|assumption)|(refine g_d ?_;refine d_args ?_;(first|refine d_fn (awithin_c _ _ _ _) ?_|refine d_fn (hca _) ?_|refine d_fn (hcb _) ?_|refine d_fnQ (fun _=>awithin_c _ _ _ _) ?_|refine d_fnQ (fun _=>hca _) ?_|refine d_fnQ (fun _=>hcb _) ?_)<;>try first|omega|assumption)|(refine g_d ?_;(first|refine d_fnY (awithin_c _ _ _ _) ?_|refine d_fnY (hca _) ?_|refine d_fnY (hcb _) ?_)<;>try first|omega|assumption)))
        all_goals(try(exfalso;omega))
        all_goals((refine r_es hQ ?_;try with_reducible rfl);rw [cuErr_first hn hi hi2 (by rw [cuAt_x (by rw [hx]) he];exact he),cuAt_x (by rw [hx]) he])
    · have hie:i=l.length:=by omega
      subst hie
      have hga:=hla
      have hea:=hla
      have hca:=fun m=>acheck_c 0 0 (by omega) (by omega) m
      have hcb:=hca
      (have FX:=And.intro hla (And.intro hga hea);repeat'(first|(refine sx ?_ ?_<;>intro h<;>first|(exfalso;omega)|skip)|(refine g_op ?_;refine g_call ?_;refine g_args ?_;(first|refine s_fn (awithin_c _ _ _ _) ?_|refine s_fn (hca _) ?_|refine s_fn (hcb _) ?_)<;>try first|omega|assumption)|refine ny ?_|refine WA_block ?_|(refine uC5_77_13 ?_;refine⟨by kernel_rfl,?_⟩)|(refine uC5_77_16 ?_;refine⟨by kernel_rfl,?_⟩)|((first|refine grp_cons (fun _=>awithin_c _ _ _ _) ?_|refine grp_cons (fun _=>hca _) ?_|refine grp_cons (fun _=>hcb _) ?_)<;>try first|omega|assumption)|(refine g_d ?_;refine d_args ?_;(first|refine d_fn (awithin_c _ _ _ _) ?_|refine d_fn (hca _) ?_|refine d_fn (hcb _) ?_|refine d_fnQ (fun _=>awithin_c _ _ _ _) ?_|refine d_fnQ (fun _=>hca _) ?_|refine d_fnQ (fun _=>hcb _) ?_)<;>try first|omega|assumption)|(refine g_d ?_;(first|refine d_fnY (awithin_c _ _ _ _) ?_|refine d_fnY (hca _) ?_|refine d_fnY (hcb _) ?_)<;>try first|omega|assumption)))
      all_goals(try(exfalso;omega))
      all_goals((refine r_es hQ ?_;try with_reducible rfl);rw [cuErr_none hn hi2])
  · have hsh:=cuErr_shape hn
    refine Gives_in Tryz.func77 rfl Tryz.ntmps77 Tryz.results77 (by kernel_rfl) (by simp) rfl fun Q hQ=>?_
    (have FX:=And.intro hla (And.intro hga hea);repeat'(first|(refine sx ?_ ?_<;>intro h<;>first|(exfalso;omega)|skip)|(refine g_op ?_;refine g_call ?_;refine g_args ?_;(first|refine s_fn (awithin_c _ _ _ _) ?_|refine s_fn (hca _) ?_|refine s_fn (hcb _) ?_)<;>try first|omega|assumption)|refine ny ?_|refine WA_block ?_|(refine uC5_77_13 ?_;refine⟨by kernel_rfl,?_⟩)|(refine uC5_77_16 ?_;refine⟨by kernel_rfl,?_⟩)|((first|refine grp_cons (fun _=>awithin_c _ _ _ _) ?_|refine grp_cons (fun _=>hca _) ?_|refine grp_cons (fun _=>hcb _) ?_)<;>try first|omega|assumption)|(refine g_d ?_;refine d_args ?_;(first|refine d_fn (awithin_c _ _ _ _) ?_|refine d_fn (hca _) ?_|refine d_fn (hcb _) ?_|refine d_fnQ (fun _=>awithin_c _ _ _ _) ?_|refine d_fnQ (fun _=>hca _) ?_|refine d_fnQ (fun _=>hcb _) ?_)<;>try first|omega|assumption)|(refine g_d ?_;(first|refine d_fnY (awithin_c _ _ _ _) ?_|refine d_fnY (hca _) ?_|refine d_fnY (hcb _) ?_)<;>try first|omega|assumption)))
    all_goals(try(exfalso;omega))
    all_goals((refine r_es hQ ?_;try with_reducible rfl);rw [hsh])
end Go.Proofs.YtomkbpoicjabfaaGreatDoor
