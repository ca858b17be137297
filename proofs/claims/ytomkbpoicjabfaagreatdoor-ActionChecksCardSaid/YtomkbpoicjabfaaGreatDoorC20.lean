/- contracts: the reference's check of an action -/
import Derived.Test.YtomkbpoicjabfaaGreatDoorC19
set_option linter.unusedSimpArgs false
set_option linter.unusedVariables false
namespace Go.Proofs.YtomkbpoicjabfaaGreatDoor
open Go.RowKit
attribute [local irreducible] WA WOs WDs WAn qThen qBlock tput
set_option maxHeartbeats 1000000
set_option maxRecDepth 20000
set_option linter.unusedSimpArgs false
set_option linter.unusedVariables false
theorem getD_take{α:Type}{l:List α}{d:α}{i j:Nat}(h:j<i):(l.take i).getD j d=l.getD j d:=by
  rw [List.getD_eq_getElem?_getD,List.getD_eq_getElem?_getD,List.getElem?_take_of_lt h]
theorem fidx_take{α:Type}(f:α→Bool)(l:List α)(d:α){i:Nat}(hi:i<l.length)(hf:f (l.getD i d)=true):0≤fidx f (l.take i)↔fidx f l<i:=by
  have hl:(l.take i).length=i:=by rw [List.length_take];omega
  rcases fidx_cases f (l.take i) d with ⟨h1,h2⟩|⟨k,h1,h2,h3,h4⟩
  · rw [hl] at h2
    have:fidx f l=i:=fidx_at hi (fun j hj=>by rw [←getD_take hj];exact h2 j hj) hf
    omega
  · rw [hl] at h1
    rw [getD_take h1] at h3
    have:fidx f l=k:=fidx_at (by omega) (fun j hj=>by rw [←getD_take (i:=i) (by omega)];exact h4 j hj) h3
    omega
theorem uC20_12_8{N:Nat}{l:List Oper}{t:List (Nat×V)}{m:Mem}{Q:Exit→List (Nat×V)→Mem→Prop}(h:RgN Tryz.prog N l t m Q (fun i=>if i==1 || i==5 || i==8 || i==9 then .q else .p) [.one 0,.one 1,.one 2,.one 3,.one 4,.one 5,.one 6,.one 7,.one 8,.one 9,.one 10]):WA Tryz.prog N (.region 8 l.toArray true) t m Q:=d_rgN h
theorem rcheckaction_c (a:ActR) (ha:Lt a) (m:Mem):Gives Tryz.prog 12 [.agg (actV a)] m (.int .i64 (acErr a)):=by
  have hla:=prtsV_length (l:=a.parts)
  have hle:=evsV_length (l:=a.evs)
  have hll:=ldsV_length (l:=a.leads)
  have hga:=hla
  have hal:=hla
  have hsl:=hla
  have hti:=hla
  have hcp:=fun m=>rchecklead_c (0,0) m
  have hld:=hcp
  have q1:=ha.np
  have q2:=ha.ne
  have q3:=ha.nl
  unfold actV
  refine Gives_in Tryz.func12 rfl Tryz.ntmps12 Tryz.results12 (by kernel_rfl) (by simp) rfl fun Q hQ=>?_
  (have FX:=And.intro hla (And.intro hle (And.intro hll (And.intro hga (And.intro hal (And.intro hsl hti)))));repeat'(first|(refine sx ?_ ?_<;>intro h<;>first|(exfalso;omega)|skip)|(refine g_op ?_;refine g_call ?_;refine g_args ?_;(first|refine s_fn (bwithin_c _ _ _ _) ?_|refine s_fn (hcp _) ?_|refine s_fn (bisname_c _ _) ?_|refine s_fn (rpartat_c a.parts _ _ ha.np) ?_|refine s_fn (reventnumber_c a _ _ ha.ne) ?_|refine s_fn (hld _) ?_)<;>try first|omega|assumption)|refine ny ?_|refine WA_block ?_|(refine uC20_12_8 ?_;refine⟨by kernel_rfl,?_⟩)|((first|refine grp_cons (fun _=>bwithin_c _ _ _ _) ?_|refine grp_cons (fun _=>hcp _) ?_|refine grp_cons (fun _=>bisname_c _ _) ?_|refine grp_cons (fun _=>rpartat_c a.parts _ _ ha.np) ?_|refine grp_cons (fun _=>reventnumber_c a _ _ ha.ne) ?_|refine grp_cons (fun _=>hld _) ?_)<;>try first|omega|assumption)|(refine g_d ?_;refine d_args ?_;(first|refine d_fn (bwithin_c _ _ _ _) ?_|refine d_fn (hcp _) ?_|refine d_fn (bisname_c _ _) ?_|refine d_fn (rpartat_c a.parts _ _ ha.np) ?_|refine d_fn (reventnumber_c a _ _ ha.ne) ?_|refine d_fn (hld _) ?_|refine d_fnQ (fun _=>bwithin_c _ _ _ _) ?_|refine d_fnQ (fun _=>hcp _) ?_|refine d_fnQ (fun _=>bisname_c _ _) ?_|refine d_fnQ (fun _=>rpartat_c a.parts _ _ ha.np) ?_|refine d_fnQ (fun _=>reventnumber_c a _ _ ha.ne) ?_|refine d_fnQ (fun _=>hld _) ?_)<;>try first|omega|assumption)|(refine g_d ?_;(first|refine d_fnY (bwithin_c _ _ _ _) ?_|refine d_fnY (hcp _) ?_|refine d_fnY (bisname_c _ _) ?_|refine d_fnY (rpartat_c a.parts _ _ ha.np) ?_|refine d_fnY (reventnumber_c a _ _ ha.ne) ?_|refine d_fnY (hld _) ?_)<;>try first|omega|assumption)))
  all_goals(try(exfalso;omega))
  all_goals try
    ((refine r_es hQ ?_;try with_reducible rfl)
     refine congrArg (V.int .i64) ?_
     unfold acErr
     first|(rw [if_pos (by omega)];done)|(rw [if_neg (by omega),if_pos (by omega)];done))
  have hd:1≤a.dip∧a.dip≤2000:=by omega
  have hp12:a.parts.length≤12:=by omega
  refine WA_whileK (σ:=Nat) [1,3] (fun i=>[.ptr (lend m).length 0 0,.int .i64 i]) (fun _=>[actB a]) 1 (fun i=>i≤a.parts.length∧∀ j,j<i→ptErrAt a.parts j=0) (fun i=>a.parts.length - i) 0 ⟨Nat.zero_le _,fun j h=>absurd h (Nat.not_lt_zero _)⟩ tv_ rfl (fun _=>rfl) (by intro s s' _ _;simp [conB,conS,V.keeps,V.plain,Blk.flat,flatL,plainL,V.flat]) (by intro s s' _ _;simp [conB,conS,V.keeps,V.plain,Blk.flat,flatL,plainL,V.flat]) ?_
  rintro i ⟨hi1,hi2⟩ K hK
  simp only [zipT]
  clear FX hga hal hsl hti hcp hld
  rcases Nat.lt_or_ge i a.parts.length with hi|hi
  · have hga:=prtsV_get hi
    have hal:=fun n h=>prtsV_all (l:=a.parts) (n:=n) h
    have hsl:=prtsV_take a.parts i
    have hti:((i:Int) - ((0:Nat):Int)).toNat=i:=by omega
    have hcp:=fun m=>rcheckpart_c (a.parts.take i) (a.parts.getD i p0) m (by rw [List.length_take];omega)
    have hat:ptErrAt a.parts i=ptErr (a.parts.take i) (a.parts.getD i p0):=rfl
    have hld:=hla
    unfold prtV at hga hcp
    (have FX:=And.intro hla (And.intro hle (And.intro hll (And.intro hga (And.intro hal (And.intro hsl hti)))));repeat'(first|(refine sx ?_ ?_<;>intro h<;>first|(exfalso;omega)|skip)|(refine g_op ?_;refine g_call ?_;refine g_args ?_;(first|refine s_fn (bwithin_c _ _ _ _) ?_|refine s_fn (hcp _) ?_|refine s_fn (bisname_c _ _) ?_|refine s_fn (rpartat_c a.parts _ _ ha.np) ?_|refine s_fn (reventnumber_c a _ _ ha.ne) ?_|refine s_fn (hld _) ?_)<;>try first|omega|assumption)|refine ny ?_|refine WA_block ?_|(refine uC20_12_8 ?_;refine⟨by kernel_rfl,?_⟩)|((first|refine grp_cons (fun _=>bwithin_c _ _ _ _) ?_|refine grp_cons (fun _=>hcp _) ?_|refine grp_cons (fun _=>bisname_c _ _) ?_|refine grp_cons (fun _=>rpartat_c a.parts _ _ ha.np) ?_|refine grp_cons (fun _=>reventnumber_c a _ _ ha.ne) ?_|refine grp_cons (fun _=>hld _) ?_)<;>try first|omega|assumption)|(refine g_d ?_;refine d_args ?_;(first|refine d_fn (bwithin_c _ _ _ _) ?_|refine d_fn (hcp _) ?_|refine d_fn (bisname_c _ _) ?_|refine d_fn (rpartat_c a.parts _ _ ha.np) ?_|refine d_fn (reventnumber_c a _ _ ha.ne) ?_|refine d_fn (hld _) ?_|refine d_fnQ (fun _=>bwithin_c _ _ _ _) ?_|refine d_fnQ (fun _=>hcp _) ?_|refine d_fnQ (fun _=>bisname_c _ _) ?_|refine d_fnQ (fun _=>rpartat_c a.parts _ _ ha.np) ?_|refine d_fnQ (fun _=>reventnumber_c a _ _ ha.ne) ?_|refine d_fnQ (fun _=>hld _) ?_)<;>try first|omega|assumption)|(refine g_d ?_;(first|refine d_fnY (bwithin_c _ _ _ _) ?_|refine d_fnY (hcp _) ?_|refine d_fnY (bisname_c _ _) ?_|refine d_fnY (rpartat_c a.parts _ _ ha.np) ?_|refine d_fnY (reventnumber_c a _ _ ha.ne) ?_|refine d_fnY (hld _) ?_)<;>try first|omega|assumption)))
    all_goals(try(exfalso;omega))
    all_goals try
      ((refine r_es hQ ?_;try with_reducible rfl)
       have he:=firstE_is hi hi2 hat (by assumption)
       refine congrArg (V.int .i64) ?_
       unfold acErr
       rw [if_neg (by omega),if_neg (by omega),if_pos (by rw [he];assumption),he])
    all_goals(refine nextL_ hK (i+1) ⟨hi,ext_zero hi2 (by rw [hat];first|assumption|omega|grind)⟩ (by omega))
  · have hie:i=a.parts.length:=by omega
    subst hie
    have hpz:=firstE_zero.2 hi2
    have hga:=hla
    have hal:=hla
    have hsl:=hla
    have hti:=hla
    have hcp:=hla
    have hld:=hla
    (have FX:=And.intro hla (And.intro hle (And.intro hll (And.intro hga (And.intro hal (And.intro hsl hti)))));repeat'(first|(refine sx ?_ ?_<;>intro h<;>first|(exfalso;omega)|skip)|(refine g_op ?_;refine g_call ?_;refine g_args ?_;(first|refine s_fn (bwithin_c _ _ _ _) ?_|refine s_fn (hcp _) ?_|refine s_fn (bisname_c _ _) ?_|refine s_fn (rpartat_c a.parts _ _ ha.np) ?_|refine s_fn (reventnumber_c a _ _ ha.ne) ?_|refine s_fn (hld _) ?_)<;>try first|omega|assumption)|refine ny ?_|refine WA_block ?_|(refine uC20_12_8 ?_;refine⟨by kernel_rfl,?_⟩)|((first|refine grp_cons (fun _=>bwithin_c _ _ _ _) ?_|refine grp_cons (fun _=>hcp _) ?_|refine grp_cons (fun _=>bisname_c _ _) ?_|refine grp_cons (fun _=>rpartat_c a.parts _ _ ha.np) ?_|refine grp_cons (fun _=>reventnumber_c a _ _ ha.ne) ?_|refine grp_cons (fun _=>hld _) ?_)<;>try first|omega|assumption)|(refine g_d ?_;refine d_args ?_;(first|refine d_fn (bwithin_c _ _ _ _) ?_|refine d_fn (hcp _) ?_|refine d_fn (bisname_c _ _) ?_|refine d_fn (rpartat_c a.parts _ _ ha.np) ?_|refine d_fn (reventnumber_c a _ _ ha.ne) ?_|refine d_fn (hld _) ?_|refine d_fnQ (fun _=>bwithin_c _ _ _ _) ?_|refine d_fnQ (fun _=>hcp _) ?_|refine d_fnQ (fun _=>bisname_c _ _) ?_|refine d_fnQ (fun _=>rpartat_c a.parts _ _ ha.np) ?_|refine d_fnQ (fun _=>reventnumber_c a _ _ ha.ne) ?_|refine d_fnQ (fun _=>hld _) ?_)<;>try first|omega|assumption)|(refine g_d ?_;(first|refine d_fnY (bwithin_c _ _ _ _) ?_|refine d_fnY (hcp _) ?_|refine d_fnY (bisname_c _ _) ?_|refine d_fnY (rpartat_c a.parts _ _ ha.np) ?_|refine d_fnY (reventnumber_c a _ _ ha.ne) ?_|refine d_fnY (hld _) ?_)<;>try first|omega|assumption)))
    all_goals(try(exfalso;omega))
    all_goals try
      ((refine r_es hQ ?_;try with_reducible rfl)
       refine congrArg (V.int .i64) ?_
       unfold acErr
       rw [if_neg (by omega),if_neg (by omega),if_neg (by rw [hpz];decide),if_pos (by omega)]
       done)
    have he20:a.evs.length≤20:=by omega
    clear FX hK
    refine WA_whileK (σ:=Nat) [1,5] (fun i=>[.ptr (lend m).length 0 0,.int .i64 i]) (fun _=>[actB a]) 1 (fun i=>i≤a.evs.length∧∀ j,j<i→evErrAt a j=0) (fun i=>a.evs.length - i) 0 ⟨Nat.zero_le _,fun j h=>absurd h (Nat.not_lt_zero _)⟩ tv_ rfl (fun _=>rfl) (by intro s s' _ _;simp [conB,conS,V.keeps,V.plain,Blk.flat,flatL,plainL,V.flat]) (by intro s s' _ _;simp [conB,conS,V.keeps,V.plain,Blk.flat,flatL,plainL,V.flat]) ?_
    rintro i ⟨hj1,hj2⟩ K hK
    simp only [zipT]
    clear hga hal hsl hti hcp hld
    rcases Nat.lt_or_ge i a.evs.length with hj|hj
    · have hga:=evsV_get hj
      have hal:=hla
      have hsl:=hla
      have hti:=hla
      have b1:=fidx_bd (isE (a.evs.getD i e0).name) (a.evs.take i)
      have b2:=fidx_bd (isP (a.evs.getD i e0).part) a.parts
      have b3:=fidx_bd (isE (a.evs.getD i e0).name) a.evs
      have hft:=fidx_take (isE (a.evs.getD i e0).name) a.evs e0 hj (decide_eq_true rfl)
      have hat:evErrAt a i=if ¬ nameP (a.evs.getD i e0).name then 4 else if 0≤fidx (isE (a.evs.getD i e0).name) (a.evs.take i) then 5 else if fidx (isP (a.evs.getD i e0).part) a.parts<0 then 6 else if ¬ (-10000≤(a.evs.getD i e0).lev∧(a.evs.getD i e0).lev≤10000) then 2 else 0:=rfl
      have hcp:=hla
      have hld:=hla
      have hfin:∀ e,firstE (evErrAt a) a.evs.length=e→e≠0→acErr a=e:=fun e he hne=>by unfold acErr;rw [if_neg (by omega),if_neg (by omega),if_neg (by rw [hpz];decide),if_neg (by omega),if_pos (by rw [he];exact hne),he]
      unfold evV at hga
      (have FX:=And.intro hla (And.intro hle (And.intro hll (And.intro hga (And.intro hal (And.intro hsl hti)))));repeat'(first|(refine sx ?_ ?_<;>intro h<;>first|(exfalso;omega)|skip)|(refine g_op ?_;refine g_call ?_;refine g_args ?_;(first|refine s_fn (bwithin_c _ _ _ _) ?_|refine s_fn (hcp _) ?_|refine s_fn (bisname_c _ _) ?_|refine s_fn (rpartat_c a.parts _ _ ha.np) ?_|refine s_fn (reventnumber_c a _ _ ha.ne) ?_|refine s_fn (hld _) ?_)<;>try first|omega|assumption)|refine ny ?_|refine WA_block ?_|(refine uC20_12_8 ?_;refine⟨by kernel_rfl,?_⟩)|((first|refine grp_cons (fun _=>bwithin_c _ _ _ _) ?_|refine grp_cons (fun _=>hcp _) ?_|refine grp_cons (fun _=>bisname_c _ _) ?_|refine grp_cons (fun _=>rpartat_c a.parts _ _ ha.np) ?_|refine grp_cons (fun _=>reventnumber_c a _ _ ha.ne) ?_|refine grp_cons (fun _=>hld _) ?_)<;>try first|omega|assumption)|(refine g_d ?_;refine d_args ?_;(first|refine d_fn (bwithin_c _ _ _ _) ?_|refine d_fn (hcp _) ?_|refine d_fn (bisname_c _ _) ?_|refine d_fn (rpartat_c a.parts _ _ ha.np) ?_|refine d_fn (reventnumber_c a _ _ ha.ne) ?_|refine d_fn (hld _) ?_|refine d_fnQ (fun _=>bwithin_c _ _ _ _) ?_|refine d_fnQ (fun _=>hcp _) ?_|refine d_fnQ (fun _=>bisname_c _ _) ?_|refine d_fnQ (fun _=>rpartat_c a.parts _ _ ha.np) ?_|refine d_fnQ (fun _=>reventnumber_c a _ _ ha.ne) ?_|refine d_fnQ (fun _=>hld _) ?_)<;>try first|omega|assumption)|(refine g_d ?_;(first|refine d_fnY (bwithin_c _ _ _ _) ?_|refine d_fnY (hcp _) ?_|refine d_fnY (bisname_c _ _) ?_|refine d_fnY (rpartat_c a.parts _ _ ha.np) ?_|refine d_fnY (reventnumber_c a _ _ ha.ne) ?_|refine d_fnY (hld _) ?_)<;>try first|omega|assumption)))
      all_goals(try(exfalso;omega))
      all_goals try
        ((refine r_es hQ ?_;try with_reducible rfl)
         exact congrArg (V.int .i64) (hfin _ (firstE_is hj hj2 (by rw [hat];(repeat (first|rw [if_pos (by first|assumption|omega|grind)]|rw [if_neg (by first|assumption|omega|grind)]))) (by decide)) (by decide)).symm)
      all_goals(refine nextL_ hK (i+1) ⟨hj,ext_zero hj2 (by rw [hat];(repeat (first|rw [if_pos (by first|assumption|omega|grind)]|rw [if_neg (by first|assumption|omega|grind)])))⟩ (by omega))
    · have hje:i=a.evs.length:=by omega
      subst hje
      have hez:=firstE_zero.2 hj2
      have hga:=hla
      have hal:=hla
      have hsl:=hla
      have hti:=hla
      have hcp:=hla
      have hld:=hla
      have hpre:acErr a=ldsErr a.leads:=by unfold acErr;rw [if_neg (by omega),if_neg (by omega),if_neg (by rw [hpz];decide),if_neg (by omega),if_neg (by rw [hez];decide)]
      (have FX:=And.intro hla (And.intro hle (And.intro hll (And.intro hga (And.intro hal (And.intro hsl hti)))));repeat'(first|(refine sx ?_ ?_<;>intro h<;>first|(exfalso;omega)|skip)|(refine g_op ?_;refine g_call ?_;refine g_args ?_;(first|refine s_fn (bwithin_c _ _ _ _) ?_|refine s_fn (hcp _) ?_|refine s_fn (bisname_c _ _) ?_|refine s_fn (rpartat_c a.parts _ _ ha.np) ?_|refine s_fn (reventnumber_c a _ _ ha.ne) ?_|refine s_fn (hld _) ?_)<;>try first|omega|assumption)|refine ny ?_|refine WA_block ?_|(refine uC20_12_8 ?_;refine⟨by kernel_rfl,?_⟩)|((first|refine grp_cons (fun _=>bwithin_c _ _ _ _) ?_|refine grp_cons (fun _=>hcp _) ?_|refine grp_cons (fun _=>bisname_c _ _) ?_|refine grp_cons (fun _=>rpartat_c a.parts _ _ ha.np) ?_|refine grp_cons (fun _=>reventnumber_c a _ _ ha.ne) ?_|refine grp_cons (fun _=>hld _) ?_)<;>try first|omega|assumption)|(refine g_d ?_;refine d_args ?_;(first|refine d_fn (bwithin_c _ _ _ _) ?_|refine d_fn (hcp _) ?_|refine d_fn (bisname_c _ _) ?_|refine d_fn (rpartat_c a.parts _ _ ha.np) ?_|refine d_fn (reventnumber_c a _ _ ha.ne) ?_|refine d_fn (hld _) ?_|refine d_fnQ (fun _=>bwithin_c _ _ _ _) ?_|refine d_fnQ (fun _=>hcp _) ?_|refine d_fnQ (fun _=>bisname_c _ _) ?_|refine d_fnQ (fun _=>rpartat_c a.parts _ _ ha.np) ?_|refine d_fnQ (fun _=>reventnumber_c a _ _ ha.ne) ?_|refine d_fnQ (fun _=>hld _) ?_)<;>try first|omega|assumption)|(refine g_d ?_;(first|refine d_fnY (bwithin_c _ _ _ _) ?_|refine d_fnY (hcp _) ?_|refine d_fnY (bisname_c _ _) ?_|refine d_fnY (rpartat_c a.parts _ _ ha.np) ?_|refine d_fnY (reventnumber_c a _ _ ha.ne) ?_|refine d_fnY (hld _) ?_)<;>try first|omega|assumption)))
      all_goals(try(exfalso;omega))
      all_goals try
        ((refine r_es hQ ?_;try with_reducible rfl)
         refine congrArg (V.int .i64) ?_
         rw [hpre]
         unfold ldsErr
         rw [if_pos (by omega)])
      have hl8:a.leads.length≤8:=by omega
      clear FX hK
      refine WA_whileK (σ:=Nat) [1,7] (fun i=>[.ptr (lend m).length 0 0,.int .i64 i]) (fun _=>[actB a]) 1 (fun i=>i≤a.leads.length∧∀ j,j<i→ldErrAt a.leads j=0) (fun i=>a.leads.length - i) 0 ⟨Nat.zero_le _,fun j h=>absurd h (Nat.not_lt_zero _)⟩ tv_ rfl (fun _=>rfl) (by intro s s' _ _;simp [conB,conS,V.keeps,V.plain,Blk.flat,flatL,plainL,V.flat]) (by intro s s' _ _;simp [conB,conS,V.keeps,V.plain,Blk.flat,flatL,plainL,V.flat]) ?_
      rintro i ⟨hk1,hk2⟩ K hK
      simp only [zipT]
      clear hga hal hsl hti hcp hld
      rcases Nat.lt_or_ge i a.leads.length with hk|hk
      · have hga:=ldsV_get hk
        have hld:=fun m=>rchecklead_c (a.leads.getD i l0) m
        have hat:ldErrAt a.leads i=ldErr (a.leads.getD i l0):=rfl
        have hal:=hla
        have hsl:=hla
        have hti:=hla
        have hcp:=hla
        unfold ldV at hga hld
        (have FX:=And.intro hla (And.intro hle (And.intro hll (And.intro hga (And.intro hal (And.intro hsl hti)))));repeat'(first|(refine sx ?_ ?_<;>intro h<;>first|(exfalso;omega)|skip)|(refine g_op ?_;refine g_call ?_;refine g_args ?_;(first|refine s_fn (bwithin_c _ _ _ _) ?_|refine s_fn (hcp _) ?_|refine s_fn (bisname_c _ _) ?_|refine s_fn (rpartat_c a.parts _ _ ha.np) ?_|refine s_fn (reventnumber_c a _ _ ha.ne) ?_|refine s_fn (hld _) ?_)<;>try first|omega|assumption)|refine ny ?_|refine WA_block ?_|(refine uC20_12_8 ?_;refine⟨by kernel_rfl,?_⟩)|((first|refine grp_cons (fun _=>bwithin_c _ _ _ _) ?_|refine grp_cons (fun _=>hcp _) ?_|refine grp_cons (fun _=>bisname_c _ _) ?_|refine grp_cons (fun _=>rpartat_c a.parts _ _ ha.np) ?_|refine grp_cons (fun _=>reventnumber_c a _ _ ha.ne) ?_|refine grp_cons (fun _=>hld _) ?_)<;>try first|omega|assumption)|(refine g_d ?_;refine d_args ?_;(first|refine d_fn (bwithin_c _ _ _ _) ?_|refine d_fn (hcp _) ?_|refine d_fn (bisname_c _ _) ?_|refine d_fn (rpartat_c a.parts _ _ ha.np) ?_|refine d_fn (reventnumber_c a _ _ ha.ne) ?_|refine d_fn (hld _) ?_|refine d_fnQ (fun _=>bwithin_c _ _ _ _) ?_|refine d_fnQ (fun _=>hcp _) ?_|refine d_fnQ (fun _=>bisname_c _ _) ?_|refine d_fnQ (fun _=>rpartat_c a.parts _ _ ha.np) ?_|refine d_fnQ (fun _=>reventnumber_c a _ _ ha.ne) ?_|refine d_fnQ (fun _=>hld _) ?_)<;>try first|omega|assumption)|(refine g_d ?_;(first|refine d_fnY (bwithin_c _ _ _ _) ?_|refine d_fnY (hcp _) ?_|refine d_fnY (bisname_c _ _) ?_|refine d_fnY (rpartat_c a.parts _ _ ha.np) ?_|refine d_fnY (reventnumber_c a _ _ ha.ne) ?_|refine d_fnY (hld _) ?_)<;>try first|omega|assumption)))
        all_goals(try(exfalso;omega))
        all_goals try
          ((refine r_es hQ ?_;try with_reducible rfl)
           refine congrArg (V.int .i64) ?_
           rw [hpre]
           unfold ldsErr
           rw [if_neg (by omega),firstE_is hk hk2 hat (by assumption)])
        all_goals(refine nextL_ hK (i+1) ⟨hk,ext_zero hk2 (by rw [hat];first|assumption|omega|grind)⟩ (by omega))
      · have hke:i=a.leads.length:=by omega
        subst hke
        have hga:=hla
        have hal:=hla
        have hsl:=hla
        have hti:=hla
        have hcp:=hla
        have hld:=hla
        (have FX:=And.intro hla (And.intro hle (And.intro hll (And.intro hga (And.intro hal (And.intro hsl hti)))));repeat'(first|(refine sx ?_ ?_<;>intro h<;>first|(exfalso;omega)|skip)|(refine g_op ?_;refine g_call ?_;refine g_args ?_;(first|refine s_fn (bwithin_c _ _ _ _) ?_|refine s_fn (hcp _) ?_|refine s_fn (bisname_c _ _) ?_|refine s_fn (rpartat_c a.parts _ _ ha.np) ?_|refine s_fn (reventnumber_c a _ _ ha.ne) ?_|refine s_fn (hld _) ?_)<;>try first|omega|assumption)|refine ny ?_|refine WA_block ?_|(refine uC20_12_8 ?_;refine⟨by kernel_rfl,?_⟩)|((first|refine grp_cons (fun _=>bwithin_c _ _ _ _) ?_|refine grp_cons (fun _=>hcp _) ?_|refine grp_cons (fun _=>bisname_c _ _) ?_|refine grp_cons (fun _=>rpartat_c a.parts _ _ ha.np) ?_|refine grp_cons (fun _=>reventnumber_c a _ _ ha.ne) ?_|refine grp_cons (fun _=>hld _) ?_)<;>try first|omega|assumption)|(refine g_d ?_;refine d_args ?_;(first|refine d_fn (bwithin_c _ _ _ _) ?_|refine d_fn (hcp _) ?_|refine d_fn (bisname_c _ _) ?_|refine d_fn (rpartat_c a.parts _ _ ha.np) ?_|refine d_fn (reventnumber_c a _ _ ha.ne) ?_|refine d_fn (hld _) ?_|refine d_fnQ (fun _=>bwithin_c _ _ _ _) ?_|refine d_fnQ (fun _=>hcp _) ?_|refine d_fnQ (fun _=>bisname_c _ _) ?_|refine d_fnQ (fun _=>rpartat_c a.parts _ _ ha.np) ?_|refine d_fnQ (fun _=>reventnumber_c a _ _ ha.ne) ?_|refine d_fnQ (fun _=>hld _) ?_)<;>try first|omega|assumption)|(refine g_d ?_;(first|refine d_fnY (bwithin_c _ _ _ _) ?_|refine d_fnY (hcp _) ?_|refine d_fnY (bisname_c _ _) ?_|refine d_fnY (rpartat_c a.parts _ _ ha.np) ?_|refine d_fnY (reventnumber_c a _ _ ha.ne) ?_|refine d_fnY (hld _) ?_)<;>try first|omega|assumption)))
        all_goals(try(exfalso;omega))
        all_goals((refine r_es hQ ?_;try with_reducible rfl))
        all_goals(refine congrArg (V.int .i64) ?_;rw [hpre];unfold ldsErr;rw [if_neg (by omega),firstE_zero.2 hk2])
end Go.Proofs.YtomkbpoicjabfaaGreatDoor
