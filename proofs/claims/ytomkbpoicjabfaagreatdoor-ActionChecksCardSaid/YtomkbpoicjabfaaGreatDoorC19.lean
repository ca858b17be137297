/- contracts: the checks of an action -/
import Derived.Test.YtomkbpoicjabfaaGreatDoorC18
set_option linter.unusedSimpArgs false
set_option linter.unusedVariables false
namespace Go.Proofs.YtomkbpoicjabfaaGreatDoor
open Go.RowKit
attribute [local irreducible] WA WOs WDs WAn qThen qBlock tput
set_option maxHeartbeats 1000000
set_option maxRecDepth 20000
set_option linter.unusedSimpArgs false
set_option linter.unusedVariables false
/-- an action whose lists and names are not too long for the walks -/
structure Lt(a:ActR):Prop where
  np:a.parts.length≤1000
  ne:a.evs.length≤1000
  nl:a.leads.length≤1000
  pn:∀ i,i<a.parts.length→(a.parts.getD i p0).name.length≤1000
  en:∀ i,i<a.evs.length→(a.evs.getD i e0).name.length≤1000
theorem prtsV_all{l:List PartR}{n:Nat}(h:n=5):(prtsV l).all (fun e=>e.length==n)=true:=by subst h;simp [prtsV,prtV]
theorem evsV_all{l:List EvR}{n:Nat}(h:n=4):(evsV l).all (fun e=>e.length==n)=true:=by subst h;simp [evsV,evV]
theorem prtsV_take(l:List PartR)(i:Nat):(prtsV l).take i=prtsV (l.take i):=by simp [prtsV,List.map_take]
theorem evsV_take(l:List EvR)(i:Nat):(evsV l).take i=evsV (l.take i):=by simp [evsV,List.map_take]
abbrev actB(a:ActR):Blk:= .cells .own 27 4 [[.int .i64 a.dip,.lst (prtsV a.parts),.lst (evsV a.evs),.lst (ldsV a.leads)]]
theorem uC19_13_8{N:Nat}{l:List Oper}{t:List (Nat×V)}{m:Mem}{Q:Exit→List (Nat×V)→Mem→Prop}(h:RgN Tryz.prog N l t m Q (fun i=>if i==1 || i==4 || i==5 then .q else .p) [.one 0,.one 1,.one 2,.one 3,.one 4,.one 5,.one 6]):WA Tryz.prog N (.region 8 l.toArray true) t m Q:=d_rgN h
theorem uC19_13_19{N:Nat}{l:List Oper}{t:List (Nat×V)}{m:Mem}{Q:Exit→List (Nat×V)→Mem→Prop}(h:RgN Tryz.prog N l t m Q (fun i=>if i==1 || i==5 || i==6 then .q else .p) [.one 0,.one 1,.one 2,.one 3,.one 4,.one 5,.one 6,.one 7,.one 8]):WA Tryz.prog N (.region 19 l.toArray true) t m Q:=d_rgN h
theorem acheckaction_c (a:ActR) (ha:Lt a) (m:Mem):Gives Tryz.prog 13 [.agg (actV a)] m (.int .i64 (acErr a)):=by
  have hla:=prtsV_length (l:=a.parts)
  have hle:=evsV_length (l:=a.evs)
  have hga:=hla
  have hal:=hla
  have hsl:=hla
  have hti:=hla
  have hcp:=fun m=>achecklead_c (0,0) m
  have hfe:=hcp
  have hen:=hla
  unfold actV
  refine Gives_in Tryz.func13 rfl Tryz.ntmps13 Tryz.results13 (by kernel_rfl) (by simp) rfl fun Q hQ=>?_
  (have FX:=And.intro hla (And.intro hle (And.intro hga (And.intro hal (And.intro hsl hti))));repeat'(first|(refine sx ?_ ?_<;>intro h<;>first|(exfalso;omega)|skip)|(refine g_op ?_;refine g_call ?_;refine g_args ?_;(first|refine s_fn (awithin_c _ _ _ _) ?_|refine s_fn (hcp _) ?_|refine s_fn (aisname_c _ hen _) ?_|refine s_fn (afind_c a.parts _ _ ha.np) ?_|refine s_fn (hfe _) ?_|refine s_fn (acheckleads_c a.leads _) ?_)<;>try first|omega|assumption)|refine ny ?_|refine WA_block ?_|(refine uC19_13_8 ?_;refine⟨by kernel_rfl,?_⟩)|(refine uC19_13_19 ?_;refine⟨by kernel_rfl,?_⟩)|((first|refine grp_cons (fun _=>awithin_c _ _ _ _) ?_|refine grp_cons (fun _=>hcp _) ?_|refine grp_cons (fun _=>aisname_c _ hen _) ?_|refine grp_cons (fun _=>afind_c a.parts _ _ ha.np) ?_|refine grp_cons (fun _=>hfe _) ?_|refine grp_cons (fun _=>acheckleads_c a.leads _) ?_)<;>try first|omega|assumption)|(refine g_d ?_;refine d_args ?_;(first|refine d_fn (awithin_c _ _ _ _) ?_|refine d_fn (hcp _) ?_|refine d_fn (aisname_c _ hen _) ?_|refine d_fn (afind_c a.parts _ _ ha.np) ?_|refine d_fn (hfe _) ?_|refine d_fn (acheckleads_c a.leads _) ?_|refine d_fnQ (fun _=>awithin_c _ _ _ _) ?_|refine d_fnQ (fun _=>hcp _) ?_|refine d_fnQ (fun _=>aisname_c _ hen _) ?_|refine d_fnQ (fun _=>afind_c a.parts _ _ ha.np) ?_|refine d_fnQ (fun _=>hfe _) ?_|refine d_fnQ (fun _=>acheckleads_c a.leads _) ?_)<;>try first|omega|assumption)|(refine g_d ?_;(first|refine d_fnY (awithin_c _ _ _ _) ?_|refine d_fnY (hcp _) ?_|refine d_fnY (aisname_c _ hen _) ?_|refine d_fnY (afind_c a.parts _ _ ha.np) ?_|refine d_fnY (hfe _) ?_|refine d_fnY (acheckleads_c a.leads _) ?_)<;>try first|omega|assumption)))
  all_goals(try(exfalso;omega))
  all_goals try
    ((refine r_es hQ ?_;try with_reducible rfl)
     refine congrArg (V.int .i64) ?_
     unfold acErr
     first|(rw [if_pos (by omega)];done)|(rw [if_neg (by omega),if_pos (by omega)];done))
  have hd:1≤a.dip∧a.dip≤2000:=by omega
  have hp12:a.parts.length≤12:=by omega
  refine WA_whileK (σ:=Nat) [1,19,20,21] (fun i=>[.ptr (lend m).length 0 0,.lst (prtsV a.parts),.int .i64 a.parts.length,.int .i64 i]) (fun _=>[actB a]) 1 (fun i=>i≤a.parts.length∧∀ j,j<i→ptErrAt a.parts j=0) (fun i=>a.parts.length - i) 0 ⟨Nat.zero_le _,fun j h=>absurd h (Nat.not_lt_zero _)⟩ tv_ rfl (fun _=>rfl) (by intro s s' _ _;simp [conB,conS,V.keeps,V.plain,Blk.flat,flatL,plainL,V.flat]) (by intro s s' _ _;simp [conB,conS,V.keeps,V.plain,Blk.flat,flatL,plainL,V.flat]) ?_
  rintro i ⟨hi1,hi2⟩ K hK
  simp only [zipT]
  clear FX hga hal hsl hti hcp
  rcases Nat.lt_or_ge i a.parts.length with hi|hi
  · have hga:=prtsV_get hi
    have hal:=fun n h=>prtsV_all (l:=a.parts) (n:=n) h
    have hsl:=prtsV_take a.parts i
    have hti:((i:Int) - ((0:Nat):Int)).toNat=i:=by omega
    have hcp:=fun m=>acheckpart_c (a.parts.take i) (a.parts.getD i p0) m (by rw [List.length_take];omega) (ha.pn i hi)
    have hat:ptErrAt a.parts i=ptErr (a.parts.take i) (a.parts.getD i p0):=rfl
    unfold prtV at hga hcp
    (have FX:=And.intro hla (And.intro hle (And.intro hga (And.intro hal (And.intro hsl hti))));repeat'(first|(refine sx ?_ ?_<;>intro h<;>first|(exfalso;omega)|skip)|(refine g_op ?_;refine g_call ?_;refine g_args ?_;(first|refine s_fn (awithin_c _ _ _ _) ?_|refine s_fn (hcp _) ?_|refine s_fn (aisname_c _ hen _) ?_|refine s_fn (afind_c a.parts _ _ ha.np) ?_|refine s_fn (hfe _) ?_|refine s_fn (acheckleads_c a.leads _) ?_)<;>try first|omega|assumption)|refine ny ?_|refine WA_block ?_|(refine uC19_13_8 ?_;refine⟨by kernel_rfl,?_⟩)|(refine uC19_13_19 ?_;refine⟨by kernel_rfl,?_⟩)|((first|refine grp_cons (fun _=>awithin_c _ _ _ _) ?_|refine grp_cons (fun _=>hcp _) ?_|refine grp_cons (fun _=>aisname_c _ hen _) ?_|refine grp_cons (fun _=>afind_c a.parts _ _ ha.np) ?_|refine grp_cons (fun _=>hfe _) ?_|refine grp_cons (fun _=>acheckleads_c a.leads _) ?_)<;>try first|omega|assumption)|(refine g_d ?_;refine d_args ?_;(first|refine d_fn (awithin_c _ _ _ _) ?_|refine d_fn (hcp _) ?_|refine d_fn (aisname_c _ hen _) ?_|refine d_fn (afind_c a.parts _ _ ha.np) ?_|refine d_fn (hfe _) ?_|refine d_fn (acheckleads_c a.leads _) ?_|refine d_fnQ (fun _=>awithin_c _ _ _ _) ?_|refine d_fnQ (fun _=>hcp _) ?_|refine d_fnQ (fun _=>aisname_c _ hen _) ?_|refine d_fnQ (fun _=>afind_c a.parts _ _ ha.np) ?_|refine d_fnQ (fun _=>hfe _) ?_|refine d_fnQ (fun _=>acheckleads_c a.leads _) ?_)<;>try first|omega|assumption)|(refine g_d ?_;(first|refine d_fnY (awithin_c _ _ _ _) ?_|refine d_fnY (hcp _) ?_|refine d_fnY (aisname_c _ hen _) ?_|refine d_fnY (afind_c a.parts _ _ ha.np) ?_|refine d_fnY (hfe _) ?_|refine d_fnY (acheckleads_c a.leads _) ?_)<;>try first|omega|assumption)))
    all_goals(try(exfalso;omega))
    all_goals try
      ((refine r_es hQ ?_;try with_reducible rfl)
       have he:=firstE_is hi hi2 hat (by assumption)
       refine congrArg (V.int .i64) ?_
       unfold acErr
       rw [if_neg (by omega),if_neg (by omega),if_pos (by rw [he];assumption),he])
    all_goals(refine nextL_ hK (i+1) ⟨hi,ext_zero hi2 (by rw [hat];first|assumption|omega|grind)⟩ (by omega))
  · have hie:i=a.parts.length:=by omega
    subst hie
    have hpz:=firstE_zero.2 hi2
    have hga:=hla
    have hal:=hla
    have hsl:=hla
    have hti:=hla
    have hcp:=hla
    (have FX:=And.intro hla (And.intro hle (And.intro hga (And.intro hal (And.intro hsl hti))));repeat'(first|(refine sx ?_ ?_<;>intro h<;>first|(exfalso;omega)|skip)|(refine g_op ?_;refine g_call ?_;refine g_args ?_;(first|refine s_fn (awithin_c _ _ _ _) ?_|refine s_fn (hcp _) ?_|refine s_fn (aisname_c _ hen _) ?_|refine s_fn (afind_c a.parts _ _ ha.np) ?_|refine s_fn (hfe _) ?_|refine s_fn (acheckleads_c a.leads _) ?_)<;>try first|omega|assumption)|refine ny ?_|refine WA_block ?_|(refine uC19_13_8 ?_;refine⟨by kernel_rfl,?_⟩)|(refine uC19_13_19 ?_;refine⟨by kernel_rfl,?_⟩)|((first|refine grp_cons (fun _=>awithin_c _ _ _ _) ?_|refine grp_cons (fun _=>hcp _) ?_|refine grp_cons (fun _=>aisname_c _ hen _) ?_|refine grp_cons (fun _=>afind_c a.parts _ _ ha.np) ?_|refine grp_cons (fun _=>hfe _) ?_|refine grp_cons (fun _=>acheckleads_c a.leads _) ?_)<;>try first|omega|assumption)|(refine g_d ?_;refine d_args ?_;(first|refine d_fn (awithin_c _ _ _ _) ?_|refine d_fn (hcp _) ?_|refine d_fn (aisname_c _ hen _) ?_|refine d_fn (afind_c a.parts _ _ ha.np) ?_|refine d_fn (hfe _) ?_|refine d_fn (acheckleads_c a.leads _) ?_|refine d_fnQ (fun _=>awithin_c _ _ _ _) ?_|refine d_fnQ (fun _=>hcp _) ?_|refine d_fnQ (fun _=>aisname_c _ hen _) ?_|refine d_fnQ (fun _=>afind_c a.parts _ _ ha.np) ?_|refine d_fnQ (fun _=>hfe _) ?_|refine d_fnQ (fun _=>acheckleads_c a.leads _) ?_)<;>try first|omega|assumption)|(refine g_d ?_;(first|refine d_fnY (awithin_c _ _ _ _) ?_|refine d_fnY (hcp _) ?_|refine d_fnY (aisname_c _ hen _) ?_|refine d_fnY (afind_c a.parts _ _ ha.np) ?_|refine d_fnY (hfe _) ?_|refine d_fnY (acheckleads_c a.leads _) ?_)<;>try first|omega|assumption)))
    all_goals(try(exfalso;omega))
    all_goals try
      ((refine r_es hQ ?_;try with_reducible rfl)
       refine congrArg (V.int .i64) ?_
       unfold acErr
       rw [if_neg (by omega),if_neg (by omega),if_neg (by rw [hpz];decide),if_pos (by omega)]
       done)
    have he20:a.evs.length≤20:=by omega
    clear FX hK
    refine WA_whileK (σ:=Nat) [1,41,42,43] (fun i=>[.ptr (lend m).length 0 0,.lst (evsV a.evs),.int .i64 a.evs.length,.int .i64 i]) (fun _=>[actB a]) 1 (fun i=>i≤a.evs.length∧∀ j,j<i→evErrAt a j=0) (fun i=>a.evs.length - i) 0 ⟨Nat.zero_le _,fun j h=>absurd h (Nat.not_lt_zero _)⟩ tv_ rfl (fun _=>rfl) (by intro s s' _ _;simp [conB,conS,V.keeps,V.plain,Blk.flat,flatL,plainL,V.flat]) (by intro s s' _ _;simp [conB,conS,V.keeps,V.plain,Blk.flat,flatL,plainL,V.flat]) ?_
    rintro i ⟨hj1,hj2⟩ K hK
    simp only [zipT]
    clear hga hal hsl hti hcp
    rcases Nat.lt_or_ge i a.evs.length with hj|hj
    · have hga:=evsV_get hj
      have hal:=fun n h=>evsV_all (l:=a.evs) (n:=n) h
      have hsl:=evsV_take a.evs i
      have hti:((i:Int) - ((0:Nat):Int)).toNat=i:=by omega
      have hen:=ha.en i hj
      have hfe:=fun m=>afindev_c (a.evs.take i) (a.evs.getD i e0).name m (by rw [List.length_take];omega)
      have b1:=fidx_bd (isE (a.evs.getD i e0).name) (a.evs.take i)
      have b2:=fidx_bd (isP (a.evs.getD i e0).part) a.parts
      have hat:evErrAt a i=if ¬ nameP (a.evs.getD i e0).name then 4 else if 0≤fidx (isE (a.evs.getD i e0).name) (a.evs.take i) then 5 else if fidx (isP (a.evs.getD i e0).part) a.parts<0 then 6 else if ¬ (-10000≤(a.evs.getD i e0).lev∧(a.evs.getD i e0).lev≤10000) then 2 else 0:=rfl
      have hcp:=hla
      have hfin:∀ e,firstE (evErrAt a) a.evs.length=e→e≠0→acErr a=e:=fun e he hne=>by unfold acErr;rw [if_neg (by omega),if_neg (by omega),if_neg (by rw [hpz];decide),if_neg (by omega),if_pos (by rw [he];exact hne),he]
      unfold evV at hga
      (have FX:=And.intro hla (And.intro hle (And.intro hga (And.intro hal (And.intro hsl hti))));repeat'(first|(refine sx ?_ ?_<;>intro h<;>first|(exfalso;omega)|skip)|(refine g_op ?_;refine g_call ?_;refine g_args ?_;(first|refine s_fn (awithin_c _ _ _ _) ?_|refine s_fn (hcp _) ?_|refine s_fn (aisname_c _ hen _) ?_|refine s_fn (afind_c a.parts _ _ ha.np) ?_|refine s_fn (hfe _) ?_|refine s_fn (acheckleads_c a.leads _) ?_)<;>try first|omega|assumption)|refine ny ?_|refine WA_block ?_|(refine uC19_13_8 ?_;refine⟨by kernel_rfl,?_⟩)|(refine uC19_13_19 ?_;refine⟨by kernel_rfl,?_⟩)|((first|refine grp_cons (fun _=>awithin_c _ _ _ _) ?_|refine grp_cons (fun _=>hcp _) ?_|refine grp_cons (fun _=>aisname_c _ hen _) ?_|refine grp_cons (fun _=>afind_c a.parts _ _ ha.np) ?_|refine grp_cons (fun _=>hfe _) ?_|refine grp_cons (fun _=>acheckleads_c a.leads _) ?_)<;>try first|omega|assumption)|(refine g_d ?_;refine d_args ?_;(first|refine d_fn (awithin_c _ _ _ _) ?_|refine d_fn (hcp _) ?_|refine d_fn (aisname_c _ hen _) ?_|refine d_fn (afind_c a.parts _ _ ha.np) ?_|refine d_fn (hfe _) ?_|refine d_fn (acheckleads_c a.leads _) ?_|refine d_fnQ (fun _=>awithin_c _ _ _ _) ?_|refine d_fnQ (fun _=>hcp _) ?_|refine d_fnQ (fun _=>aisname_c _ hen _) ?_|refine d_fnQ (fun _=>afind_c a.parts _ _ ha.np) ?_|refine d_fnQ (fun _=>hfe _) ?_|refine d_fnQ (fun _=>acheckleads_c a.leads _) ?_)<;>try first|omega|assumption)|(refine g_d ?_;(first|refine d_fnY (awithin_c _ _ _ _) ?_|refine d_fnY (hcp _) ?_|refine d_fnY (aisname_c _ hen _) ?_|refine d_fnY (afind_c a.parts _ _ ha.np) ?_|refine d_fnY (hfe _) ?_|refine d_fnY (acheckleads_c a.leads _) ?_)<;>try first|omega|assumption)))
      all_goals(try(exfalso;omega))
      all_goals try
        ((refine r_es hQ ?_;try with_reducible rfl)
         exact congrArg (V.int .i64) (hfin _ (firstE_is hj hj2 (by rw [hat];(repeat (first|rw [if_pos (by first|assumption|omega|grind)]|rw [if_neg (by first|assumption|omega|grind)]))) (by decide)) (by decide)).symm)
      all_goals(refine nextL_ hK (i+1) ⟨hj,ext_zero hj2 (by rw [hat];(repeat (first|rw [if_pos (by first|assumption|omega|grind)]|rw [if_neg (by first|assumption|omega|grind)])))⟩ (by omega))
    · have hje:i=a.evs.length:=by omega
      subst hje
      have hez:=firstE_zero.2 hj2
      have hga:=hla
      have hal:=hla
      have hsl:=hla
      have hti:=hla
      have hcp:=hla
      (have FX:=And.intro hla (And.intro hle (And.intro hga (And.intro hal (And.intro hsl hti))));repeat'(first|(refine sx ?_ ?_<;>intro h<;>first|(exfalso;omega)|skip)|(refine g_op ?_;refine g_call ?_;refine g_args ?_;(first|refine s_fn (awithin_c _ _ _ _) ?_|refine s_fn (hcp _) ?_|refine s_fn (aisname_c _ hen _) ?_|refine s_fn (afind_c a.parts _ _ ha.np) ?_|refine s_fn (hfe _) ?_|refine s_fn (acheckleads_c a.leads _) ?_)<;>try first|omega|assumption)|refine ny ?_|refine WA_block ?_|(refine uC19_13_8 ?_;refine⟨by kernel_rfl,?_⟩)|(refine uC19_13_19 ?_;refine⟨by kernel_rfl,?_⟩)|((first|refine grp_cons (fun _=>awithin_c _ _ _ _) ?_|refine grp_cons (fun _=>hcp _) ?_|refine grp_cons (fun _=>aisname_c _ hen _) ?_|refine grp_cons (fun _=>afind_c a.parts _ _ ha.np) ?_|refine grp_cons (fun _=>hfe _) ?_|refine grp_cons (fun _=>acheckleads_c a.leads _) ?_)<;>try first|omega|assumption)|(refine g_d ?_;refine d_args ?_;(first|refine d_fn (awithin_c _ _ _ _) ?_|refine d_fn (hcp _) ?_|refine d_fn (aisname_c _ hen _) ?_|refine d_fn (afind_c a.parts _ _ ha.np) ?_|refine d_fn (hfe _) ?_|refine d_fn (acheckleads_c a.leads _) ?_|refine d_fnQ (fun _=>awithin_c _ _ _ _) ?_|refine d_fnQ (fun _=>hcp _) ?_|refine d_fnQ (fun _=>aisname_c _ hen _) ?_|refine d_fnQ (fun _=>afind_c a.parts _ _ ha.np) ?_|refine d_fnQ (fun _=>hfe _) ?_|refine d_fnQ (fun _=>acheckleads_c a.leads _) ?_)<;>try first|omega|assumption)|(refine g_d ?_;(first|refine d_fnY (awithin_c _ _ _ _) ?_|refine d_fnY (hcp _) ?_|refine d_fnY (aisname_c _ hen _) ?_|refine d_fnY (afind_c a.parts _ _ ha.np) ?_|refine d_fnY (hfe _) ?_|refine d_fnY (acheckleads_c a.leads _) ?_)<;>try first|omega|assumption)))
      all_goals(try(exfalso;omega))
      all_goals((refine r_es hQ ?_;try with_reducible rfl))
      all_goals(refine congrArg (V.int .i64) ?_;unfold acErr;rw [if_neg (by omega),if_neg (by omega),if_neg (by rw [hpz];decide),if_neg (by omega),if_neg (by rw [hez];decide)])
end Go.Proofs.YtomkbpoicjabfaaGreatDoor
