import Derived.Test.YtookikhphobnlaaGreatDoorB24
import Derived.Test.YtookikhphobnlaaGreatDoorGAJ
set_option linter.unusedSimpArgs false
set_option linter.unusedVariables false
/- contract: the reference's check of a bench -/
namespace Go.Proofs.YtookikhphobnlaaGreatDoor
open Go.RowKit
attribute [local irreducible] WA WOs WDs WAn qThen qBlock tput
set_option maxHeartbeats 1000000
set_option maxRecDepth 20000
set_option linter.unusedSimpArgs false
set_option linter.unusedVariables false
set_option maxHeartbeats 4000000
theorem uB25_18_6{N:Nat}{l:List Oper}{t:List (Nat×V)}{m:Mem}{Q:Exit→List (Nat×V)→Mem→Prop}(h:RgN Tryz.prog N l t m Q (fun i=>if i==1 || i==5 || i==8 || i==9 then .q else .p) [.one 0,.one 1,.one 2,.one 3,.one 4,.one 5,.one 6,.one 7,.one 8,.one 9,.one 10]):WA Tryz.prog N (.region 6 l.toArray true) t m Q:=d_rgN h
theorem uB25_18_17{N:Nat}{l:List Oper}{t:List (Nat×V)}{m:Mem}{Q:Exit→List (Nat×V)→Mem→Prop}(h:RgN Tryz.prog N l t m Q (fun i=>if i==1 || i==2 then .a else if i==0 || i==4 || i==5 then .q else .p) [.one 0,.one 3,.one 4,.one 5,.one 1,.one 2,.one 6]):WA Tryz.prog N (.region 17 l.toArray true) t m Q:=d_rgN h
theorem rcheckbench_c (b:BnR) (hb:Bl b) (m:Mem):Gives Tryz.prog 18 [.agg [.lst (mssV b.ms),.lst (adsV b.ads)]] m (.int .i64 (bnErr b)):=by
  have hlm:=mssV_length (l:=b.ms)
  have hla:=adsV_length (l:=b.ads)
  have hlo:=nuV_length (l:=ordB b.ads)
  have hbm:=hb.nm
  have hba:=hb.na
  have hga:=hla
  have hti:=hla
  have hsl:=hla
  have hal:=hla
  have hcm:=hla
  have hca:=hla
  have hor:=hla
  unfold bnErr mssErr
  refine Gives_in Tryz.func18 rfl Tryz.ntmps18 Tryz.results18 (by kernel_rfl) (by simp) rfl fun Q hQ=>?_
  (have FX:=And.intro hlm (And.intro hla (And.intro hlo (And.intro hga (And.intro hti (And.intro hsl hal)))));repeat'(first|(refine sx ?_ ?_<;>intro h<;>first|(exfalso;omega)|skip)|(refine g_op ?_;refine g_call ?_;refine g_args ?_;(first|refine s_fn (hcm _) ?_|refine s_fn (hca _) ?_|refine s_fn (hor _) ?_)<;>try first|omega|assumption)|refine ny ?_|refine WA_block ?_|(refine uB25_18_6 ?_;refine⟨by kernel_rfl,?_⟩)|(refine uB25_18_17 ?_;refine⟨by kernel_rfl,?_⟩)|((first|refine grp_cons (fun _=>hcm _) ?_|refine grp_cons (fun _=>hca _) ?_|refine grp_cons (fun _=>hor _) ?_)<;>try first|omega|assumption)|(refine g_d ?_;refine d_args ?_;(first|refine d_fn (hcm _) ?_|refine d_fn (hca _) ?_|refine d_fn (hor _) ?_|refine d_fnQ (fun _=>hcm _) ?_|refine d_fnQ (fun _=>hca _) ?_|refine d_fnQ (fun _=>hor _) ?_)<;>try first|omega|assumption)|(refine g_d ?_;(first|refine d_fnY (hcm _) ?_|refine d_fnY (hca _) ?_|refine d_fnY (hor _) ?_)<;>try first|omega|assumption)))
  all_goals(try(exfalso;omega))
  all_goals try
    ((refine r_es hQ ?_;try with_reducible rfl)
     refine congrArg (V.int .i64) ?_
     rw [if_pos (by rw [if_pos (by omega)];decide),if_pos (by omega)]
     done)
  have hm12:b.ms.length≤12:=by omega
  rw [if_neg (show ¬ 12<b.ms.length by omega)] at hQ
  refine WA_while (σ:=Nat) [1,3] (fun i=>[.ptr (lend m).length 0 0,.int .i64 i]) (fun _=>lend m++[.cells .own 28 2 [[.lst (mssV b.ms),.lst (adsV b.ads)]]]) (fun i=>i≤b.ms.length∧∀ j,j<i→msErrAt b.ms j=0) (fun i=>b.ms.length - i) 0 ⟨Nat.zero_le _,fun j h=>absurd h (Nat.not_lt_zero _)⟩ tv_ rfl ?_
  rintro i ⟨hi1,hi2⟩ K hK
  simp only [zipT]
  clear FX hga hti hsl hal hcm
  rcases Nat.lt_or_ge i b.ms.length with hi|hi
  · have hga:=mssV_get hi
    have hti:((i:Int) - ((0:Nat):Int)).toNat=i:=by omega
    have hsl:=mssV_take b.ms i
    have hal:=fun n h=>mssV_all (l:=b.ms) (n:=n) h
    have hcm0:=fun m=>rcheckmeasure_c (b.ms.take i) (b.ms.getD i msz) (by rw [List.length_take];omega) m
    have hat:msErrAt b.ms i=msErr (b.ms.take i) (b.ms.getD i msz):=rfl
    rw [←hat] at hcm0
    have hcm:=hcm0
    clear hcm0
    unfold msV at hga hcm
    generalize hme:msErrAt b.ms i=me at *
    (have FX:=And.intro hlm (And.intro hla (And.intro hlo (And.intro hga (And.intro hti (And.intro hsl hal)))));repeat'(first|(refine sx ?_ ?_<;>intro h<;>first|(exfalso;omega)|skip)|(refine g_op ?_;refine g_call ?_;refine g_args ?_;(first|refine s_fn (hcm _) ?_|refine s_fn (hca _) ?_|refine s_fn (hor _) ?_)<;>try first|omega|assumption)|refine ny ?_|refine WA_block ?_|(refine uB25_18_6 ?_;refine⟨by kernel_rfl,?_⟩)|(refine uB25_18_17 ?_;refine⟨by kernel_rfl,?_⟩)|((first|refine grp_cons (fun _=>hcm _) ?_|refine grp_cons (fun _=>hca _) ?_|refine grp_cons (fun _=>hor _) ?_)<;>try first|omega|assumption)|(refine g_d ?_;refine d_args ?_;(first|refine d_fn (hcm _) ?_|refine d_fn (hca _) ?_|refine d_fn (hor _) ?_|refine d_fnQ (fun _=>hcm _) ?_|refine d_fnQ (fun _=>hca _) ?_|refine d_fnQ (fun _=>hor _) ?_)<;>try first|omega|assumption)|(refine g_d ?_;(first|refine d_fnY (hcm _) ?_|refine d_fnY (hca _) ?_|refine d_fnY (hor _) ?_)<;>try first|omega|assumption)))
    all_goals(try(exfalso;omega))
    all_goals try
      ((refine r_es hQ ?_;try with_reducible rfl)
       have he:=fE_is hi hi2 hme (by omega)
       rw [if_pos (by rw [he];omega),he]
       done)
    all_goals(refine next_ hK (i+1) ⟨hi,up_zero hi2 (by omega)⟩ (by omega))
  · obtain rfl:i=b.ms.length:=by omega
    have hga:=hla
    have hti:=hla
    have hsl:=hla
    have hal:=hla
    have hcm:=hla
    have hz:=fE_zero.2 hi2
    rw [if_neg (by rw [hz];decide)] at hQ
    clear hK
    (have FX:=And.intro hlm (And.intro hla (And.intro hlo (And.intro hga (And.intro hti (And.intro hsl hal)))));repeat'(first|(refine sx ?_ ?_<;>intro h<;>first|(exfalso;omega)|skip)|(refine g_op ?_;refine g_call ?_;refine g_args ?_;(first|refine s_fn (hcm _) ?_|refine s_fn (hca _) ?_|refine s_fn (hor _) ?_)<;>try first|omega|assumption)|refine ny ?_|refine WA_block ?_|(refine uB25_18_6 ?_;refine⟨by kernel_rfl,?_⟩)|(refine uB25_18_17 ?_;refine⟨by kernel_rfl,?_⟩)|((first|refine grp_cons (fun _=>hcm _) ?_|refine grp_cons (fun _=>hca _) ?_|refine grp_cons (fun _=>hor _) ?_)<;>try first|omega|assumption)|(refine g_d ?_;refine d_args ?_;(first|refine d_fn (hcm _) ?_|refine d_fn (hca _) ?_|refine d_fn (hor _) ?_|refine d_fnQ (fun _=>hcm _) ?_|refine d_fnQ (fun _=>hca _) ?_|refine d_fnQ (fun _=>hor _) ?_)<;>try first|omega|assumption)|(refine g_d ?_;(first|refine d_fnY (hcm _) ?_|refine d_fnY (hca _) ?_|refine d_fnY (hor _) ?_)<;>try first|omega|assumption)))
    all_goals(try(exfalso;omega))
    all_goals try
      ((refine r_es hQ ?_;try with_reducible rfl)
       refine congrArg (V.int .i64) ?_
       rw [if_pos (by omega)]
       done)
    have ha12:b.ads.length≤12:=by omega
    rw [if_neg (by omega)] at hQ
    refine WA_while (σ:=Nat) [1,5] (fun i=>[.ptr (lend m).length 0 0,.int .i64 i]) (fun _=>lend m++[.cells .own 28 2 [[.lst (mssV b.ms),.lst (adsV b.ads)]]]) (fun i=>i≤b.ads.length∧∀ j,j<i→adErr b.ms b.ads j=0) (fun i=>b.ads.length - i) 0 ⟨Nat.zero_le _,fun j h=>absurd h (Nat.not_lt_zero _)⟩ tv_ rfl ?_
    rintro k ⟨hk1,hk2⟩ K2 hK2
    simp only [zipT]
    clear FX hca hor
    rcases Nat.lt_or_ge k b.ads.length with hk|hk
    · have hca:=fun m=>rcheckadj_c b.ms b.ads hbm hba k hk (hb.ae k hk) (hb.aa k hk) m
      have hor:=hla
      generalize hme:adErr b.ms b.ads k=me at *
      (have FX:=And.intro hlm (And.intro hla (And.intro hlo (And.intro hga (And.intro hti (And.intro hsl hal)))));repeat'(first|(refine sx ?_ ?_<;>intro h<;>first|(exfalso;omega)|skip)|(refine g_op ?_;refine g_call ?_;refine g_args ?_;(first|refine s_fn (hcm _) ?_|refine s_fn (hca _) ?_|refine s_fn (hor _) ?_)<;>try first|omega|assumption)|refine ny ?_|refine WA_block ?_|(refine uB25_18_6 ?_;refine⟨by kernel_rfl,?_⟩)|(refine uB25_18_17 ?_;refine⟨by kernel_rfl,?_⟩)|((first|refine grp_cons (fun _=>hcm _) ?_|refine grp_cons (fun _=>hca _) ?_|refine grp_cons (fun _=>hor _) ?_)<;>try first|omega|assumption)|(refine g_d ?_;refine d_args ?_;(first|refine d_fn (hcm _) ?_|refine d_fn (hca _) ?_|refine d_fn (hor _) ?_|refine d_fnQ (fun _=>hcm _) ?_|refine d_fnQ (fun _=>hca _) ?_|refine d_fnQ (fun _=>hor _) ?_)<;>try first|omega|assumption)|(refine g_d ?_;(first|refine d_fnY (hcm _) ?_|refine d_fnY (hca _) ?_|refine d_fnY (hor _) ?_)<;>try first|omega|assumption)))
      all_goals(try(exfalso;omega))
      all_goals try
        ((refine r_es hQ ?_;try with_reducible rfl)
         have he:=fE_is hk hk2 hme (by omega)
         rw [if_pos (by rw [he];omega),he]
         done)
      all_goals(refine next_ hK2 (k+1) ⟨hk,up_zero hk2 (by omega)⟩ (by omega))
    · obtain rfl:k=b.ads.length:=by omega
      have hz2:=fE_zero.2 hk2
      rw [if_neg (by rw [hz2];decide)] at hQ
      have hca:=hla
      have hor:=fun m=>rorder_c b.ms b.ads (aln_of ha12 hk2) m
      (have FX:=And.intro hlm (And.intro hla (And.intro hlo (And.intro hga (And.intro hti (And.intro hsl hal)))));repeat'(first|(refine sx ?_ ?_<;>intro h<;>first|(exfalso;omega)|skip)|(refine g_op ?_;refine g_call ?_;refine g_args ?_;(first|refine s_fn (hcm _) ?_|refine s_fn (hca _) ?_|refine s_fn (hor _) ?_)<;>try first|omega|assumption)|refine ny ?_|refine WA_block ?_|(refine uB25_18_6 ?_;refine⟨by kernel_rfl,?_⟩)|(refine uB25_18_17 ?_;refine⟨by kernel_rfl,?_⟩)|((first|refine grp_cons (fun _=>hcm _) ?_|refine grp_cons (fun _=>hca _) ?_|refine grp_cons (fun _=>hor _) ?_)<;>try first|omega|assumption)|(refine g_d ?_;refine d_args ?_;(first|refine d_fn (hcm _) ?_|refine d_fn (hca _) ?_|refine d_fn (hor _) ?_|refine d_fnQ (fun _=>hcm _) ?_|refine d_fnQ (fun _=>hca _) ?_|refine d_fnQ (fun _=>hor _) ?_)<;>try first|omega|assumption)|(refine g_d ?_;(first|refine d_fnY (hcm _) ?_|refine d_fnY (hca _) ?_|refine d_fnY (hor _) ?_)<;>try first|omega|assumption)))
      all_goals(try(exfalso;omega))
      all_goals((refine r_es hQ ?_;try with_reducible rfl))
      all_goals(refine congrArg (V.int .i64) ?_;first|(rw [if_pos (by omega)];done)|(rw [if_neg (by omega)];done))
end Go.Proofs.YtookikhphobnlaaGreatDoor
namespace Go.Proofs.YtookikhphobnlaaGreatDoor
end Go.Proofs.YtookikhphobnlaaGreatDoor
namespace Go.Proofs.YtookikhphobnlaaGreatDoor
open Go.RowKit
attribute [local irreducible] WA WOs WDs WAn qThen qBlock tput
set_option maxHeartbeats 1000000
set_option maxRecDepth 20000
set_option linter.unusedSimpArgs false
set_option linter.unusedVariables false
set_option maxHeartbeats 4000000
theorem valD_dec(u:Nat):valD 0 (Lib.decDigits u)=u:=by
  induction u using Nat.strongRecOn with
  | _ u ih=>
    rw [Lib.decDigits]
    split
    · show 10 * 0+((UInt8.ofNat (48+u)).toNat - 48)=u
      have:=u8_of (d:=48+u) (by omega)
      omega
    · rw [valD_snoc,ih (u / 10) (by omega)]
      have:=u8_of (d:=48+u % 10) (by omega)
      omega
theorem dec_len:∀ (k u:Nat),u<10 ^ (k+1)→(Lib.decDigits u).length≤k+1
  | 0,u,h=>by
    rw [Lib.decDigits,dif_pos (by simpa using h)]
    exact Nat.le_refl _
  | k +1,u,h=>by
    by_cases h9:u<10
    · rw [Lib.decDigits,dif_pos h9];simp
    · rw [Lib.decDigits,dif_neg h9,List.length_append]
      have:=dec_len k (u / 10) (by rw [Nat.pow_succ] at h;omega)
      simp only [List.length_cons,List.length_nil]
      omega
theorem dec_ne(u:Nat):Lib.decDigits u≠[]:=by
  rw [Lib.decDigits]
  split
  · simp
  · simp
theorem dec_fr(u:Nat):frP (Lib.decDigits u)=0:=by
  unfold frP
  rw [if_neg]
  intro h
  rcases hd:Lib.decDigits u with _|⟨c,r⟩
  · exact dec_ne u hd
  · rw [hd] at h
    simp at h
    have:=dec_dig u c (by rw [hd];exact List.mem_cons_self)
    subst h
    exact absurd this.1 (by decide)
theorem numP_itoa {d:Nat} (hd:d≤17) {n:Int} (h:n.natAbs<10 ^ (d+1)):numP (d+1) (Lib.itoa n)=some n:=by
  have key:nGood (d+1) (Lib.itoa n)∧nV (Lib.itoa n)=n:=by
    unfold Lib.itoa nGood nV
    split
    · have hf:frP (45::Lib.decDigits n.natAbs)=1:=rfl
      rw [hf]
      refine⟨⟨?_,?_,?_⟩,?_⟩
      · have:=dec_ne n.natAbs
        intro q
        simp at q
        exact this q
      · have:=dec_len d n.natAbs h
        simp only [List.length_cons]
        omega
      · exact dec_dig _
      · rw [if_pos rfl]
        show -((valD 0 (Lib.decDigits n.natAbs):Nat):Int)=n
        rw [valD_dec]
        omega
    · rename_i hn
      have hf:frP (Lib.decDigits n.toNat)=0:=dec_fr _
      rw [hf]
      refine⟨⟨?_,?_,?_⟩,?_⟩
      · have:=dec_ne n.toNat
        intro q
        exact this (List.length_eq_zero_iff.1 q)
      · have:=dec_len d n.toNat (by rw [show n.toNat=n.natAbs by omega];exact h)
        omega
      · exact dec_dig _
      · rw [if_neg (by decide)]
        show((valD 0 (Lib.decDigits n.toNat):Nat):Int)=n
        rw [valD_dec]
        omega
  rw [numP_good (by omega) key.1,key.2,if_pos rfl]
theorem itoa_ne{n:Int}{c:UInt8}(hc:c∈Lib.itoa n):c≠32∧c≠10:=by
  unfold Lib.itoa at hc
  have key:∀ u,c∈Lib.decDigits u→c≠32∧c≠10:=fun u h=>by
    have:=dec_dig u c h
    constructor
    · rintro rfl;exact absurd this.1 (by decide)
    · rintro rfl;exact absurd this.1 (by decide)
  split at hc
  · rcases List.mem_cons.1 hc with rfl|hc
    · decide
    · exact key _ hc
  · exact key _ hc
theorem cutP_no{c:UInt8}:∀ {s:Txt},(∀ x∈s,x≠c)→cutP c s=[s]
  |[],_=>rfl
  | b::l,h=>by
    have ih:=cutP_no (c:=c) (s:=l) fun x hx=>h x (List.mem_cons_of_mem _ hx)
    unfold cutP
    rw [if_neg (h b List.mem_cons_self),ih]
theorem cutP_app{c:UInt8}{s:Txt}:∀ {p:Txt},(∀ x∈p,x≠c)→cutP c (p++c::s)=p::cutP c s
  | [],_=>by
    rw [List.nil_append]
    conv=>lhs;unfold cutP
    rw [if_pos rfl]
  | b::l,h=>by
    have ih:=cutP_app (c:=c) (s:=s) (p:=l) fun x hx=>h x (List.mem_cons_of_mem _ hx)
    rw [List.cons_append]
    conv=>lhs;unfold cutP
    rw [if_neg (h b List.mem_cons_self),ih]
end Go.Proofs.YtookikhphobnlaaGreatDoor
