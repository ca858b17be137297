import Derived.Test.YtnablpehkeicmaaGreatGAI
import Derived.Test.YtnablpehkeicmaaGreatB2
import Derived.Test.YtnablpehkeicmaaGreatGAH
set_option linter.unusedSimpArgs false
set_option linter.unusedVariables false
/- contracts: the reference's checks of a bench -/
namespace Go.Proofs.YtnablpehkeicmaaGreat
open Go.RowKit
attribute [local irreducible] WA WOs WDs WAn qThen qBlock tput
set_option maxHeartbeats 1000000
set_option maxRecDepth 20000
set_option linter.unusedSimpArgs false
set_option linter.unusedVariables false

theorem rcheckmeasure_c(bef:List MsR)(x:MsR)(hl:bef.length≤1000)(m:Mem):Gives Tryz.prog 17 [.lst (mssV bef),.agg (msV x)] m (.int .i64 (msErr bef x)):=by
  have hln:=mssV_length (l:=bef)
  obtain⟨nm,va,lo,hg⟩:=x
  unfold msV msErr
  dsimp only
  refine Gives_in Tryz.func17 rfl Tryz.ntmps17 Tryz.results17 (by kernel_rfl) (by simp) rfl fun Q hQ=>?_
  (have FX:=hln;repeat'(first|(refine sx ?_ ?_<;>intro h<;>first|(exfalso;omega)|skip)|(refine na ?_;(first|refine nb (bisname_c _) ?_|refine nb (rmeasureat_c bef nm hl) ?_|refine nb (bwithin_c _ _ _) ?_)<;>try first|omega|assumption)|refine ny ?_|refine WA_block ?_))
  all_goals(try(exfalso;omega))
  all_goals((refine r_es hQ ?_;try with_reducible rfl))
  all_goals(refine congrArg (V.int .i64) ?_)
  all_goals first
    |(rw [if_pos (by assumption)];done)
    |(rw [if_neg (by simpa using (by assumption:nameP nm)),if_pos (by omega)];done)
    |(rw [if_neg (by simpa using (by assumption:nameP nm)),if_neg (by omega),if_pos (by omega)];done)
    |(rw [if_neg (by simpa using (by assumption:nameP nm)),if_neg (by omega),if_neg (by omega),if_pos (by omega)];done)
    |(rw [if_neg (by simpa using (by assumption:nameP nm)),if_neg (by omega),if_neg (by omega),if_neg (by omega)];done)
theorem getD_take{α:Type}{l:List α}{d:α}{i k:Nat}(h:k<i):(l.take i).getD k d=l.getD k d:=by
  rw [List.getD_eq_getElem?_getD,List.getElem?_take_of_lt h,←List.getD_eq_getElem?_getD]
theorem fdx_in{α:Type}{f:α→Bool}{l:List α}{d:α}{i:Nat}(hi:i<l.length)(h:f (l.getD i d)=true):0≤fdx f l∧fdx f l≤i:=by
  rcases fdx_cases f l d with ⟨_,h1⟩|⟨k,hk,h1,h2,h3⟩
  · rw [h1 i hi] at h;cases h
  · refine⟨by omega,?_⟩
    rcases Nat.lt_or_ge i k with q|q
    · rw [h3 i q] at h;cases h
    · omega
theorem fdx_take{α:Type}{f:α→Bool}{l:List α}{d:α}{i:Nat}(hi:i≤l.length):0≤fdx f (l.take i)↔(0≤fdx f l∧fdx f l<i):=by
  have hg:∀ j,j<i→(l.take i).getD j d=l.getD j d:=fun j hj=>by
    rw [List.getD_eq_getElem?_getD,List.getElem?_take_of_lt hj,←List.getD_eq_getElem?_getD]
  have hl:(l.take i).length=i:=by rw [List.length_take];omega
  rcases fdx_cases f (l.take i) d with ⟨h1,h2⟩|⟨k,hk,h1,h2,h3⟩
  · rw [h1]
    refine⟨fun h=>by omega,fun h=>?_⟩
    rcases fdx_cases f l d with ⟨g1,_⟩|⟨k,hk,g1,g2,_⟩
    · omega
    · have:k<i:=by omega
      have h4:=h2 k (by omega)
      rw [hg k this,g2] at h4
      cases h4
  · rw [hl] at hk
    rw [hg k hk] at h2
    have h3':∀ j,j<k→f (l.getD j d)=false:=fun j hj=>by rw [←hg j (by omega)];exact h3 j hj
    rw [fdx_at (by omega) h3' h2,h1]
    exact⟨fun _=>⟨by omega,by omega⟩,fun _=>by omega⟩
theorem uB12_38_6{N:Nat}{l:List Oper}{t:List (Nat×V)}{m:Mem}{Q:Exit→List (Nat×V)→Mem→Prop}(h:RgN Tryz.prog N l t m Q (fun i=>if i==1 || i==6 || i==7 then .q else .p) [.one 0,.one 1,.one 2,.one 3,.one 4,.one 5,.one 6,.one 7,.one 8]):WA Tryz.prog N (.region 6 l.toArray true) t m Q:=d_rgN h
theorem uB12_38_11{N:Nat}{l:List Oper}{t:List (Nat×V)}{m:Mem}{Q:Exit→List (Nat×V)→Mem→Prop}(h:RgN Tryz.prog N l t m Q (fun i=>if i==4 || i==9 || i==10 then .q else .p) [.one 0,.one 1,.one 2,.one 3,.one 4,.one 5,.one 6,.one 7,.one 8,.one 9,.one 10]):WA Tryz.prog N (.region 11 l.toArray true) t m Q:=d_rgN h
theorem rcheckeffects_c (mm:List MsR) (ads:List AdR) (l:List EfR) (hmm:mm.length≤1000) (hl0:l.length≤1000) (m:Mem):Gives Tryz.prog 38 [.agg [.lst (mssV mm),.lst (adsV ads)],.lst (efsV l)] m (.int .i64 (efErr mm l)):=by
  have hlm:=mssV_length (l:=mm)
  have hln:=efsV_length (l:=l)
  have hga:=hln
  have hgb:=hln
  have hma:=hln
  unfold efErr
  refine Gives_in Tryz.func38 rfl Tryz.ntmps38 Tryz.results38 (by kernel_rfl) (by simp) rfl fun Q hQ=>?_
  (have FX:=fx4 hlm hln hga hgb;repeat'(first|(refine sx ?_ ?_<;>intro h<;>first|(exfalso;omega)|skip)|(refine na ?_;(first|refine nb hma ?_|refine nb (bwithin_c _ _ _) ?_)<;>try first|omega|assumption)|refine ny ?_|refine WA_block ?_|(refine uB12_38_6 ?_;refine⟨by kernel_rfl,?_⟩)|(refine uB12_38_11 ?_;refine⟨by kernel_rfl,?_⟩)|(refine g_d ?_;(first|refine d_fnY (hma _) ?_|refine d_fnY (bwithin_c _ _ _ _) ?_)<;>try first|omega|assumption)))
  all_goals(try(exfalso;omega))
  all_goals try
    ((refine r_es hQ ?_;try with_reducible rfl)
     refine congrArg (V.int .i64) ?_
     rw [if_pos (by omega)]
     done)
  have hl12:l.length≤12:=by omega
  rw [if_neg (by omega)] at hQ
  refine WA_while (σ:=Nat) [1,2,5] (fun i=>[.lst (efsV l),.ptr (lend m).length 0 0,.int .i64 i]) (fun _=>lend m++[.cells .own 25 2 [[.lst (mssV mm),.lst (adsV ads)]]]) (fun i=>i≤l.length∧∀ j,j<i→efErrAt mm l j=0) (fun i=>l.length - i) 0 ⟨Nat.zero_le _,fun j h=>absurd h (Nat.not_lt_zero _)⟩ tv_ rfl ?_
  rintro i ⟨hi1,hi2⟩ K hK
  simp only [zipT]
  clear FX hga hgb hma
  rcases Nat.lt_or_ge i l.length with hi|hi
  · have hga:=efsV_get hi
    have hgb:=hln
    have hma:=fun m=>rmeasureat_c mm (l.getD i efz).meas hmm m
    have hat:efErrAt mm l i=if fdx (isM (l.getD i efz).meas) mm<0 then 6 else if 0≤fdx (isF (l.getD i efz).meas) (l.take i) then 5 else
      if ¬ (-1000≤(l.getD i efz).by_∧(l.getD i efz).by_≤1000) then 2 else if (l.getD i efz).by_=0 then 11 else 0:=rfl
    have htk:∀ k,k<i→(l.getD k efz).meas=(l.getD i efz).meas→0≤fdx (isF (l.getD i efz).meas) (l.take i):=fun k hk h=>(fdx_in (d:=efz) (i:=k) (by rw [List.length_take];omega) (by rw [getD_take hk];exact decide_eq_true h)).1
    have htn:(∀ k,k<i→(l.getD k efz).meas≠(l.getD i efz).meas)→¬ 0≤fdx (isF (l.getD i efz).meas) (l.take i):=fun h=>by
      rw [fdx_no (d:=efz) fun j hj=>?_]
      · omega
      · rw [List.length_take] at hj
        rw [getD_take (by omega)]
        exact decide_eq_false (h j (by omega))
    generalize hx:l.getD i efz=x at*
    obtain⟨nm,by_⟩:=x
    unfold efV at hga
    dsimp only at hga hat htk htn hma
    (have FX:=fx4 hlm hln hga hgb;repeat'(first|(refine sx ?_ ?_<;>intro h<;>first|(exfalso;omega)|skip)|(refine na ?_;(first|refine nb hma ?_|refine nb (bwithin_c _ _ _) ?_)<;>try first|omega|assumption)|refine ny ?_|refine WA_block ?_|(refine uB12_38_6 ?_;refine⟨by kernel_rfl,?_⟩)|(refine uB12_38_11 ?_;refine⟨by kernel_rfl,?_⟩)|(refine g_d ?_;(first|refine d_fnY (hma _) ?_|refine d_fnY (bwithin_c _ _ _ _) ?_)<;>try first|omega|assumption)))
    all_goals(try(exfalso;omega))
    all_goals try
      ((refine r_es hQ ?_;try with_reducible rfl)
       refine congrArg (V.int .i64) (fE_is hi hi2 (hat.trans ?_) (by decide)).symm
       rw [if_pos (by omega)]
       done)
    refine WA_while (σ:=Nat) [1,2,5,6] (fun k=>[.lst (efsV l),.ptr (lend m).length 0 0,.int .i64 i,.int .i64 k]) (fun _=>lend m++[.cells .own 25 2 [[.lst (mssV mm),.lst (adsV ads)]]]) (fun k=>k≤i∧∀ j,j<k→(l.getD j efz).meas≠nm) (fun k=>i - k) 0 ⟨Nat.zero_le _,fun j h=>absurd h (Nat.not_lt_zero _)⟩ tv_ rfl ?_
    rintro k ⟨hk1,hk2⟩ K2 hK2
    simp only [zipT]
    clear FX hgb
    rcases Nat.lt_or_ge k i with hk|hk
    · have hgb:=efsV_get (l:=l) (i:=k) (by omega)
      have hky:=htk k hk
      have hkn:¬ (l.getD k efz).meas=nm→∀ j,j<k+1→(l.getD j efz).meas≠nm:=fun h j hj=>by
        rcases Nat.lt_or_ge j k with q|q
        · exact hk2 j q
        · obtain rfl:j=k:=by omega
          exact h
      generalize l.getD k efz=y at*
      obtain⟨ym,yb⟩:=y
      unfold efV at hgb
      dsimp only at hgb hky hkn
      (have FX:=fx4 hlm hln hga hgb;repeat'(first|(refine sx ?_ ?_<;>intro h<;>first|(exfalso;omega)|skip)|(refine na ?_;(first|refine nb hma ?_|refine nb (bwithin_c _ _ _) ?_)<;>try first|omega|assumption)|refine ny ?_|refine WA_block ?_|(refine uB12_38_6 ?_;refine⟨by kernel_rfl,?_⟩)|(refine uB12_38_11 ?_;refine⟨by kernel_rfl,?_⟩)|(refine g_d ?_;(first|refine d_fnY (hma _) ?_|refine d_fnY (bwithin_c _ _ _ _) ?_)<;>try first|omega|assumption)))
      all_goals(try(exfalso;omega))
      all_goals try
        ((refine r_es hQ ?_;try with_reducible rfl)
         refine congrArg (V.int .i64) (fE_is hi hi2 (hat.trans ?_) (by decide)).symm
         have h5:=hky (by assumption)
         rw [if_neg (by omega),if_pos h5]
         done)
      all_goals(refine next_ hK2 (k+1) ⟨hk,hkn (by assumption)⟩ (by omega))
    · obtain rfl:k=i:=by omega
      have hgb:=hln
      have hnt:=htn hk2
      (have FX:=fx4 hlm hln hga hgb;repeat'(first|(refine sx ?_ ?_<;>intro h<;>first|(exfalso;omega)|skip)|(refine na ?_;(first|refine nb hma ?_|refine nb (bwithin_c _ _ _) ?_)<;>try first|omega|assumption)|refine ny ?_|refine WA_block ?_|(refine uB12_38_6 ?_;refine⟨by kernel_rfl,?_⟩)|(refine uB12_38_11 ?_;refine⟨by kernel_rfl,?_⟩)|(refine g_d ?_;(first|refine d_fnY (hma _) ?_|refine d_fnY (bwithin_c _ _ _ _) ?_)<;>try first|omega|assumption)))
      all_goals(try(exfalso;omega))
      all_goals try
        ((refine r_es hQ ?_;try with_reducible rfl)
         refine congrArg (V.int .i64) (fE_is hi hi2 (hat.trans ?_) (by decide)).symm
         first|(rw [if_neg (by omega),if_neg (by omega),if_pos (by omega)];done)|(rw [if_neg (by omega),if_neg (by omega),if_neg (by omega),if_pos (by omega)];done))
      all_goals(refine next_ hK (k+1) ⟨by omega,up_zero hi2 (hat.trans (by rw [if_neg (by omega),if_neg (by omega),if_neg (by omega),if_neg (by omega)]))⟩ (by omega))
  · obtain rfl:i=l.length:=by omega
    have hga:=hln
    have hgb:=hln
    have hma:=hln
    (have FX:=fx4 hlm hln hga hgb;repeat'(first|(refine sx ?_ ?_<;>intro h<;>first|(exfalso;omega)|skip)|(refine na ?_;(first|refine nb hma ?_|refine nb (bwithin_c _ _ _) ?_)<;>try first|omega|assumption)|refine ny ?_|refine WA_block ?_|(refine uB12_38_6 ?_;refine⟨by kernel_rfl,?_⟩)|(refine uB12_38_11 ?_;refine⟨by kernel_rfl,?_⟩)|(refine g_d ?_;(first|refine d_fnY (hma _) ?_|refine d_fnY (bwithin_c _ _ _ _) ?_)<;>try first|omega|assumption)))
    all_goals(try(exfalso;omega))
    all_goals((refine r_es hQ ?_;try with_reducible rfl))
    all_goals(exact congrArg (V.int .i64) (fE_zero.2 hi2).symm)
end Go.Proofs.YtnablpehkeicmaaGreat
namespace Go.Proofs.YtnablpehkeicmaaGreat
open Go.RowKit
attribute [local irreducible] WA WOs WDs WAn qThen qBlock tput
set_option maxHeartbeats 1000000
set_option maxRecDepth 20000
set_option linter.unusedSimpArgs false
set_option linter.unusedVariables false
set_option maxHeartbeats 4000000
theorem uB22_18_16{N:Nat}{l:List Oper}{t:List (Nat×V)}{m:Mem}{Q:Exit→List (Nat×V)→Mem→Prop}(h:RgN Tryz.prog N l t m Q (fun i=>if i==1 || i==3 || i==6 || i==7 then .q else .p) [.one 0,.one 1,.one 2,.one 3,.one 4,.one 5,.one 6,.one 7,.one 8]):WA Tryz.prog N (.region 16 l.toArray true) t m Q:=d_rgN h
theorem uB22_18_18{N:Nat}{l:List Oper}{t:List (Nat×V)}{m:Mem}{Q:Exit→List (Nat×V)→Mem→Prop}(h:RgN Tryz.prog N l t m Q (fun i=>if i==1 || i==5 || i==8 || i==9 then .q else .p) [.one 0,.one 1,.one 2,.one 3,.one 4,.one 5,.one 6,.one 7,.one 8,.one 9]):WA Tryz.prog N (.region 18 l.toArray true) t m Q:=d_rgN h
theorem rcheckadj_c(mm:List MsR)(ads:List AdR)(hb1:mm.length≤1000)(hb2:ads.length≤1000)(i:Nat)(hi:i<ads.length)(he:(ads.getD i adz).effs.length≤1000)(haf:(ads.getD i adz).after.length≤1000)(m:Mem):Gives Tryz.prog 18 [.agg [.lst (mssV mm),.lst (adsV ads)],.int .i64 i] m (.int .i64 (adErr mm ads i)):=by
  have hla:=adsV_length (l:=ads)
  have hgk:=adsV_get hi
  have hef:=fun m=>rcheckeffects_c mm ads (ads.getD i adz).effs hb1 he m
  have hfi:fdx (isA (ads.getD i adz).name) ads<i↔0≤fdx (isA (ads.getD i adz).name) (ads.take i):=by
    have h1:=(fdx_in (f:=isA (ads.getD i adz).name) (d:=adz) hi (decide_eq_true rfl)).1
    rw [fdx_take (d:=adz) (by omega)]
    omega
  have hlf:=tsV_length (l:=(ads.getD i adz).after)
  have hga:=hla
  have hti:=hla
  have hsl:=hla
  have hal:=hla
  have hht:=hla
  unfold adErr
  generalize ads.getD i adz=x at*
  obtain⟨nm,ef,le,mo,pa,af⟩:=x
  unfold adV at hgk
  dsimp only at hgk hef hfi hlf he haf ⊢
  generalize efErr mm ef=ee at*
  generalize fdx (isA nm) (ads.take i)=ft at*
  refine Gives_in Tryz.func18 rfl Tryz.ntmps18 Tryz.results18 (by kernel_rfl) (by simp) rfl fun Q hQ=>?_
  (have FX:=fx7 hla hlf hgk hga hti hsl hal;repeat'(first|(refine sx ?_ ?_<;>intro h<;>first|(exfalso;omega)|skip)|(refine na ?_;(first|refine nb (bisname_c _) ?_|refine nb (radjustmentat_c ads _ hb2) ?_|refine nb hef ?_|refine nb (bwithin_c _ _ _) ?_|refine nb hht ?_)<;>try first|omega|assumption)|refine ny ?_|refine WA_block ?_|(refine uB22_18_16 ?_;refine⟨by kernel_rfl,?_⟩)|(refine uB22_18_18 ?_;refine⟨by kernel_rfl,?_⟩)|(refine g_d ?_;(first|refine d_fnY (bisname_c _ _) ?_|refine d_fnY (radjustmentat_c ads _ hb2 _) ?_|refine d_fnY (hef _) ?_|refine d_fnY (bwithin_c _ _ _ _) ?_|refine d_fnY (hht _) ?_)<;>try first|omega|assumption)))
  all_goals(try(exfalso;omega))
  all_goals try
    ((refine r_es hQ ?_;try with_reducible rfl)
     refine congrArg (V.int .i64) ?_
     first
       |(rw [if_pos (by assumption)];done)
       |(rw [if_neg (by simpa using (by assumption:nameP nm)),if_pos (by omega)];done)
       |(rw [if_neg (by simpa using (by assumption:nameP nm)),if_neg (by omega),if_pos (by omega)];done)
       |(rw [if_neg (by simpa using (by assumption:nameP nm)),if_neg (by omega),if_neg (by omega),if_pos (by omega)];done)
       |(rw [if_neg (by simpa using (by assumption:nameP nm)),if_neg (by omega),if_neg (by omega),if_neg (by omega)];unfold afErr;rw [if_pos (by omega)];done))
  have hl12:af.length≤12:=by omega
  rw [if_neg (by simpa using (by assumption:nameP nm)),if_neg (by omega),if_neg (by omega),if_neg (by omega)] at hQ
  unfold afErr at hQ
  rw [if_neg (by omega)] at hQ
  refine WA_while (σ:=Nat) [2,5,7] (fun k=>[.ptr (lend m).length 0 0,.ptr ((lend m).length+1) 0 0,.int .i64 k]) (fun _=>lend m++[.cells .own 25 2 [[.lst (mssV mm),.lst (adsV ads)]],.cells .own 54 6 [[.str nm,.lst (efsV ef),.int .i64 le,.int .i64 mo,.int .i64 pa,.lst (tsV af)]]]) (fun k=>k≤af.length∧∀ j,j<k→afErrAt ads af j=0) (fun k=>af.length - k) 0 ⟨Nat.zero_le _,fun j h=>absurd h (Nat.not_lt_zero _)⟩ tv_ rfl ?_
  rintro k ⟨hk1,hk2⟩ K hK
  simp only [zipT]
  clear FX hgk hga hti hsl hal hht hef hfi
  have hgk:=hla
  have hef:=hla
  rcases Nat.lt_or_ge k af.length with hk|hk
  · have hga:=tsV_get hk
    have hti:((k:Int) - ((0:Nat):Int)).toNat=k:=by omega
    have hsl:=tsV_take af k
    have hal:=fun n h=>tsV_all (l:=af) (n:=n) h
    have hht:=fun m=>bhastext_c (af.take k) (af.getD k []) (by rw [List.length_take];omega) m
    have hat:afErrAt ads af k=if fdx (isA (af.getD k [])) ads<0 then 6 else if 0≤fdx (isT (af.getD k [])) (af.take k) then 5 else 0:=rfl
    generalize af.getD k []=s at*
    (have FX:=fx7 hla hlf hgk hga hti hsl hal;repeat'(first|(refine sx ?_ ?_<;>intro h<;>first|(exfalso;omega)|skip)|(refine na ?_;(first|refine nb (bisname_c _) ?_|refine nb (radjustmentat_c ads _ hb2) ?_|refine nb hef ?_|refine nb (bwithin_c _ _ _) ?_|refine nb hht ?_)<;>try first|omega|assumption)|refine ny ?_|refine WA_block ?_|(refine uB22_18_16 ?_;refine⟨by kernel_rfl,?_⟩)|(refine uB22_18_18 ?_;refine⟨by kernel_rfl,?_⟩)|(refine g_d ?_;(first|refine d_fnY (bisname_c _ _) ?_|refine d_fnY (radjustmentat_c ads _ hb2 _) ?_|refine d_fnY (hef _) ?_|refine d_fnY (bwithin_c _ _ _ _) ?_|refine d_fnY (hht _) ?_)<;>try first|omega|assumption)))
    all_goals(try(exfalso;omega))
    all_goals try
      ((refine r_es hQ ?_;try with_reducible rfl)
       refine congrArg (V.int .i64) (fE_is hk hk2 (hat.trans ?_) (by decide)).symm
       first|(rw [if_pos (by omega)];done)|(rw [if_neg (by omega),if_pos (by assumption)];done))
    all_goals(refine next_ hK (k+1) ⟨hk,up_zero hk2 (hat.trans (by rw [if_neg (by omega),if_neg (by assumption)]))⟩ (by omega))
  · obtain rfl:k=af.length:=by omega
    have hga:=hla
    have hti:=hla
    have hsl:=hla
    have hal:=hla
    have hht:=hla
    (have FX:=fx7 hla hlf hgk hga hti hsl hal;repeat'(first|(refine sx ?_ ?_<;>intro h<;>first|(exfalso;omega)|skip)|(refine na ?_;(first|refine nb (bisname_c _) ?_|refine nb (radjustmentat_c ads _ hb2) ?_|refine nb hef ?_|refine nb (bwithin_c _ _ _) ?_|refine nb hht ?_)<;>try first|omega|assumption)|refine ny ?_|refine WA_block ?_|(refine uB22_18_16 ?_;refine⟨by kernel_rfl,?_⟩)|(refine uB22_18_18 ?_;refine⟨by kernel_rfl,?_⟩)|(refine g_d ?_;(first|refine d_fnY (bisname_c _ _) ?_|refine d_fnY (radjustmentat_c ads _ hb2 _) ?_|refine d_fnY (hef _) ?_|refine d_fnY (bwithin_c _ _ _ _) ?_|refine d_fnY (hht _) ?_)<;>try first|omega|assumption)))
    all_goals(try(exfalso;omega))
    all_goals((refine r_es hQ ?_;try with_reducible rfl))
    all_goals(exact congrArg (V.int .i64) (fE_zero.2 hk2).symm)
/-- what is known of adjustments that are right -/
structure Aln(ads:List AdR):Prop where
  fa:ads.length≤12
  nw:∀ i,i<ads.length→¬ 0≤fdx (isA (ads.getD i adz).name) (ads.take i)
  af:∀ i,i<ads.length→(ads.getD i adz).after.length≤12∧∀ k,k<(ads.getD i adz).after.length→0≤fdx (isA ((ads.getD i adz).after.getD k [])) ads
theorem aln_of{mm:List MsR}{ads:List AdR}(h0:ads.length≤12)(h:∀ i,i<ads.length→adErr mm ads i=0):Aln ads where
  fa:=h0
  nw:=fun i hi=>(ad_ok (h i hi)).nw
  af:=fun i hi=>by
    have h1:=(ad_ok (h i hi)).af
    unfold afErr at h1
    split at h1
    · simp at h1
    · refine⟨by omega,fun k hk=>?_⟩
      have h2:=fE_zero.1 h1 k hk
      unfold afErrAt at h2
      split at h2
      · simp at h2
      · omega
theorem fdx_name{ads:List AdR}(h:Aln ads){i:Nat}(hi:i<ads.length):fdx (isA (ads.getD i adz).name) ads=i:=by
  refine fdx_at hi (fun j hj=>?_) (decide_eq_true rfl)
  cases hc:isA (ads.getD i adz).name (ads.getD j adz) with
  |false=>rfl
  | true=>
    have h1:=(fdx_in (f:=isA (ads.getD i adz).name) (l:=ads.take i) (d:=adz) (i:=j) (by rw [List.length_take];omega) (by rw [getD_take hj];exact hc)).1
    exact absurd h1 (h.nw i hi)
/-- a name is among those of some just if its adjustment is among them -/
theorem hasT_iff{ads:List AdR}(h:Aln ads){out:List Nat}(ho:∀ x∈out,x<ads.length){s:Txt}{i:Nat}(hs:fdx (isA s) ads=(i:Int)):hasT (outN ads out) s=decide (i∈out):=by
  rcases fdx_cases (isA s) ads adz with ⟨h1,_⟩|⟨k,hk,h1,h2,_⟩
  · omega
  · obtain rfl:k=i:=by omega
    have hn:(ads.getD k adz).name=s:=of_decide_eq_true h2
    by_cases hm:k∈out
    · rw [decide_eq_true hm]
      unfold hasT outN
      rw [List.any_eq_true]
      exact⟨_,List.mem_map.2 ⟨k,hm,rfl⟩,decide_eq_true hn⟩
    · rw [decide_eq_false hm]
      unfold hasT outN
      rw [List.any_eq_false]
      intro t ht
      obtain⟨x,hx,rfl⟩:=List.mem_map.1 ht
      intro hc
      have hc:(ads.getD x adz).name=s:=of_decide_eq_true hc
      have h3:=fdx_name h (ho x hx)
      rw [hc] at h3
      have:x=k:=by omega
      exact hm (this ▸ hx)
/-- .. as the reference asks it -/
def rdyI(ads:List AdR)(out:List Nat)(i:Nat):Bool:=!decide (i∈out) && (List.range (ads.getD i adz).after.length).all fun k=>decide ((fdx (isA ((ads.getD i adz).after.getD k [])) ads).toNat∈out)
theorem rdyI_eq{ads:List AdR}(h:Aln ads){out:List Nat}(ho:∀ x∈out,x<ads.length){i:Nat}(hi:i<ads.length):rdyA (outN ads out) (ads.getD i adz)=rdyI ads out i:=by
  unfold rdyA rdyI
  rw [hasT_iff h ho (fdx_name h hi)]
  congr 1
  have key:∀ k,k<(ads.getD i adz).after.length→hasT (outN ads out) ((ads.getD i adz).after.getD k [])=decide ((fdx (isA ((ads.getD i adz).after.getD k [])) ads).toNat∈out):=fun k hk=>by
    have:=(h.af i hi).2 k hk
    exact hasT_iff h ho (by omega)
  generalize (ads.getD i adz).after=L at*
  rw [Bool.eq_iff_iff,List.all_eq_true,List.all_eq_true]
  constructor
  · intro h1 k hk
    rw [←key k (List.mem_range.1 hk)]
    exact h1 _ (by rw [List.getD_eq_getElem?_getD,List.getElem?_eq_getElem (List.mem_range.1 hk)];exact List.getElem_mem _)
  · intro h1 s hs
    obtain⟨k,hk,rfl⟩:=List.getElem_of_mem hs
    have h2:=key k hk
    rw [List.getD_eq_getElem?_getD,List.getElem?_eq_getElem hk] at h2
    have h3:=h1 k (List.mem_range.2 hk)
    rw [List.getD_eq_getElem?_getD,List.getElem?_eq_getElem hk] at h3
    exact h2.trans h3

theorem bhas_nil(n:Int)(m:Mem):Gives Tryz.prog 40 [.nilsl,.int .i64 n] m (.bool false):=by
  have FX:=n
  refine Gives_in Tryz.func40 rfl Tryz.ntmps40 Tryz.results40 (by kernel_rfl) (by simp) rfl fun Q hQ=>?_
  (repeat'(first|(refine sx ?_ ?_<;>intro h<;>first|(exfalso;omega)|skip)|refine ny ?_|refine WA_block ?_))
  refine WA_rounds 1 ?_
  (repeat'(first|(refine sx ?_ ?_<;>intro h<;>first|(exfalso;omega)|skip)|refine ny ?_|refine WA_block ?_))
  all_goals(try(exfalso;omega))
  all_goals((refine r_es hQ ?_;try with_reducible rfl))
theorem fz_nuV{k:Nat}{l:List Nat}:frzV k (nuV l) (.sl k l.length)= .lst (nuV l):=by
  unfold frzV
  simp only []
  rw [if_pos ⟨trivial,by rw [nuV_length];exact Nat.le_refl _⟩,List.take_of_length_le (by rw [nuV_length];exact Nat.le_refl _)]
theorem bhas_s(l:List Nat)(n:Nat)(hl:l.length≤1000)(q:Nat)(hq:q=l.length)(m:Mem)(k:Nat){st:Sta}(hk:m[k]?=some (.cells st 3 1 (nuV l)):=by first|exact ev_|fail):Gives Tryz.prog 40 [.sl k q,.int .i64 n] m (.bool (decide (n∈l))):=by
  subst hq
  refine Gives_fz hk (by simp [V.flat]) ?_
  show Gives _ _ [frzV k (nuV l) (.sl k l.length),.int .i64 n] _ _
  rw [fz_nuV]
  exact bhas_c l n hl _
end Go.Proofs.YtnablpehkeicmaaGreat
