import Derived.Test.YtookikhphobnlaaGreatDoorGAJ
import Derived.Test.YtookikhphobnlaaGreatDoorB2
set_option linter.unusedSimpArgs false
set_option linter.unusedVariables false
/- contracts: the reference's checks of a bench -/
namespace Go.Proofs.YtookikhphobnlaaGreatDoor
open Go.RowKit
attribute [local irreducible] WA WOs WDs WAn qThen qBlock tput
set_option maxHeartbeats 1000000
set_option maxRecDepth 20000
set_option linter.unusedSimpArgs false
set_option linter.unusedVariables false

theorem rcheckmeasure_c(bef:List MsR)(x:MsR)(hl:bef.length≤1000)(m:Mem):Gives Tryz.prog 45 [.lst (mssV bef),.agg (msV x)] m (.int .i64 (msErr bef x)):=by
  have hln:=mssV_length (l:=bef)
  obtain⟨nm,va,lo,hg⟩:=x
  unfold msV msErr
  dsimp only
  refine Gives_in Tryz.func45 rfl Tryz.ntmps45 Tryz.results45 (by kernel_rfl) (by simp) rfl fun Q hQ=>?_
  (have FX:=hln;repeat'(first|(refine sx ?_ ?_<;>intro h<;>first|(exfalso;omega)|skip)|(refine g_op ?_;refine g_call ?_;refine g_args ?_;(first|refine s_fn (bisname_c _ _) ?_|refine s_fn (rmeasureat_c bef nm hl _) ?_|refine s_fn (bwithin_c _ _ _ _) ?_)<;>try first|omega|assumption)|refine ny ?_|refine WA_block ?_))
  all_goals(try(exfalso;omega))
  all_goals((refine r_es hQ ?_;try with_reducible rfl))
  all_goals(refine congrArg (V.int .i64) ?_)
  all_goals first
    |(rw [if_pos (by assumption)];done)
    |(rw [if_neg (by simpa using (by assumption:nameP nm)),if_pos (by omega)];done)
    |(rw [if_neg (by simpa using (by assumption:nameP nm)),if_neg (by omega),if_pos (by omega)];done)
    |(rw [if_neg (by simpa using (by assumption:nameP nm)),if_neg (by omega),if_neg (by omega),if_pos (by omega)];done)
    |(rw [if_neg (by simpa using (by assumption:nameP nm)),if_neg (by omega),if_neg (by omega),if_neg (by omega)];done)
theorem getD_take{α:Type}{l:List α}{d:α}{i k:Nat}(h:k<i):(l.take i).getD k d=l.getD k d:=by
  rw [List.getD_eq_getElem?_getD,List.getElem?_take_of_lt h,←List.getD_eq_getElem?_getD]
theorem fdx_in{α:Type}{f:α→Bool}{l:List α}{d:α}{i:Nat}(hi:i<l.length)(h:f (l.getD i d)=true):0≤fdx f l∧fdx f l≤i:=by
  rcases fdx_cases f l d with ⟨_,h1⟩|⟨k,hk,h1,h2,h3⟩
  · rw [h1 i hi] at h;cases h
  · refine⟨by omega,?_⟩
    rcases Nat.lt_or_ge i k with q|q
    · rw [h3 i q] at h;cases h
    · omega
theorem fdx_take{α:Type}{f:α→Bool}{l:List α}{d:α}{i:Nat}(hi:i≤l.length):0≤fdx f (l.take i)↔(0≤fdx f l∧fdx f l<i):=by
  have hg:∀ j,j<i→(l.take i).getD j d=l.getD j d:=fun j hj=>by
    rw [List.getD_eq_getElem?_getD,List.getElem?_take_of_lt hj,←List.getD_eq_getElem?_getD]
  have hl:(l.take i).length=i:=by rw [List.length_take];omega
  rcases fdx_cases f (l.take i) d with ⟨h1,h2⟩|⟨k,hk,h1,h2,h3⟩
  · rw [h1]
    refine⟨fun h=>by omega,fun h=>?_⟩
    rcases fdx_cases f l d with ⟨g1,_⟩|⟨k,hk,g1,g2,_⟩
    · omega
    · have:k<i:=by omega
      have h4:=h2 k (by omega)
      rw [hg k this,g2] at h4
      cases h4
  · rw [hl] at hk
    rw [hg k hk] at h2
    have h3':∀ j,j<k→f (l.getD j d)=false:=fun j hj=>by rw [←hg j (by omega)];exact h3 j hj
    rw [fdx_at (by omega) h3' h2,h1]
    exact⟨fun _=>⟨by omega,by omega⟩,fun _=>by omega⟩
theorem uB12_82_6{N:Nat}{l:List Oper}{t:List (Nat×V)}{m:Mem}{Q:Exit→List (Nat×V)→Mem→Prop}(h:RgN Tryz.prog N l t m Q (fun i=>if i==1 || i==6 || i==7 then .q else .p) [.one 0,.one 1,.one 2,.one 3,.one 4,.one 5,.one 6,.one 7,.one 8]):WA Tryz.prog N (.region 6 l.toArray true) t m Q:=d_rgN h
theorem uB12_82_11{N:Nat}{l:List Oper}{t:List (Nat×V)}{m:Mem}{Q:Exit→List (Nat×V)→Mem→Prop}(h:RgN Tryz.prog N l t m Q (fun i=>if i==4 || i==9 || i==10 then .q else .p) [.one 0,.one 1,.one 2,.one 3,.one 4,.one 5,.one 6,.one 7,.one 8,.one 9,.one 10]):WA Tryz.prog N (.region 11 l.toArray true) t m Q:=d_rgN h
theorem rcheckeffects_c (mm:List MsR) (ads:List AdR) (l:List EfR) (hmm:mm.length≤1000) (hl0:l.length≤1000) (m:Mem):Gives Tryz.prog 82 [.agg [.lst (mssV mm),.lst (adsV ads)],.lst (efsV l)] m (.int .i64 (efErr mm l)):=by
  have hlm:=mssV_length (l:=mm)
  have hln:=efsV_length (l:=l)
  have hga:=hln
  have hgb:=hln
  have hma:=hln
  unfold efErr
  refine Gives_in Tryz.func82 rfl Tryz.ntmps82 Tryz.results82 (by kernel_rfl) (by simp) rfl fun Q hQ=>?_
  (have FX:=And.intro hlm (And.intro hln (And.intro hga hgb));repeat'(first|(refine sx ?_ ?_<;>intro h<;>first|(exfalso;omega)|skip)|(refine g_op ?_;refine g_call ?_;refine g_args ?_;(first|refine s_fn (hma _) ?_|refine s_fn (bwithin_c _ _ _ _) ?_)<;>try first|omega|assumption)|refine ny ?_|refine WA_block ?_|(refine uB12_82_6 ?_;refine⟨by kernel_rfl,?_⟩)|(refine uB12_82_11 ?_;refine⟨by kernel_rfl,?_⟩)|((first|refine grp_cons (fun _=>hma _) ?_|refine grp_cons (fun _=>bwithin_c _ _ _ _) ?_)<;>try first|omega|assumption)|(refine g_d ?_;refine d_args ?_;(first|refine d_fn (hma _) ?_|refine d_fn (bwithin_c _ _ _ _) ?_|refine d_fnQ (fun _=>hma _) ?_|refine d_fnQ (fun _=>bwithin_c _ _ _ _) ?_)<;>try first|omega|assumption)|(refine g_d ?_;(first|refine d_fnY (hma _) ?_|refine d_fnY (bwithin_c _ _ _ _) ?_)<;>try first|omega|assumption)))
  all_goals(try(exfalso;omega))
  all_goals try
    ((refine r_es hQ ?_;try with_reducible rfl)
     refine congrArg (V.int .i64) ?_
     rw [if_pos (by omega)]
     done)
  have hl12:l.length≤12:=by omega
  rw [if_neg (by omega)] at hQ
  refine WA_while (σ:=Nat) [1,2,5] (fun i=>[.lst (efsV l),.ptr (lend m).length 0 0,.int .i64 i]) (fun _=>lend m++[.cells .own 28 2 [[.lst (mssV mm),.lst (adsV ads)]]]) (fun i=>i≤l.length∧∀ j,j<i→efErrAt mm l j=0) (fun i=>l.length - i) 0 ⟨Nat.zero_le _,fun j h=>absurd h (Nat.not_lt_zero _)⟩ tv_ rfl ?_
  rintro i ⟨hi1,hi2⟩ K hK
  simp only [zipT]
  clear FX hga hgb hma
  rcases Nat.lt_or_ge i l.length with hi|hi
  · have hga:=efsV_get hi
    have hgb:=hln
    have hma:=fun m=>rmeasureat_c mm (l.getD i efz).meas hmm m
    have hat:efErrAt mm l i=if fdx (isM (l.getD i efz).meas) mm<0 then 6 else if 0≤fdx (isF (l.getD i efz).meas) (l.take i) then 5 else
      if ¬ (-1000≤(l.getD i efz).by_∧(l.getD i efz).by_≤1000) then 2 else if (l.getD i efz).by_=0 then 11 else 0:=rfl
    have htk:∀ k,k<i→(l.getD k efz).meas=(l.getD i efz).meas→0≤fdx (isF (l.getD i efz).meas) (l.take i):=fun k hk h=>(fdx_in (d:=efz) (i:=k) (by rw [List.length_take];omega) (by rw [getD_take hk];exact decide_eq_true h)).1
    have htn:(∀ k,k<i→(l.getD k efz).meas≠(l.getD i efz).meas)→¬ 0≤fdx (isF (l.getD i efz).meas) (l.take i):=fun h=>by
      rw [fdx_no (d:=efz) fun j hj=>?_]
      · omega
      · rw [List.length_take] at hj
        rw [getD_take (by omega)]
        exact decide_eq_false (h j (by omega))
    generalize hx:l.getD i efz=x at *
    obtain⟨nm,by_⟩:=x
    unfold efV at hga
    dsimp only at hga hat htk htn hma
    (have FX:=And.intro hlm (And.intro hln (And.intro hga hgb));repeat'(first|(refine sx ?_ ?_<;>intro h<;>first|(exfalso;omega)|skip)|(refine g_op ?_;refine g_call ?_;refine g_args ?_;(first|refine s_fn (hma _) ?_|refine s_fn (bwithin_c _ _ _ _) ?_)<;>try first|omega|assumption)|refine ny ?_|refine WA_block ?_|(refine uB12_82_6 ?_;refine⟨by kernel_rfl,?_⟩)|(refine uB12_82_11 ?_;refine⟨by kernel_rfl,?_⟩)|((first|refine grp_cons (fun _=>hma _) ?_|refine grp_cons (fun _=>bwithin_c _ _ _ _) ?_)<;>try first|omega|assumption)|(refine g_d ?_;refine d_args ?_;(first|refine d_fn (hma _) ?_|refine d_fn (bwithin_c _ _ _ _) ?_|refine d_fnQ (fun _=>hma _) ?_|refine d_fnQ (fun _=>bwithin_c _ _ _ _) ?_)<;>try first|omega|assumption)|(refine g_d ?_;(first|refine d_fnY (hma _) ?_|refine d_fnY (bwithin_c _ _ _ _) ?_)<;>try first|omega|assumption)))
    all_goals(try(exfalso;omega))
    all_goals try
      ((refine r_es hQ ?_;try with_reducible rfl)
       refine congrArg (V.int .i64) (fE_is hi hi2 (hat.trans ?_) (by decide)).symm
       rw [if_pos (by omega)]
       done)
    refine WA_while (σ:=Nat) [1,2,5,6] (fun k=>[.lst (efsV l),.ptr (lend m).length 0 0,.int .i64 i,.int .i64 k]) (fun _=>lend m++[.cells .own 28 2 [[.lst (mssV mm),.lst (adsV ads)]]]) (fun k=>k≤i∧∀ j,j<k→(l.getD j efz).meas≠nm) (fun k=>i - k) 0 ⟨Nat.zero_le _,fun j h=>absurd h (Nat.not_lt_zero _)⟩ tv_ rfl ?_
    rintro k ⟨hk1,hk2⟩ K2 hK2
    simp only [zipT]
    clear FX hgb
    rcases Nat.lt_or_ge k i with hk|hk
    · have hgb:=efsV_get (l:=l) (i:=k) (by omega)
      have hky:=htk k hk
      have hkn:¬ (l.getD k efz).meas=nm→∀ j,j<k+1→(l.getD j efz).meas≠nm:=fun h j hj=>by
        rcases Nat.lt_or_ge j k with q|q
        · exact hk2 j q
        · obtain rfl:j=k:=by omega
          exact h
      generalize l.getD k efz=y at *
      obtain⟨ym,yb⟩:=y
      unfold efV at hgb
      dsimp only at hgb hky hkn
      (have FX:=And.intro hlm (And.intro hln (And.intro hga hgb));repeat'(first|(refine sx ?_ ?_<;>intro h<;>first|(exfalso;omega)|skip)|(refine g_op ?_;refine g_call ?_;refine g_args ?_;(first|refine s_fn (hma _) ?_|refine s_fn (bwithin_c _ _ _ _) ?_)<;>try first|omega|assumption)|refine ny ?_|refine WA_block ?_|(refine uB12_82_6 ?_;refine⟨by kernel_rfl,?_⟩)|(refine uB12_82_11 ?_;refine⟨by kernel_rfl,?_⟩)|((first|refine grp_cons (fun _=>hma _) ?_|refine grp_cons (fun _=>bwithin_c _ _ _ _) ?_)<;>try first|omega|assumption)|(refine g_d ?_;refine d_args ?_;(first|refine d_fn (hma _) ?_|refine d_fn (bwithin_c _ _ _ _) ?_|refine d_fnQ (fun _=>hma _) ?_|refine d_fnQ (fun _=>bwithin_c _ _ _ _) ?_)<;>try first|omega|assumption)|(refine g_d ?_;(first|refine d_fnY (hma _) ?_|refine d_fnY (bwithin_c _ _ _ _) ?_)<;>try first|omega|assumption)))
      all_goals(try(exfalso;omega))
      all_goals try
        ((refine r_es hQ ?_;try with_reducible rfl)
         refine congrArg (V.int .i64) (fE_is hi hi2 (hat.trans ?_) (by decide)).symm
         have h5:=hky (by assumption)
         rw [if_neg (by omega),if_pos h5]
         done)
      all_goals(refine next_ hK2 (k+1) ⟨hk,hkn (by assumption)⟩ (by omega))
    · obtain rfl:k=i:=by omega
      have hgb:=hln
      have hnt:=htn hk2
      (have FX:=And.intro hlm (And.intro hln (And.intro hga hgb));repeat'(first|(refine sx ?_ ?_<;>intro h<;>first|(exfalso;omega)|skip)|(refine g_op ?_;refine g_call ?_;refine g_args ?_;(first|refine s_fn (hma _) ?_|refine s_fn (bwithin_c _ _ _ _) ?_)<;>try first|omega|assumption)|refine ny ?_|refine WA_block ?_|(refine uB12_82_6 ?_;refine⟨by kernel_rfl,?_⟩)|(refine uB12_82_11 ?_;refine⟨by kernel_rfl,?_⟩)|((first|refine grp_cons (fun _=>hma _) ?_|refine grp_cons (fun _=>bwithin_c _ _ _ _) ?_)<;>try first|omega|assumption)|(refine g_d ?_;refine d_args ?_;(first|refine d_fn (hma _) ?_|refine d_fn (bwithin_c _ _ _ _) ?_|refine d_fnQ (fun _=>hma _) ?_|refine d_fnQ (fun _=>bwithin_c _ _ _ _) ?_)<;>try first|omega|assumption)|(refine g_d ?_;(first|refine d_fnY (hma _) ?_|refine d_fnY (bwithin_c _ _ _ _) ?_)<;>try first|omega|assumption)))
      all_goals(try(exfalso;omega))
      all_goals try
        ((refine r_es hQ ?_;try with_reducible rfl)
         refine congrArg (V.int .i64) (fE_is hi hi2 (hat.trans ?_) (by decide)).symm
         first|(rw [if_neg (by omega),if_neg (by omega),if_pos (by omega)];done)|(rw [if_neg (by omega),if_neg (by omega),if_neg (by omega),if_pos (by omega)];done))
      all_goals(refine next_ hK (k+1) ⟨by omega,up_zero hi2 (hat.trans (by rw [if_neg (by omega),if_neg (by omega),if_neg (by omega),if_neg (by omega)]))⟩ (by omega))
  · obtain rfl:i=l.length:=by omega
    have hga:=hln
    have hgb:=hln
    have hma:=hln
    (have FX:=And.intro hlm (And.intro hln (And.intro hga hgb));repeat'(first|(refine sx ?_ ?_<;>intro h<;>first|(exfalso;omega)|skip)|(refine g_op ?_;refine g_call ?_;refine g_args ?_;(first|refine s_fn (hma _) ?_|refine s_fn (bwithin_c _ _ _ _) ?_)<;>try first|omega|assumption)|refine ny ?_|refine WA_block ?_|(refine uB12_82_6 ?_;refine⟨by kernel_rfl,?_⟩)|(refine uB12_82_11 ?_;refine⟨by kernel_rfl,?_⟩)|((first|refine grp_cons (fun _=>hma _) ?_|refine grp_cons (fun _=>bwithin_c _ _ _ _) ?_)<;>try first|omega|assumption)|(refine g_d ?_;refine d_args ?_;(first|refine d_fn (hma _) ?_|refine d_fn (bwithin_c _ _ _ _) ?_|refine d_fnQ (fun _=>hma _) ?_|refine d_fnQ (fun _=>bwithin_c _ _ _ _) ?_)<;>try first|omega|assumption)|(refine g_d ?_;(first|refine d_fnY (hma _) ?_|refine d_fnY (bwithin_c _ _ _ _) ?_)<;>try first|omega|assumption)))
    all_goals(try(exfalso;omega))
    all_goals((refine r_es hQ ?_;try with_reducible rfl))
    all_goals(exact congrArg (V.int .i64) (fE_zero.2 hi2).symm)
end Go.Proofs.YtookikhphobnlaaGreatDoor
namespace Go.Proofs.YtookikhphobnlaaGreatDoor
open Go.RowKit
attribute [local irreducible] WA WOs WDs WAn qThen qBlock tput
set_option maxHeartbeats 1000000
set_option maxRecDepth 20000
set_option linter.unusedSimpArgs false
set_option linter.unusedVariables false
set_option maxHeartbeats 4000000
theorem uB22_46_16{N:Nat}{l:List Oper}{t:List (Nat×V)}{m:Mem}{Q:Exit→List (Nat×V)→Mem→Prop}(h:RgN Tryz.prog N l t m Q (fun i=>if i==1 || i==3 || i==6 || i==7 then .q else .p) [.one 0,.one 1,.one 2,.one 3,.one 4,.one 5,.one 6,.one 7,.one 8]):WA Tryz.prog N (.region 16 l.toArray true) t m Q:=d_rgN h
theorem uB22_46_18{N:Nat}{l:List Oper}{t:List (Nat×V)}{m:Mem}{Q:Exit→List (Nat×V)→Mem→Prop}(h:RgN Tryz.prog N l t m Q (fun i=>if i==1 || i==5 || i==8 || i==9 then .q else .p) [.one 0,.one 1,.one 2,.one 3,.one 4,.one 5,.one 6,.one 7,.one 8,.one 9]):WA Tryz.prog N (.region 18 l.toArray true) t m Q:=d_rgN h
theorem rcheckadj_c(mm:List MsR)(ads:List AdR)(hb1:mm.length≤1000)(hb2:ads.length≤1000)(i:Nat)(hi:i<ads.length)(he:(ads.getD i adz).effs.length≤1000)(haf:(ads.getD i adz).after.length≤1000)(m:Mem):Gives Tryz.prog 46 [.agg [.lst (mssV mm),.lst (adsV ads)],.int .i64 i] m (.int .i64 (adErr mm ads i)):=by
  have hla:=adsV_length (l:=ads)
  have hgk:=adsV_get hi
  have hef:=fun m=>rcheckeffects_c mm ads (ads.getD i adz).effs hb1 he m
  have hfi:fdx (isA (ads.getD i adz).name) ads<i↔0≤fdx (isA (ads.getD i adz).name) (ads.take i):=by
    have h1:=(fdx_in (f:=isA (ads.getD i adz).name) (d:=adz) hi (decide_eq_true rfl)).1
    rw [fdx_take (d:=adz) (by omega)]
    omega
  have hlf:=tsV_length (l:=(ads.getD i adz).after)
  have hga:=hla
  have hti:=hla
  have hsl:=hla
  have hal:=hla
  have hht:=hla
  unfold adErr
  generalize ads.getD i adz=x at *
  obtain⟨nm,ef,le,mo,pa,af⟩:=x
  unfold adV at hgk
  dsimp only at hgk hef hfi hlf he haf ⊢
  generalize efErr mm ef=ee at *
  generalize fdx (isA nm) (ads.take i)=ft at *
  refine Gives_in Tryz.func46 rfl Tryz.ntmps46 Tryz.results46 (by kernel_rfl) (by simp) rfl fun Q hQ=>?_
  (have FX:=And.intro hla (And.intro hlf (And.intro hgk (And.intro hga (And.intro hti (And.intro hsl hal)))));repeat'(first|(refine sx ?_ ?_<;>intro h<;>first|(exfalso;omega)|skip)|(refine g_op ?_;refine g_call ?_;refine g_args ?_;(first|refine s_fn (bisname_c _ _) ?_|refine s_fn (radjustmentat_c ads _ hb2 _) ?_|refine s_fn (hef _) ?_|refine s_fn (bwithin_c _ _ _ _) ?_|refine s_fn (hht _) ?_)<;>try first|omega|assumption)|refine ny ?_|refine WA_block ?_|(refine uB22_46_16 ?_;refine⟨by kernel_rfl,?_⟩)|(refine uB22_46_18 ?_;refine⟨by kernel_rfl,?_⟩)|((first|refine grp_cons (fun _=>bisname_c _ _) ?_|refine grp_cons (fun _=>radjustmentat_c ads _ hb2 _) ?_|refine grp_cons (fun _=>hef _) ?_|refine grp_cons (fun _=>bwithin_c _ _ _ _) ?_|refine grp_cons (fun _=>hht _) ?_)<;>try first|omega|assumption)|(refine g_d ?_;refine d_args ?_;(first|refine d_fn (bisname_c _ _) ?_|refine d_fn (radjustmentat_c ads _ hb2 _) ?_|refine d_fn (hef _) ?_|refine d_fn (bwithin_c _ _ _ _) ?_|refine d_fn (hht _) ?_|refine d_fnQ (fun _=>bisname_c _ _) ?_|refine d_fnQ (fun _=>radjustmentat_c ads _ hb2 _) ?_|refine d_fnQ (fun _=>hef _) ?_|refine d_fnQ (fun _=>bwithin_c _ _ _ _) ?_|refine d_fnQ (fun _=>hht _) ?_)<;>try first|omega|assumption)|(refine g_d ?_;(first|refine d_fnY (bisname_c _ _) ?_|refine d_fnY (radjustmentat_c ads _ hb2 _) ?_|refine d_fnY (hef _) ?_|refine d_fnY (bwithin_c _ _ _ _) ?_|refine d_fnY (hht _) ?_)<;>try first|omega|assumption)))
  all_goals(try(exfalso;omega))
  all_goals try
    ((refine r_es hQ ?_;try with_reducible rfl)
     refine congrArg (V.int .i64) ?_
     first
       |(rw [if_pos (by assumption)];done)
       |(rw [if_neg (by simpa using (by assumption:nameP nm)),if_pos (by omega)];done)
       |(rw [if_neg (by simpa using (by assumption:nameP nm)),if_neg (by omega),if_pos (by omega)];done)
       |(rw [if_neg (by simpa using (by assumption:nameP nm)),if_neg (by omega),if_neg (by omega),if_pos (by omega)];done)
       |(rw [if_neg (by simpa using (by assumption:nameP nm)),if_neg (by omega),if_neg (by omega),if_neg (by omega)];unfold afErr;rw [if_pos (by omega)];done))
  have hl12:af.length≤12:=by omega
  rw [if_neg (by simpa using (by assumption:nameP nm)),if_neg (by omega),if_neg (by omega),if_neg (by omega)] at hQ
  unfold afErr at hQ
  rw [if_neg (by omega)] at hQ
  refine WA_while (σ:=Nat) [2,5,7] (fun k=>[.ptr (lend m).length 0 0,.ptr ((lend m).length+1) 0 0,.int .i64 k]) (fun _=>lend m++[.cells .own 28 2 [[.lst (mssV mm),.lst (adsV ads)]],.cells .own 78 6 [[.str nm,.lst (efsV ef),.int .i64 le,.int .i64 mo,.int .i64 pa,.lst (tsV af)]]]) (fun k=>k≤af.length∧∀ j,j<k→afErrAt ads af j=0) (fun k=>af.length - k) 0 ⟨Nat.zero_le _,fun j h=>absurd h (Nat.not_lt_zero _)⟩ tv_ rfl ?_
  rintro k ⟨hk1,hk2⟩ K hK
  simp only [zipT]
  clear FX hgk hga hti hsl hal hht hef hfi
  have hgk:=hla
  have hef:=hla
  rcases Nat.lt_or_ge k af.length with hk|hk
  · have hga:=tsV_get hk
    have hti:((k:Int) - ((0:Nat):Int)).toNat=k:=by omega
    have hsl:=tsV_take af k
    have hal:=fun n h=>tsV_all (l:=af) (n:=n) h
    have hht:=fun m=>bhastext_c (af.take k) (af.getD k []) (by rw [List.length_take];omega) m
    have hat:afErrAt ads af k=if fdx (isA (af.getD k [])) ads<0 then 6 else if 0≤fdx (isT (af.getD k [])) (af.take k) then 5 else 0:=rfl
    generalize af.getD k []=s at *
    (have FX:=And.intro hla (And.intro hlf (And.intro hgk (And.intro hga (And.intro hti (And.intro hsl hal)))));repeat'(first|(refine sx ?_ ?_<;>intro h<;>first|(exfalso;omega)|skip)|(refine g_op ?_;refine g_call ?_;refine g_args ?_;(first|refine s_fn (bisname_c _ _) ?_|refine s_fn (radjustmentat_c ads _ hb2 _) ?_|refine s_fn (hef _) ?_|refine s_fn (bwithin_c _ _ _ _) ?_|refine s_fn (hht _) ?_)<;>try first|omega|assumption)|refine ny ?_|refine WA_block ?_|(refine uB22_46_16 ?_;refine⟨by kernel_rfl,?_⟩)|(refine uB22_46_18 ?_;refine⟨by kernel_rfl,?_⟩)|((first|refine grp_cons (fun _=>bisname_c _ _) ?_|refine grp_cons (fun _=>radjustmentat_c ads _ hb2 _) ?_|refine grp_cons (fun _=>hef _) ?_|refine grp_cons (fun _=>bwithin_c _ _ _ _) ?_|refine grp_cons (fun _=>hht _) ?_)<;>try first|omega|assumption)|(refine g_d ?_;refine d_args ?_;(first|refine d_fn (bisname_c _ _) ?_|refine d_fn (radjustmentat_c ads _ hb2 _) ?_|refine d_fn (hef _) ?_|refine d_fn (bwithin_c _ _ _ _) ?_|refine d_fn (hht _) ?_|refine d_fnQ (fun _=>bisname_c _ _) ?_|refine d_fnQ (fun _=>radjustmentat_c ads _ hb2 _) ?_|refine d_fnQ (fun _=>hef _) ?_|refine d_fnQ (fun _=>bwithin_c _ _ _ _) ?_|refine d_fnQ (fun _=>hht _) ?_)<;>try first|omega|assumption)|(refine g_d ?_;(first|refine d_fnY (bisname_c _ _) ?_|refine d_fnY (radjustmentat_c ads _ hb2 _) ?_|refine d_fnY (hef _) ?_|refine d_fnY (bwithin_c _ _ _ _) ?_|refine d_fnY (hht _) ?_)<;>try first|omega|assumption)))
    all_goals(try(exfalso;omega))
    all_goals try
      ((refine r_es hQ ?_;try with_reducible rfl)
       refine congrArg (V.int .i64) (fE_is hk hk2 (hat.trans ?_) (by decide)).symm
       first|(rw [if_pos (by omega)];done)|(rw [if_neg (by omega),if_pos (by assumption)];done))
    all_goals(refine next_ hK (k+1) ⟨hk,up_zero hk2 (hat.trans (by rw [if_neg (by omega),if_neg (by assumption)]))⟩ (by omega))
  · obtain rfl:k=af.length:=by omega
    have hga:=hla
    have hti:=hla
    have hsl:=hla
    have hal:=hla
    have hht:=hla
    (have FX:=And.intro hla (And.intro hlf (And.intro hgk (And.intro hga (And.intro hti (And.intro hsl hal)))));repeat'(first|(refine sx ?_ ?_<;>intro h<;>first|(exfalso;omega)|skip)|(refine g_op ?_;refine g_call ?_;refine g_args ?_;(first|refine s_fn (bisname_c _ _) ?_|refine s_fn (radjustmentat_c ads _ hb2 _) ?_|refine s_fn (hef _) ?_|refine s_fn (bwithin_c _ _ _ _) ?_|refine s_fn (hht _) ?_)<;>try first|omega|assumption)|refine ny ?_|refine WA_block ?_|(refine uB22_46_16 ?_;refine⟨by kernel_rfl,?_⟩)|(refine uB22_46_18 ?_;refine⟨by kernel_rfl,?_⟩)|((first|refine grp_cons (fun _=>bisname_c _ _) ?_|refine grp_cons (fun _=>radjustmentat_c ads _ hb2 _) ?_|refine grp_cons (fun _=>hef _) ?_|refine grp_cons (fun _=>bwithin_c _ _ _ _) ?_|refine grp_cons (fun _=>hht _) ?_)<;>try first|omega|assumption)|(refine g_d ?_;refine d_args ?_;(first|refine d_fn (bisname_c _ _) ?_|refine d_fn (radjustmentat_c ads _ hb2 _) ?_|refine d_fn (hef _) ?_|refine d_fn (bwithin_c _ _ _ _) ?_|refine d_fn (hht _) ?_|refine d_fnQ (fun _=>bisname_c _ _) ?_|refine d_fnQ (fun _=>radjustmentat_c ads _ hb2 _) ?_|refine d_fnQ (fun _=>hef _) ?_|refine d_fnQ (fun _=>bwithin_c _ _ _ _) ?_|refine d_fnQ (fun _=>hht _) ?_)<;>try first|omega|assumption)|(refine g_d ?_;(first|refine d_fnY (bisname_c _ _) ?_|refine d_fnY (radjustmentat_c ads _ hb2 _) ?_|refine d_fnY (hef _) ?_|refine d_fnY (bwithin_c _ _ _ _) ?_|refine d_fnY (hht _) ?_)<;>try first|omega|assumption)))
    all_goals(try(exfalso;omega))
    all_goals((refine r_es hQ ?_;try with_reducible rfl))
    all_goals(exact congrArg (V.int .i64) (fE_zero.2 hk2).symm)
end Go.Proofs.YtookikhphobnlaaGreatDoor
