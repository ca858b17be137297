import Derived.Test.YtookikhphobnlaaGreatDoorGAK
import Derived.Test.YtookikhphobnlaaGreatDoorGAO
import Derived.Test.YtookikhphobnlaaGreatDoorGAQ
set_option linter.unusedSimpArgs false
set_option linter.unusedVariables false
/- contracts: a bench compared with itself -/
namespace Go.Proofs.YtookikhphobnlaaGreatDoor
open Go.RowKit
attribute [local irreducible] WA WOs WDs WAn qThen qBlock tput
set_option maxHeartbeats 1000000
set_option maxRecDepth 20000
set_option linter.unusedSimpArgs false
set_option linter.unusedVariables false
set_option maxHeartbeats 4000000
theorem uB61_34_6{N:Nat}{l:List Oper}{t:List (Nat×V)}{m:Mem}{Q:Exit→List (Nat×V)→Mem→Prop}(h:RgN Tryz.prog N l t m Q (fun i=>if i==3 || i==7 || i==8 then .q else .p) [.one 0,.one 1,.one 2,.one 3,.one 4,.one 5,.one 6,.one 7,.one 8]):WA Tryz.prog N (.region 6 l.toArray true) t m Q:=d_rgN h
theorem btexts_s(l:List Txt)(hl:l.length≤100000)(m:Mem):Gives Tryz.prog 34 [.lst (tsV l),.lst (tsV l)] m (.bool true):=by
  have hla:=tsV_length (l:=l)
  have hga:=hla
  refine Gives_in Tryz.func34 rfl Tryz.ntmps34 Tryz.results34 (by kernel_rfl) (by simp) rfl fun Q hQ=>?_
  (have FX:=And.intro hla hga;repeat'(first|(refine sx ?_ ?_<;>intro h<;>first|(exfalso;omega)|skip)|refine ny ?_|refine WA_block ?_|(refine uB61_34_6 ?_;refine⟨by kernel_rfl,?_⟩)))
  all_goals(try(exfalso;omega))
  refine WA_while (σ:=Nat) [0,1,5] (fun i=>[.lst (tsV l),.lst (tsV l),.int .i64 i]) (fun _=>lend m++[]) (fun i=>i≤l.length) (fun i=>l.length - i) 0 (Nat.zero_le _) tv_ rfl ?_
  rintro i hi L hL
  simp only [zipT]
  clear FX hga
  rcases Nat.lt_or_ge i l.length with hlt|hge
  · have hga:=tsV_get hlt
    generalize l.getD i []=x at *
    (have FX:=And.intro hla hga;repeat'(first|(refine sx ?_ ?_<;>intro h<;>first|(exfalso;omega)|skip)|refine ny ?_|refine WA_block ?_|(refine uB61_34_6 ?_;refine⟨by kernel_rfl,?_⟩)))
    all_goals(try(exfalso;first|omega|contradiction))
    all_goals(refine next_ hL (i+1) (by omega) (by omega))
  · obtain rfl:i=l.length:=by omega
    have hga:=hla
    (have FX:=And.intro hla hga;repeat'(first|(refine sx ?_ ?_<;>intro h<;>first|(exfalso;omega)|skip)|refine ny ?_|refine WA_block ?_|(refine uB61_34_6 ?_;refine⟨by kernel_rfl,?_⟩)))
    all_goals(try(exfalso;first|omega|contradiction))
    all_goals((refine r_es hQ ?_;try with_reducible rfl))
theorem uB61_8_6{N:Nat}{l:List Oper}{t:List (Nat×V)}{m:Mem}{Q:Exit→List (Nat×V)→Mem→Prop}(h:RgN Tryz.prog N l t m Q (fun i=>if i==1 || i==4 || i==6 || i==9 || i==10 then .q else .p) [.one 0,.one 1,.one 2,.one 3,.one 4,.one 5,.one 6,.one 7,.one 8,.one 9,.one 10]):WA Tryz.prog N (.region 6 l.toArray true) t m Q:=d_rgN h
theorem uB61_8_11{N:Nat}{l:List Oper}{t:List (Nat×V)}{m:Mem}{Q:Exit→List (Nat×V)→Mem→Prop}(h:RgN Tryz.prog N l t m Q (fun i=>if i==12 || i==13 then .f else if i==10 || i==11 then .a else if i==1 || i==4 || i==6 || i==9 then .q else .p) [.one 0,.one 1,.one 2,.one 3,.one 4,.one 5,.one 6,.one 7,.one 8,.one 9,.grp true [] [10,11],.one 12,.one 13]):WA Tryz.prog N (.region 11 l.toArray true) t m Q:=d_rgN h
theorem uB61_8_17{N:Nat}{l:List Oper}{t:List (Nat×V)}{m:Mem}{Q:Exit→List (Nat×V)→Mem→Prop}(h:RgN Tryz.prog N l t m Q (fun i=>if i==1 || i==4 || i==6 || i==9 || i==10 then .q else .p) [.one 0,.one 1,.one 2,.one 3,.one 4,.one 5,.one 6,.one 7,.one 8,.one 9,.one 10]):WA Tryz.prog N (.region 17 l.toArray true) t m Q:=d_rgN h
theorem rsame_c (b:BnR) (hb:Bl b) (m:Mem):Gives Tryz.prog 8 [.agg [.lst (mssV b.ms),.lst (adsV b.ads)],.agg [.lst (mssV b.ms),.lst (adsV b.ads)]] m (.bool true):=by
  have hlm:=mssV_length (l:=b.ms)
  have hla:=adsV_length (l:=b.ads)
  have hbm:=hb.nm
  have hba:=hb.na
  have hga:=hla
  have hgb:=hla
  have hle:=hla
  have hlf:=hla
  have htx:=hla
  refine Gives_in Tryz.func8 rfl Tryz.ntmps8 Tryz.results8 (by kernel_rfl) (by simp) rfl fun Q hQ=>?_
  (have FX:=And.intro hlm (And.intro hla (And.intro hga (And.intro hgb (And.intro hle hlf))));repeat'(first|(refine sx ?_ ?_<;>intro h<;>first|(exfalso;omega)|skip)|(refine g_op ?_;refine g_call ?_;refine g_args ?_;(first|refine s_fn (htx _) ?_)<;>try first|omega|assumption)|refine ny ?_|refine WA_block ?_|(refine uB61_8_6 ?_;refine⟨by kernel_rfl,?_⟩)|(refine uB61_8_11 ?_;refine⟨by kernel_rfl,?_⟩)|(refine uB61_8_17 ?_;refine⟨by kernel_rfl,?_⟩)|((first|refine grp_cons (fun _=>htx _) ?_)<;>try first|omega|assumption)|(refine g_d ?_;refine d_args ?_;(first|refine d_fn (htx _) ?_|refine d_fnQ (fun _=>htx _) ?_)<;>try first|omega|assumption)|(refine g_d ?_;(first|refine d_fnY (htx _) ?_)<;>try first|omega|assumption)))
  all_goals(try(exfalso;first|omega|contradiction))
  refine WA_whileP (σ:=Nat) (M:=lend m) [2,3,5] (fun i=>[.ptr (lend m).length 0 0,.ptr ((lend m).length+1) 0 0,.int .i64 i]) (fun _=>[.cells .own 28 2 [[.lst (mssV b.ms),.lst (adsV b.ads)]],.cells .own 28 2 [[.lst (mssV b.ms),.lst (adsV b.ads)]]]) 2 (fun i=>i≤b.ms.length) (fun i=>b.ms.length - i) 0 (Nat.zero_le _) tv_ rfl (fun _=>rfl) (by intro s s' _ _;simp [conB,conS,V.keeps,V.plain,Blk.flat,flatL,plainL,V.flat]) (by intro s s' _ _;simp [conB,conS,V.keeps,V.plain,Blk.flat,flatL,plainL,V.flat]) ?_
  rintro i hi1 K hK
  simp only [zipT]
  clear FX hga
  rcases Nat.lt_or_ge i b.ms.length with hi|hi
  · have hga:=mssV_get hi
    unfold msV at hga
    generalize b.ms.getD i msz=x at *
    (have FX:=And.intro hlm (And.intro hla (And.intro hga (And.intro hgb (And.intro hle hlf))));repeat'(first|(refine sx ?_ ?_<;>intro h<;>first|(exfalso;omega)|skip)|(refine g_op ?_;refine g_call ?_;refine g_args ?_;(first|refine s_fn (htx _) ?_)<;>try first|omega|assumption)|refine ny ?_|refine WA_block ?_|(refine uB61_8_6 ?_;refine⟨by kernel_rfl,?_⟩)|(refine uB61_8_11 ?_;refine⟨by kernel_rfl,?_⟩)|(refine uB61_8_17 ?_;refine⟨by kernel_rfl,?_⟩)|((first|refine grp_cons (fun _=>htx _) ?_)<;>try first|omega|assumption)|(refine g_d ?_;refine d_args ?_;(first|refine d_fn (htx _) ?_|refine d_fnQ (fun _=>htx _) ?_)<;>try first|omega|assumption)|(refine g_d ?_;(first|refine d_fnY (htx _) ?_)<;>try first|omega|assumption)))
    all_goals(try(exfalso;first|omega|contradiction))
    all_goals(exact nextP_ hK (i+1) hi (by omega))
  · obtain rfl:i=b.ms.length:=by omega
    clear hK
    have hga:=hla
    (have FX:=And.intro hlm (And.intro hla (And.intro hga (And.intro hgb (And.intro hle hlf))));repeat'(first|(refine sx ?_ ?_<;>intro h<;>first|(exfalso;omega)|skip)|(refine g_op ?_;refine g_call ?_;refine g_args ?_;(first|refine s_fn (htx _) ?_)<;>try first|omega|assumption)|refine ny ?_|refine WA_block ?_|(refine uB61_8_6 ?_;refine⟨by kernel_rfl,?_⟩)|(refine uB61_8_11 ?_;refine⟨by kernel_rfl,?_⟩)|(refine uB61_8_17 ?_;refine⟨by kernel_rfl,?_⟩)|((first|refine grp_cons (fun _=>htx _) ?_)<;>try first|omega|assumption)|(refine g_d ?_;refine d_args ?_;(first|refine d_fn (htx _) ?_|refine d_fnQ (fun _=>htx _) ?_)<;>try first|omega|assumption)|(refine g_d ?_;(first|refine d_fnY (htx _) ?_)<;>try first|omega|assumption)))
    all_goals(try(exfalso;first|omega|contradiction))
    refine WA_whileP (σ:=Nat) (M:=lend m) [2,3,6] (fun i=>[.ptr (lend m).length 0 0,.ptr ((lend m).length+1) 0 0,.int .i64 i]) (fun _=>[.cells .own 28 2 [[.lst (mssV b.ms),.lst (adsV b.ads)]],.cells .own 28 2 [[.lst (mssV b.ms),.lst (adsV b.ads)]]]) 2 (fun i=>i≤b.ads.length) (fun i=>b.ads.length - i) 0 (Nat.zero_le _) tv_ rfl (fun _=>rfl) (by intro s s' _ _;simp [conB,conS,V.keeps,V.plain,Blk.flat,flatL,plainL,V.flat]) (by intro s s' _ _;simp [conB,conS,V.keeps,V.plain,Blk.flat,flatL,plainL,V.flat]) ?_
    rintro i hi1 K hK
    simp only [zipT]
    clear FX hga hgb hle hlf htx
    rcases Nat.lt_or_ge i b.ads.length with hi|hi
    · have hga:=adsV_get hi
      have hxe:=hb.ae i hi
      have hxa:=hb.aa i hi
      have htx:=fun m=>btexts_s (b.ads.getD i adz).after (by omega) m
      have hle:=efsV_length (l:=(b.ads.getD i adz).effs)
      have hlf:=tsV_length (l:=(b.ads.getD i adz).after)
      have hgb:=hla
      unfold adV at hga
      generalize b.ads.getD i adz=x at *
      (have FX:=And.intro hlm (And.intro hla (And.intro hga (And.intro hgb (And.intro hle hlf))));repeat'(first|(refine sx ?_ ?_<;>intro h<;>first|(exfalso;omega)|skip)|(refine g_op ?_;refine g_call ?_;refine g_args ?_;(first|refine s_fn (htx _) ?_)<;>try first|omega|assumption)|refine ny ?_|refine WA_block ?_|(refine uB61_8_6 ?_;refine⟨by kernel_rfl,?_⟩)|(refine uB61_8_11 ?_;refine⟨by kernel_rfl,?_⟩)|(refine uB61_8_17 ?_;refine⟨by kernel_rfl,?_⟩)|((first|refine grp_cons (fun _=>htx _) ?_)<;>try first|omega|assumption)|(refine g_d ?_;refine d_args ?_;(first|refine d_fn (htx _) ?_|refine d_fnQ (fun _=>htx _) ?_)<;>try first|omega|assumption)|(refine g_d ?_;(first|refine d_fnY (htx _) ?_)<;>try first|omega|assumption)))
      all_goals(try(exfalso;first|omega|contradiction))
      refine WA_whileP (σ:=Nat) (M:=lend m) [2,3,6,7,8,9] (fun k=>[.ptr (lend m).length 0 0,.ptr ((lend m).length+1) 0 0,.int .i64 i,.ptr ((lend m).length+4) 0 0,.ptr ((lend m).length+5) 0 0,.int .i64 k]) (fun _=>[.cells .own 28 2 [[.lst (mssV b.ms),.lst (adsV b.ads)]],.cells .own 28 2 [[.lst (mssV b.ms),.lst (adsV b.ads)]],.dead,.dead,.cells .own 78 6 [[.str x.name,.lst (efsV x.effs),.int .i64 x.least,.int .i64 x.most,.int .i64 x.pass,.lst (tsV x.after)]],.cells .own 78 6 [[.str x.name,.lst (efsV x.effs),.int .i64 x.least,.int .i64 x.most,.int .i64 x.pass,.lst (tsV x.after)]]]) 6 (fun k=>k≤x.effs.length) (fun k=>x.effs.length - k) 0 (Nat.zero_le _) tv_ rfl (fun _=>rfl) (by intro s s' _ _;simp [conB,conS,V.keeps,V.plain,Blk.flat,flatL,plainL,V.flat]) (by intro s s' _ _;simp [conB,conS,V.keeps,V.plain,Blk.flat,flatL,plainL,V.flat]) ?_
      rintro k hk1 K2 hK2
      simp only [zipT]
      clear FX hgb
      rcases Nat.lt_or_ge k x.effs.length with hk|hk
      · have hgb:=efsV_get hk
        unfold efV at hgb
        generalize x.effs.getD k efz=y at *
        (have FX:=And.intro hlm (And.intro hla (And.intro hga (And.intro hgb (And.intro hle hlf))));repeat'(first|(refine sx ?_ ?_<;>intro h<;>first|(exfalso;omega)|skip)|(refine g_op ?_;refine g_call ?_;refine g_args ?_;(first|refine s_fn (htx _) ?_)<;>try first|omega|assumption)|refine ny ?_|refine WA_block ?_|(refine uB61_8_6 ?_;refine⟨by kernel_rfl,?_⟩)|(refine uB61_8_11 ?_;refine⟨by kernel_rfl,?_⟩)|(refine uB61_8_17 ?_;refine⟨by kernel_rfl,?_⟩)|((first|refine grp_cons (fun _=>htx _) ?_)<;>try first|omega|assumption)|(refine g_d ?_;refine d_args ?_;(first|refine d_fn (htx _) ?_|refine d_fnQ (fun _=>htx _) ?_)<;>try first|omega|assumption)|(refine g_d ?_;(first|refine d_fnY (htx _) ?_)<;>try first|omega|assumption)))
        all_goals(try(exfalso;first|omega|contradiction))
        all_goals(exact nextP_ hK2 (k+1) hk (by omega))
      · obtain rfl:k=x.effs.length:=by omega
        clear hK2
        have hgb:=hla
        (have FX:=And.intro hlm (And.intro hla (And.intro hga (And.intro hgb (And.intro hle hlf))));repeat'(first|(refine sx ?_ ?_<;>intro h<;>first|(exfalso;omega)|skip)|(refine g_op ?_;refine g_call ?_;refine g_args ?_;(first|refine s_fn (htx _) ?_)<;>try first|omega|assumption)|refine ny ?_|refine WA_block ?_|(refine uB61_8_6 ?_;refine⟨by kernel_rfl,?_⟩)|(refine uB61_8_11 ?_;refine⟨by kernel_rfl,?_⟩)|(refine uB61_8_17 ?_;refine⟨by kernel_rfl,?_⟩)|((first|refine grp_cons (fun _=>htx _) ?_)<;>try first|omega|assumption)|(refine g_d ?_;refine d_args ?_;(first|refine d_fn (htx _) ?_|refine d_fnQ (fun _=>htx _) ?_)<;>try first|omega|assumption)|(refine g_d ?_;(first|refine d_fnY (htx _) ?_)<;>try first|omega|assumption)))
        all_goals(try(exfalso;first|omega|contradiction))
        all_goals(exact nextP_ hK (i+1) hi (by omega))
    · obtain rfl:i=b.ads.length:=by omega
      have hga:=hla
      have hgb:=hla
      have hle:=hla
      have hlf:=hla
      have htx:=hla
      (have FX:=And.intro hlm (And.intro hla (And.intro hga (And.intro hgb (And.intro hle hlf))));repeat'(first|(refine sx ?_ ?_<;>intro h<;>first|(exfalso;omega)|skip)|(refine g_op ?_;refine g_call ?_;refine g_args ?_;(first|refine s_fn (htx _) ?_)<;>try first|omega|assumption)|refine ny ?_|refine WA_block ?_|(refine uB61_8_6 ?_;refine⟨by kernel_rfl,?_⟩)|(refine uB61_8_11 ?_;refine⟨by kernel_rfl,?_⟩)|(refine uB61_8_17 ?_;refine⟨by kernel_rfl,?_⟩)|((first|refine grp_cons (fun _=>htx _) ?_)<;>try first|omega|assumption)|(refine g_d ?_;refine d_args ?_;(first|refine d_fn (htx _) ?_|refine d_fnQ (fun _=>htx _) ?_)<;>try first|omega|assumption)|(refine g_d ?_;(first|refine d_fnY (htx _) ?_)<;>try first|omega|assumption)))
      all_goals(try(exfalso;first|omega|contradiction))
      all_goals((refine r_es hQ ?_;try with_reducible rfl))
end Go.Proofs.YtookikhphobnlaaGreatDoor
namespace Go.Proofs.YtookikhphobnlaaGreatDoor
open Go.RowKit
attribute [local irreducible] WA WOs WDs WAn qThen qBlock tput
set_option maxHeartbeats 1000000
set_option maxRecDepth 20000
set_option linter.unusedSimpArgs false
set_option linter.unusedVariables false
set_option maxHeartbeats 8000000

theorem texts_out(s t:Txt)(a b:Int)(hout:(600<s.length∧s.length≤60000)∨60005<s.length∨100<t.length)(m:Mem):Gives Tryz.prog 3 [.str s,.agg [.int .i64 a,.int .i64 b],.str t] m (.bool true):=by
  refine Gives_in Tryz.func3 rfl Tryz.ntmps3 Tryz.results3 (by kernel_rfl) (by simp) rfl fun Q hQ=>?_
  (repeat'(first|(refine sx ?_ ?_<;>intro h<;>first|(exfalso;omega)|skip)|(refine g_op ?_;refine g_call ?_;refine g_args ?_;(first|refine s_fn (lawake_c _) ?_)<;>try first|omega|assumption)|refine ny ?_|refine WA_block ?_))
  all_goals(try(exfalso;omega))
  all_goals(refine r_es hQ ?_;try with_reducible rfl)
theorem texts_in(s t:Txt)(a b:Int)(ha: -9223372036854775808≤a)(ha':a≤9223372036854775807)(hb: -9223372036854775808≤b)(hb':b≤9223372036854775807)(hin:¬ ((600<s.length∧s.length≤60000)∨60005<s.length∨100<t.length))(m:Mem):Gives Tryz.prog 3 [.str s,.agg [.int .i64 a,.int .i64 b],.str t] m (.bool true):=by
  have hgp:=fun m=>gparse_c s (by omega) m
  have hrp:=fun m=>rparse_c s (by omega) m
  have hsm:=fun m=>rsame_c (prsP s).1 (prs_bl (by omega)) m
  have hgs:=fun m=>gpstep_c t (by omega) m
  have hrs:=fun m=>rpstep_c t (by omega) m
  have hgf:=fun m=>gformat_c a b ha ha' hb hb' m
  have hrf:=fun m=>rformat_c a b ha ha' hb hb' m
  have h1:=Lib.itoa_length_le a ha ha'
  have h2:=Lib.itoa_length_le b hb hb'
  have h3:(Lib.itoa a++32::Lib.itoa b).length≤50:=by rw [List.length_append,List.length_cons];omega
  have hbk:=fun m=>gpstep_c (Lib.itoa a++32::Lib.itoa b) (by omega) m
  have hsb:(-9999999≤a∧a≤9999999)→(-9999999≤b∧b≤9999999)→stepP (Lib.itoa a++32::Lib.itoa b)=some (a,b):=fun g1 g2=>step_back (by omega) (by omega)
  simp only [paV,bnV] at hgp hrp
  generalize (prsP s).1=bb at *
  generalize (prsP s).2.1=n1 at *
  generalize (prsP s).2.2=n2 at *
  generalize Lib.itoa a++32::Lib.itoa b=tx at *
  by_cases hw:(-9999999≤a∧a≤9999999)∧(-9999999≤b∧b≤9999999)
  · rw [hsb hw.1 hw.2] at hbk
    simp only [stepV] at hbk
    rcases hst:stepP t with _|⟨p,q⟩
    all_goals(
      rw [hst] at hgs hrs
      simp only [stepV] at hgs hrs)
    all_goals(
      refine Gives_in Tryz.func3 rfl Tryz.ntmps3 Tryz.results3 (by kernel_rfl) (by simp) rfl fun Q hQ=>?_
      (have FX:=h3;repeat'(first|(refine sx ?_ ?_<;>intro h<;>first|(exfalso;omega)|skip)|(refine g_op ?_;refine g_call ?_;refine g_args ?_;(first|refine s_fn (lawake_c _) ?_|refine s_fn (hgp _) ?_|refine s_fn (hrp _) ?_|refine s_fn (hsm _) ?_|refine s_fn (hgs _) ?_|refine s_fn (hrs _) ?_|refine s_fn (hgf _) ?_|refine s_fn (hrf _) ?_|refine s_fn (hbk _) ?_|refine s_fn (bwithin_c _ _ _ _) ?_)<;>try first|omega|assumption)|refine ny ?_|refine WA_block ?_)))
    all_goals(try(exfalso;first|omega|contradiction))
    all_goals(refine r_es hQ ?_;try with_reducible rfl)
  · rcases hst:stepP t with _|⟨p,q⟩
    all_goals(
      rw [hst] at hgs hrs
      simp only [stepV] at hgs hrs)
    all_goals(
      refine Gives_in Tryz.func3 rfl Tryz.ntmps3 Tryz.results3 (by kernel_rfl) (by simp) rfl fun Q hQ=>?_
      (have FX:=h3;repeat'(first|(refine sx ?_ ?_<;>intro h<;>first|(exfalso;omega)|skip)|(refine g_op ?_;refine g_call ?_;refine g_args ?_;(first|refine s_fn (lawake_c _) ?_|refine s_fn (hgp _) ?_|refine s_fn (hrp _) ?_|refine s_fn (hsm _) ?_|refine s_fn (hgs _) ?_|refine s_fn (hrs _) ?_|refine s_fn (hgf _) ?_|refine s_fn (hrf _) ?_|refine s_fn (bwithin_c _ _ _ _) ?_)<;>try first|omega|assumption)|refine ny ?_|refine WA_block ?_)))
    all_goals(try(exfalso;first|omega|contradiction))
    all_goals(refine r_es hQ ?_;try with_reducible rfl)
theorem texts_law(s t:Txt)(a b:Int)(ha: -9223372036854775808≤a)(ha':a≤9223372036854775807)(hb: -9223372036854775808≤b)(hb':b≤9223372036854775807)(m:Mem):Gives Tryz.prog 3 [.str s,.agg [.int .i64 a,.int .i64 b],.str t] m (.bool true):=by
  by_cases h:(600<s.length∧s.length≤60000)∨60005<s.length∨100<t.length
  · exact texts_out s t a b h m
  · exact texts_in s t a b ha ha' hb hb' h m
end Go.Proofs.YtookikhphobnlaaGreatDoor
