import Derived.Test.YtookikhphobnlaaGreatDoorB26
import Derived.Test.YtookikhphobnlaaGreatDoorGAP
import Derived.Test.YtookikhphobnlaaGreatDoorGAN
import Derived.Test.YtookikhphobnlaaGreatDoorX23
import Derived.Test.YtookikhphobnlaaGreatDoorX18
import Derived.Test.YtookikhphobnlaaGreatDoorB33
import Derived.Test.YtookikhphobnlaaGreatDoorB24
import Derived.Test.YtookikhphobnlaaGreatDoorGAQ
import Derived.Test.YtookikhphobnlaaGreatDoorGAM
set_option linter.unusedSimpArgs false
set_option linter.unusedVariables false
/- contracts: a bench compared with itself -/
namespace Go.Proofs.YtookikhphobnlaaGreatDoor
open Go.RowKit
attribute [local irreducible] WA WOs WDs WAn qThen qBlock tput
set_option maxHeartbeats 1000000
set_option maxRecDepth 20000
set_option linter.unusedSimpArgs false
set_option linter.unusedVariables false
set_option maxHeartbeats 4000000
theorem uB61_34_6{N:Nat}{l:List Oper}{t:List (Nat×V)}{m:Mem}{Q:Exit→List (Nat×V)→Mem→Prop}(h:RgN Tryz.prog N l t m Q (fun i=>if i==3 || i==7 || i==8 then .q else .p) [.one 0,.one 1,.one 2,.one 3,.one 4,.one 5,.one 6,.one 7,.one 8]):WA Tryz.prog N (.region 6 l.toArray true) t m Q:=d_rgN h
theorem btexts_s(l:List Txt)(hl:l.length≤100000)(m:Mem):Gives Tryz.prog 34 [.lst (tsV l),.lst (tsV l)] m (.bool true):=by
  have hla:=tsV_length (l:=l)
  have hga:=hla
  refine Gives_in Tryz.func34 rfl Tryz.ntmps34 Tryz.results34 (by kernel_rfl) (by simp) rfl fun Q hQ=>?_
  (have FX:=And.intro hla hga;repeat'(first|(refine sx ?_ ?_<;>intro h<;>first|(exfalso;omega)|skip)|refine ny ?_|refine WA_block ?_|(refine uB61_34_6 ?_;refine⟨by kernel_rfl,?_⟩)))
  all_goals(try(exfalso;omega))
  refine WA_while (σ:=Nat) [0,1,5] (fun i=>[.lst (tsV l),.lst (tsV l),.int .i64 i]) (fun _=>lend m++[]) (fun i=>i≤l.length) (fun i=>l.length - i) 0 (Nat.zero_le _) tv_ rfl ?_
  rintro i hi L hL
  simp only [zipT]
  clear FX hga
  rcases Nat.lt_or_ge i l.length with hlt|hge
  · have hga:=tsV_get hlt
    generalize l.getD i []=x at *
    (have FX:=And.intro hla hga;repeat'(first|(refine sx ?_ ?_<;>intro h<;>first|(exfalso;omega)|skip)|refine ny ?_|refine WA_block ?_|(refine uB61_34_6 ?_;refine⟨by kernel_rfl,?_⟩)))
    all_goals(try(exfalso;first|omega|contradiction))
    all_goals(refine next_ hL (i+1) (by omega) (by omega))
  · obtain rfl:i=l.length:=by omega
    have hga:=hla
    (have FX:=And.intro hla hga;repeat'(first|(refine sx ?_ ?_<;>intro h<;>first|(exfalso;omega)|skip)|refine ny ?_|refine WA_block ?_|(refine uB61_34_6 ?_;refine⟨by kernel_rfl,?_⟩)))
    all_goals(try(exfalso;first|omega|contradiction))
    all_goals((refine r_es hQ ?_;try with_reducible rfl))
theorem uB61_8_6{N:Nat}{l:List Oper}{t:List (Nat×V)}{m:Mem}{Q:Exit→List (Nat×V)→Mem→Prop}(h:RgN Tryz.prog N l t m Q (fun i=>if i==1 || i==4 || i==6 || i==9 || i==10 then .q else .p) [.one 0,.one 1,.one 2,.one 3,.one 4,.one 5,.one 6,.one 7,.one 8,.one 9,.one 10]):WA Tryz.prog N (.region 6 l.toArray true) t m Q:=d_rgN h
theorem uB61_8_11{N:Nat}{l:List Oper}{t:List (Nat×V)}{m:Mem}{Q:Exit→List (Nat×V)→Mem→Prop}(h:RgN Tryz.prog N l t m Q (fun i=>if i==12 || i==13 then .f else if i==10 || i==11 then .a else if i==1 || i==4 || i==6 || i==9 then .q else .p) [.one 0,.one 1,.one 2,.one 3,.one 4,.one 5,.one 6,.one 7,.one 8,.one 9,.grp true [] [10,11],.one 12,.one 13]):WA Tryz.prog N (.region 11 l.toArray true) t m Q:=d_rgN h
theorem uB61_8_17{N:Nat}{l:List Oper}{t:List (Nat×V)}{m:Mem}{Q:Exit→List (Nat×V)→Mem→Prop}(h:RgN Tryz.prog N l t m Q (fun i=>if i==1 || i==4 || i==6 || i==9 || i==10 then .q else .p) [.one 0,.one 1,.one 2,.one 3,.one 4,.one 5,.one 6,.one 7,.one 8,.one 9,.one 10]):WA Tryz.prog N (.region 17 l.toArray true) t m Q:=d_rgN h
theorem rsame_c (b:BnR) (hb:Bl b) (m:Mem):Gives Tryz.prog 8 [.agg [.lst (mssV b.ms),.lst (adsV b.ads)],.agg [.lst (mssV b.ms),.lst (adsV b.ads)]] m (.bool true):=by
  have hlm:=mssV_length (l:=b.ms)
  have hla:=adsV_length (l:=b.ads)
  have hbm:=hb.nm
  have hba:=hb.na
  have hga:=hla
  have hgb:=hla
  have hle:=hla
  have hlf:=hla
  have htx:=hla
  refine Gives_in Tryz.func8 rfl Tryz.ntmps8 Tryz.results8 (by kernel_rfl) (by simp) rfl fun Q hQ=>?_
  (have FX:=And.intro hlm (And.intro hla (And.intro hga (And.intro hgb (And.intro hle hlf))));repeat'(first|(refine sx ?_ ?_<;>intro h<;>first|(exfalso;omega)|skip)|(refine g_op ?_;refine g_call ?_;refine g_args ?_;(first|refine s_fn (htx _) ?_)<;>try first|omega|assumption)|refine ny ?_|refine WA_block ?_|(refine uB61_8_6 ?_;refine⟨by kernel_rfl,?_⟩)|(refine uB61_8_11 ?_;refine⟨by kernel_rfl,?_⟩)|(refine uB61_8_17 ?_;refine⟨by kernel_rfl,?_⟩)|((first|refine grp_cons (fun _=>htx _) ?_)<;>try first|omega|assumption)|(refine g_d ?_;refine d_args ?_;(first|refine d_fn (htx _) ?_|refine d_fnQ (fun _=>htx _) ?_)<;>try first|omega|assumption)|(refine g_d ?_;(first|refine d_fnY (htx _) ?_)<;>try first|omega|assumption)))
  all_goals(try(exfalso;first|omega|contradiction))
  refine WA_whileP (σ:=Nat) (M:=lend m) [2,3,5] (fun i=>[.ptr (lend m).length 0 0,.ptr ((lend m).length+1) 0 0,.int .i64 i]) (fun _=>[.cells .own 28 2 [[.lst (mssV b.ms),.lst (adsV b.ads)]],.cells .own 28 2 [[.lst (mssV b.ms),.lst (adsV b.ads)]]]) 2 (fun i=>i≤b.ms.length) (fun i=>b.ms.length - i) 0 (Nat.zero_le _) tv_ rfl (fun _=>rfl) (by intro s s' _ _;simp [conB,conS,V.keeps,V.plain,Blk.flat,flatL,plainL,V.flat]) (by intro s s' _ _;simp [conB,conS,V.keeps,V.plain,Blk.flat,flatL,plainL,V.flat]) ?_
  rintro i hi1 K hK
  simp only [zipT]
  clear FX hga
  rcases Nat.lt_or_ge i b.ms.length with hi|hi
  · have hga:=mssV_get hi
    unfold msV at hga
    generalize b.ms.getD i msz=x at *
    (have FX:=And.intro hlm (And.intro hla (And.intro hga (And.intro hgb (And.intro hle hlf))));repeat'(first|(refine sx ?_ ?_<;>intro h<;>first|(exfalso;omega)|skip)|(refine g_op ?_;refine g_call ?_;refine g_args ?_;(first|refine s_fn (htx _) ?_)<;>try first|omega|assumption)|refine ny ?_|refine WA_block ?_|(refine uB61_8_6 ?_;refine⟨by kernel_rfl,?_⟩)|(refine uB61_8_11 ?_;refine⟨by kernel_rfl,?_⟩)|(refine uB61_8_17 ?_;refine⟨by kernel_rfl,?_⟩)|((first|refine grp_cons (fun _=>htx _) ?_)<;>try first|omega|assumption)|(refine g_d ?_;refine d_args ?_;(first|refine d_fn (htx _) ?_|refine d_fnQ (fun _=>htx _) ?_)<;>try first|omega|assumption)|(refine g_d ?_;(first|refine d_fnY (htx _) ?_)<;>try first|omega|assumption)))
    all_goals(try(exfalso;first|omega|contradiction))
    all_goals(exact nextP_ hK (i+1) hi (by omega))
  · obtain rfl:i=b.ms.length:=by omega
    clear hK
    have hga:=hla
    (have FX:=And.intro hlm (And.intro hla (And.intro hga (And.intro hgb (And.intro hle hlf))));repeat'(first|(refine sx ?_ ?_<;>intro h<;>first|(exfalso;omega)|skip)|(refine g_op ?_;refine g_call ?_;refine g_args ?_;(first|refine s_fn (htx _) ?_)<;>try first|omega|assumption)|refine ny ?_|refine WA_block ?_|(refine uB61_8_6 ?_;refine⟨by kernel_rfl,?_⟩)|(refine uB61_8_11 ?_;refine⟨by kernel_rfl,?_⟩)|(refine uB61_8_17 ?_;refine⟨by kernel_rfl,?_⟩)|((first|refine grp_cons (fun _=>htx _) ?_)<;>try first|omega|assumption)|(refine g_d ?_;refine d_args ?_;(first|refine d_fn (htx _) ?_|refine d_fnQ (fun _=>htx _) ?_)<;>try first|omega|assumption)|(refine g_d ?_;(first|refine d_fnY (htx _) ?_)<;>try first|omega|assumption)))
    all_goals(try(exfalso;first|omega|contradiction))
    refine WA_whileP (σ:=Nat) (M:=lend m) [2,3,6] (fun i=>[.ptr (lend m).length 0 0,.ptr ((lend m).length+1) 0 0,.int .i64 i]) (fun _=>[.cells .own 28 2 [[.lst (mssV b.ms),.lst (adsV b.ads)]],.cells .own 28 2 [[.lst (mssV b.ms),.lst (adsV b.ads)]]]) 2 (fun i=>i≤b.ads.length) (fun i=>b.ads.length - i) 0 (Nat.zero_le _) tv_ rfl (fun _=>rfl) (by intro s s' _ _;simp [conB,conS,V.keeps,V.plain,Blk.flat,flatL,plainL,V.flat]) (by intro s s' _ _;simp [conB,conS,V.keeps,V.plain,Blk.flat,flatL,plainL,V.flat]) ?_
    rintro i hi1 K hK
    simp only [zipT]
    clear FX hga hgb hle hlf htx
    rcases Nat.lt_or_ge i b.ads.length with hi|hi
    · have hga:=adsV_get hi
      have hxe:=hb.ae i hi
      have hxa:=hb.aa i hi
      have htx:=fun m=>btexts_s (b.ads.getD i adz).after (by omega) m
      have hle:=efsV_length (l:=(b.ads.getD i adz).effs)
      have hlf:=tsV_length (l:=(b.ads.getD i adz).after)
      have hgb:=hla
      unfold adV at hga
      generalize b.ads.getD i adz=x at *
      (have FX:=And.intro hlm (And.intro hla (And.intro hga (And.intro hgb (And.intro hle hlf))));repeat'(first|(refine sx ?_ ?_<;>intro h<;>first|(exfalso;omega)|skip)|(refine g_op ?_;refine g_call ?_;refine g_args ?_;(first|refine s_fn (htx _) ?_)<;>try first|omega|assumption)|refine ny ?_|refine WA_block ?_|(refine uB61_8_6 ?_;refine⟨by kernel_rfl,?_⟩)|(refine uB61_8_11 ?_;refine⟨by kernel_rfl,?_⟩)|(refine uB61_8_17 ?_;refine⟨by kernel_rfl,?_⟩)|((first|refine grp_cons (fun _=>htx _) ?_)<;>try first|omega|assumption)|(refine g_d ?_;refine d_args ?_;(first|refine d_fn (htx _) ?_|refine d_fnQ (fun _=>htx _) ?_)<;>try first|omega|assumption)|(refine g_d ?_;(first|refine d_fnY (htx _) ?_)<;>try first|omega|assumption)))
      all_goals(try(exfalso;first|omega|contradiction))
      refine WA_whileP (σ:=Nat) (M:=lend m) [2,3,6,7,8,9] (fun k=>[.ptr (lend m).length 0 0,.ptr ((lend m).length+1) 0 0,.int .i64 i,.ptr ((lend m).length+4) 0 0,.ptr ((lend m).length+5) 0 0,.int .i64 k]) (fun _=>[.cells .own 28 2 [[.lst (mssV b.ms),.lst (adsV b.ads)]],.cells .own 28 2 [[.lst (mssV b.ms),.lst (adsV b.ads)]],.dead,.dead,.cells .own 78 6 [[.str x.name,.lst (efsV x.effs),.int .i64 x.least,.int .i64 x.most,.int .i64 x.pass,.lst (tsV x.after)]],.cells .own 78 6 [[.str x.name,.lst (efsV x.effs),.int .i64 x.least,.int .i64 x.most,.int .i64 x.pass,.lst (tsV x.after)]]]) 6 (fun k=>k≤x.effs.length) (fun k=>x.effs.length - k) 0 (Nat.zero_le _) tv_ rfl (fun _=>rfl) (by intro s s' _ _;simp [conB,conS,V.keeps,V.plain,Blk.flat,flatL,plainL,V.flat]) (by intro s s' _ _;simp [conB,conS,V.keeps,V.plain,Blk.flat,flatL,plainL,V.flat]) ?_
      rintro k hk1 K2 hK2
      simp only [zipT]
      clear FX hgb
      rcases Nat.lt_or_ge k x.effs.length with hk|hk
      · have hgb:=efsV_get hk
        unfold efV at hgb
        generalize x.effs.getD k efz=y at *
        (have FX:=And.intro hlm (And.intro hla (And.intro hga (And.intro hgb (And.intro hle hlf))));repeat'(first|(refine sx ?_ ?_<;>intro h<;>first|(exfalso;omega)|skip)|(refine g_op ?_;refine g_call ?_;refine g_args ?_;(first|refine s_fn (htx _) ?_)<;>try first|omega|assumption)|refine ny ?_|refine WA_block ?_|(refine uB61_8_6 ?_;refine⟨by kernel_rfl,?_⟩)|(refine uB61_8_11 ?_;refine⟨by kernel_rfl,?_⟩)|(refine uB61_8_17 ?_;refine⟨by kernel_rfl,?_⟩)|((first|refine grp_cons (fun _=>htx _) ?_)<;>try first|omega|assumption)|(refine g_d ?_;refine d_args ?_;(first|refine d_fn (htx _) ?_|refine d_fnQ (fun _=>htx _) ?_)<;>try first|omega|assumption)|(refine g_d ?_;(first|refine d_fnY (htx _) ?_)<;>try first|omega|assumption)))
        all_goals(try(exfalso;first|omega|contradiction))
        all_goals(exact nextP_ hK2 (k+1) hk (by omega))
      · obtain rfl:k=x.effs.length:=by omega
        clear hK2
        have hgb:=hla
        (have FX:=And.intro hlm (And.intro hla (And.intro hga (And.intro hgb (And.intro hle hlf))));repeat'(first|(refine sx ?_ ?_<;>intro h<;>first|(exfalso;omega)|skip)|(refine g_op ?_;refine g_call ?_;refine g_args ?_;(first|refine s_fn (htx _) ?_)<;>try first|omega|assumption)|refine ny ?_|refine WA_block ?_|(refine uB61_8_6 ?_;refine⟨by kernel_rfl,?_⟩)|(refine uB61_8_11 ?_;refine⟨by kernel_rfl,?_⟩)|(refine uB61_8_17 ?_;refine⟨by kernel_rfl,?_⟩)|((first|refine grp_cons (fun _=>htx _) ?_)<;>try first|omega|assumption)|(refine g_d ?_;refine d_args ?_;(first|refine d_fn (htx _) ?_|refine d_fnQ (fun _=>htx _) ?_)<;>try first|omega|assumption)|(refine g_d ?_;(first|refine d_fnY (htx _) ?_)<;>try first|omega|assumption)))
        all_goals(try(exfalso;first|omega|contradiction))
        all_goals(exact nextP_ hK (i+1) hi (by omega))
    · obtain rfl:i=b.ads.length:=by omega
      have hga:=hla
      have hgb:=hla
      have hle:=hla
      have hlf:=hla
      have htx:=hla
      (have FX:=And.intro hlm (And.intro hla (And.intro hga (And.intro hgb (And.intro hle hlf))));repeat'(first|(refine sx ?_ ?_<;>intro h<;>first|(exfalso;omega)|skip)|(refine g_op ?_;refine g_call ?_;refine g_args ?_;(first|refine s_fn (htx _) ?_)<;>try first|omega|assumption)|refine ny ?_|refine WA_block ?_|(refine uB61_8_6 ?_;refine⟨by kernel_rfl,?_⟩)|(refine uB61_8_11 ?_;refine⟨by kernel_rfl,?_⟩)|(refine uB61_8_17 ?_;refine⟨by kernel_rfl,?_⟩)|((first|refine grp_cons (fun _=>htx _) ?_)<;>try first|omega|assumption)|(refine g_d ?_;refine d_args ?_;(first|refine d_fn (htx _) ?_|refine d_fnQ (fun _=>htx _) ?_)<;>try first|omega|assumption)|(refine g_d ?_;(first|refine d_fnY (htx _) ?_)<;>try first|omega|assumption)))
      all_goals(try(exfalso;first|omega|contradiction))
      all_goals((refine r_es hQ ?_;try with_reducible rfl))
end Go.Proofs.YtookikhphobnlaaGreatDoor
namespace Go.Proofs.YtookikhphobnlaaGreatDoor
end Go.Proofs.YtookikhphobnlaaGreatDoor
namespace Go.Proofs.YtookikhphobnlaaGreatDoor
open Go.RowKit
theorem aln_bok{b:BnR}(hk:Bok b):Aln b.ads:=aln_of hk.fa hk.ae
end Go.Proofs.YtookikhphobnlaaGreatDoor
namespace Go.Proofs.YtookikhphobnlaaGreatDoor
open Go.RowKit
attribute [local irreducible] WA WOs WDs WAn qThen qBlock tput
set_option maxHeartbeats 1000000
set_option maxRecDepth 20000
set_option linter.unusedSimpArgs false
set_option linter.unusedVariables false
set_option maxHeartbeats 8000000

theorem gOrder_bad(b:BnR)(hb:Bl b)(h0:bnErr b≠0)(m:Mem):Gives Tryz.prog 15 [.agg [.lst (mssV b.ms),.lst (adsV b.ads)]] m (.tup [.nilsl,.int .i64 (bnErr b)]):=by
  have hcb:=fun m=>gcheckbench_c b hb m
  have hor:=hcb
  unfold bnV at hcb
  generalize bnErr b=c at *
  refine Gives_in Tryz.func15 rfl Tryz.ntmps15 Tryz.results15 (by kernel_rfl) (by simp) rfl fun Q hQ=>?_
  (have FX:=h0;repeat'(first|(refine sx ?_ ?_<;>intro h<;>first|(exfalso;omega)|skip)|(refine g_op ?_;refine g_call ?_;refine g_args ?_;(first|refine s_fn (hcb _) ?_|refine s_fn (hor _) ?_)<;>try first|omega|assumption)|refine ny ?_|refine WA_block ?_))
  all_goals(try(exfalso;first|omega|contradiction))
  all_goals(refine r_es hQ ?_;try with_reducible rfl)
theorem fin_tpX{m0 X:Mem}{es:List (List V)}{c:Int}{R:V→Option Mem→Prop}(h:plainLL es=true)(hR:R (.tup [.lst es,.int .i64 c]) none):Fin m0 R (.tup [.lst es,.int .i64 c]) (lend m0++X):=by
  refine .inr ⟨X,_,rfl,?_,hR⟩
  show(frzs (frz _ _ 3) [_,_]).map V.tup=_
  rw [frzs_cons (frz_ls h) (frzs_cons (frz_int _ _ _ _ _) rfl)]
  rfl
theorem gOrder_ok(b:BnR)(hb:Bl b)(h0:bnErr b=0)(m:Mem):Gives Tryz.prog 15 [.agg [.lst (mssV b.ms),.lst (adsV b.ads)]] m (.tup [.lst (nuV (ordB b.ads)),.int .i64 0]):=by
  have hcb:=fun m=>gcheckbench_c b hb m
  unfold bnV at hcb
  rw [h0] at hcb
  have hor:=fun m=>gorder_b b hb m
  have hp:=nuV_plain (ordB b.ads)
  generalize nuV (ordB b.ads)=es at *
  suffices key:CallA Tryz.prog 15 [.agg [.lst (mssV b.ms),.lst (adsV b.ads)]] m (fun v mo=>mo=none∧WkV v (.tup [.lst es,.int .i64 0])) from Gives_ofX key fun v mo h=>h
  refine CallA_in Tryz.func15 rfl Tryz.ntmps15 Tryz.results15 (by kernel_rfl) (by simp) fun Q hQ=>?_
  (have FX:=h0;repeat'(first|(refine sx ?_ ?_<;>intro h<;>first|(exfalso;omega)|skip)|(refine g_op ?_;refine g_call ?_;refine g_args ?_;(first|refine s_fn (hcb _) ?_|refine s_fn (hor _) ?_)<;>try first|omega|assumption)|refine ny ?_|refine WA_block ?_))
  all_goals(try(exfalso;first|omega|contradiction))
  exact r_esA hQ (fin_tpX hp ⟨rfl,WkV.refl _⟩)

theorem benches_out(b:BnR)(hout:¬ light b)(m:Mem):Gives Tryz.prog 4 [.agg [.lst (mssV b.ms),.lst (adsV b.ads)]] m (.bool true):=by
  refine Gives_in Tryz.func4 rfl Tryz.ntmps4 Tryz.results4 (by kernel_rfl) (by simp) rfl fun Q hQ=>?_
  (have FX:=hout;repeat'(first|(refine sx ?_ ?_<;>intro h<;>first|(exfalso;omega)|skip)|(refine g_op ?_;refine g_call ?_;refine g_args ?_;(first|refine s_fn (lawake_c _) ?_|refine s_fn (llight_c _ _) ?_)<;>try first|omega|assumption)|refine ny ?_|refine WA_block ?_))
  all_goals(try(exfalso;first|exact hout (by assumption)|omega|contradiction))
  all_goals(refine r_es hQ ?_;try with_reducible rfl)
theorem benches_bad(b:BnR)(hL:light b)(h0:bnErr b≠0)(m:Mem):Gives Tryz.prog 4 [.agg [.lst (mssV b.ms),.lst (adsV b.ads)]] m (.bool true):=by
  have hb:=light_bl hL
  have hli:=fun m=>llight_c b m
  rw [decide_eq_true hL] at hli
  have hcp:=fun m=>rcopy_c b hb m
  have hor:=fun m=>gOrder_bad b hb h0 m
  have hpr:=fun m=>gprint_bad b hb h0 m
  have hrc:=fun m=>rcheckbench_c b hb m
  have hcb:=fun m=>gcheckbench_c b hb m
  unfold bnV at hcb
  generalize bnErr b=c at *
  refine Gives_in Tryz.func4 rfl Tryz.ntmps4 Tryz.results4 (by kernel_rfl) (by simp) rfl fun Q hQ=>?_
  (have FX:=h0;repeat'(first|(refine sx ?_ ?_<;>intro h<;>first|(exfalso;omega)|skip)|(refine g_op ?_;refine g_call ?_;refine g_args ?_;(first|refine s_fn (lawake_c _) ?_|refine s_fn (hli _) ?_|refine s_fn (hcp _) ?_|refine s_fn (hor _) ?_|refine s_fn (hpr _) ?_|refine s_fn (hrc _) ?_|refine s_fn (hcb _) ?_)<;>try first|omega|assumption)|refine ny ?_|refine WA_block ?_))
  all_goals(try(exfalso;first|omega|contradiction))
  all_goals(refine r_es hQ ?_;try with_reducible rfl)
theorem benches_ok(b:BnR)(hL:light b)(h0:bnErr b=0)(m:Mem):Gives Tryz.prog 4 [.agg [.lst (mssV b.ms),.lst (adsV b.ads)]] m (.bool true):=by
  have hb:=light_bl hL
  have hw:=wr_ok h0
  have hli:=fun m=>llight_c b m
  rw [decide_eq_true hL] at hli
  have hcp:=fun m=>rcopy_c b hb m
  have hor:=fun m=>gOrder_ok b hb h0 m
  have hpr:=fun m=>gprint_ok b hb hw h0 m
  have hrc:=fun m=>rcheckbench_c b hb m
  have hcb:=fun m=>gcheckbench_c b hb m
  unfold bnV at hcb
  rw [h0] at hrc hcb
  have hpl:=print_len hw
  have hps:=fun m=>gparse_rows (printB b) (by omega) (by
    rw [cut_print hw,linesB,List.length_append,List.length_append,List.length_map,List.length_map]
    have:=hw.fm
    have:=hw.fa
    simp only [List.length_cons,List.length_nil]
    omega) (fun r hr=>by
    rw [cut_print hw] at hr
    rcases List.mem_append.1 hr with hr|hr
    · exact lines_len hw r hr
    · obtain rfl:=List.mem_singleton.1 hr
      exact Nat.zero_le _) m
  rw [print_back hw h0] at hps
  simp only [paV,bnV] at hps
  have hro:=fun m=>rorder_c b.ms b.ads (aln_bok (bn_ok h0)) m
  have hnu:nuV (ordB b.ads)=nsV ((ordB b.ads).map fun n:Nat=>(n:Int)):=by simp [nuV,nsV]
  have hol:(ordB b.ads).length≤100000:=Nat.le_trans (ordB_len b.ads) (by have:=hw.fa;omega)
  rw [hnu] at hor hro
  have hbi:=fun m=>bints_c ((ordB b.ads).map fun n:Nat=>(n:Int)) ((ordB b.ads).map fun n:Nat=>(n:Int)) (by rw [List.length_map];exact hol) m
  rw [decide_eq_true rfl] at hbi
  have hrp:=fun m=>rprint_c b hw m
  have hsm:=fun m=>rsame_c b hb m
  generalize (ordB b.ads).map (fun n:Nat=>(n:Int))=od at *
  generalize printB b=tx at *
  refine Gives_in Tryz.func4 rfl Tryz.ntmps4 Tryz.results4 (by kernel_rfl) (by simp) rfl fun Q hQ=>?_
  (have FX:=h0;repeat'(first|(refine sx ?_ ?_<;>intro h<;>first|(exfalso;omega)|skip)|(refine g_op ?_;refine g_call ?_;refine g_args ?_;(first|refine s_fn (lawake_c _) ?_|refine s_fn (hli _) ?_|refine s_fn (hcp _) ?_|refine s_fn (hor _) ?_|refine s_fn (hpr _) ?_|refine s_fn (hrc _) ?_|refine s_fn (hcb _) ?_|refine s_fn (hps _) ?_|refine s_fn (hro _) ?_|refine s_fn (hbi _) ?_|refine s_fn (hrp _) ?_|refine s_fn (hsm _) ?_)<;>try first|omega|assumption)|refine ny ?_|refine WA_block ?_))
  all_goals(try(exfalso;first|omega|contradiction))
  all_goals(refine r_es hQ ?_;try with_reducible rfl)
theorem benches_law(b:BnR)(m:Mem):Gives Tryz.prog 4 [.agg [.lst (mssV b.ms),.lst (adsV b.ads)]] m (.bool true):=by
  by_cases hL:light b
  · by_cases h0:bnErr b=0
    · exact benches_ok b hL h0 m
    · exact benches_bad b hL h0 m
  · exact benches_out b hL m
end Go.Proofs.YtookikhphobnlaaGreatDoor
