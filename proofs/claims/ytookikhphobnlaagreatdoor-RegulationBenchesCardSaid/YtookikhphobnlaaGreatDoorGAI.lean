import Derived.Test.YtookikhphobnlaaGreatDoorBW
import Derived.Test.YtookikhphobnlaaGreatDoorGAC
set_option linter.unusedSimpArgs false
set_option linter.unusedVariables false
/- contracts: steps, values, what is broken -/
namespace Go.Proofs.YtookikhphobnlaaGreatDoor
open Go.RowKit
attribute [local irreducible] WA WOs WDs WAn qThen qBlock tput
set_option maxHeartbeats 1000000
set_option maxRecDepth 20000
set_option linter.unusedSimpArgs false
set_option linter.unusedVariables false
theorem uB10_90_6{N:Nat}{l:List Oper}{t:List (Nat×V)}{m:Mem}{Q:Exit→List (Nat×V)→Mem→Prop}(h:RgN Tryz.prog N l t m Q (fun i=>if i==3 || i==5 || i==7 || i==8 || i==9 then .q else .p) [.one 0,.one 1,.one 2,.one 3,.one 4,.one 5,.one 6,.one 7,.one 8,.one 9]):WA Tryz.prog N (.region 6 l.toArray true) t m Q:=d_rgN h
theorem gchecksteps_c(b:BnR)(hfa:b.ads.length≤12)(l:List Int)(m:Mem):Gives Tryz.prog 90 [.bp (bxC b) 0,.lst (nsV l)] m (.int .i64 (stErr b.ads l)):=by
  have hla:=adsV_length (l:=b.ads)
  have hln:=nsV_length (l:=l)
  have hga:=hla
  have hgb:=hla
  unfold bxC stErr
  refine Gives_in Tryz.func90 rfl Tryz.ntmps90 Tryz.results90 (by kernel_rfl) (by simp) rfl fun Q hQ=>?_
  (have FX:=And.intro hla (And.intro hln (And.intro hga hgb));repeat'(first|(refine sx ?_ ?_<;>intro h<;>first|(exfalso;omega)|skip)|(refine g_op ?_;refine g_call ?_;refine g_args ?_;(first|refine s_fn (gwithin_c _ _ _ _) ?_)<;>try first|omega|assumption)|refine ny ?_|refine WA_block ?_|(refine uB10_90_6 ?_;refine⟨by kernel_rfl,?_⟩)|((first|refine grp_cons (fun _=>gwithin_c _ _ _ _) ?_)<;>try first|omega|assumption)|(refine g_d ?_;refine d_args ?_;(first|refine d_fn (gwithin_c _ _ _ _) ?_|refine d_fnQ (fun _=>gwithin_c _ _ _ _) ?_)<;>try first|omega|assumption)|(refine g_d ?_;(first|refine d_fnY (gwithin_c _ _ _ _) ?_)<;>try first|omega|assumption)))
  all_goals(try(exfalso;omega))
  all_goals try
    ((refine r_es hQ ?_;try with_reducible rfl)
     refine congrArg (V.int .i64) ?_
     rw [if_pos (by omega)]
     done)
  have hlb:l.length=b.ads.length:=by omega
  rw [if_neg (by omega)] at hQ
  generalize hO:nuV (ordB b.ads)=O at *
  generalize hRW:rwV (rowsB b.ms b.ads)=RW at *
  generalize hMN:nsV (mnsB b.ms b.ads)=MN at *
  refine WA_whileK (σ:=Nat) (L:=m) [0,1,20,21,22] (fun i=>[.bp [.lst (mssV b.ms),.lst (adsV b.ads),.lst O,.lst RW,.lst MN] 0,.lst (nsV l),.lst (adsV b.ads),.int .i64 b.ads.length,.int .i64 i]) (fun _=>[]) 0 (fun i=>i≤b.ads.length∧∀ j,j<i→stErrAt b.ads l j=0) (fun i=>b.ads.length - i) 0 ⟨Nat.zero_le _,fun j h=>absurd h (Nat.not_lt_zero _)⟩ tv_ rfl (fun _=>rfl) (by intro s s' _ _;simp [conB,conS,V.keeps,V.plain,Blk.flat,flatL,plainL,V.flat]) (by intro s s' _ _;simp [conB,conS,V.keeps,V.plain,Blk.flat,flatL,plainL,V.flat]) ?_
  rintro i ⟨hi1,hi2⟩ K hK
  simp only [zipT]
  clear FX hga hgb
  rcases Nat.lt_or_ge i b.ads.length with hi|hi
  · have hga:=adsV_get hi
    have hgb:=nsV_get (l:=l) (i:=i) (by omega)
    have hat:stErrAt b.ads l i=if (b.ads.getD i adz).least≤l.getD i 0∧l.getD i 0≤(b.ads.getD i adz).most then 0 else 2:=rfl
    generalize b.ads.getD i adz=x at *
    obtain⟨nm,ef,le,mo,pa,af⟩:=x
    unfold adV at hga
    dsimp only at hga hat
    (have FX:=And.intro hla (And.intro hln (And.intro hga hgb));repeat'(first|(refine sx ?_ ?_<;>intro h<;>first|(exfalso;omega)|skip)|(refine g_op ?_;refine g_call ?_;refine g_args ?_;(first|refine s_fn (gwithin_c _ _ _ _) ?_)<;>try first|omega|assumption)|refine ny ?_|refine WA_block ?_|(refine uB10_90_6 ?_;refine⟨by kernel_rfl,?_⟩)|((first|refine grp_cons (fun _=>gwithin_c _ _ _ _) ?_)<;>try first|omega|assumption)|(refine g_d ?_;refine d_args ?_;(first|refine d_fn (gwithin_c _ _ _ _) ?_|refine d_fnQ (fun _=>gwithin_c _ _ _ _) ?_)<;>try first|omega|assumption)|(refine g_d ?_;(first|refine d_fnY (gwithin_c _ _ _ _) ?_)<;>try first|omega|assumption)))
    all_goals(try(exfalso;omega))
    all_goals try
      ((refine r_es hQ ?_;try with_reducible rfl)
       refine congrArg (V.int .i64) (fE_is hi hi2 (hat.trans ?_) (by decide)).symm
       rw [if_neg (by omega)]
       done)
    all_goals(refine nextL_ hK (i+1) ⟨by omega,up_zero hi2 (hat.trans (by rw [if_pos (by omega)]))⟩ (by omega))
  · obtain rfl:i=b.ads.length:=by omega
    have hga:=hla
    have hgb:=hla
    (have FX:=And.intro hla (And.intro hln (And.intro hga hgb));repeat'(first|(refine sx ?_ ?_<;>intro h<;>first|(exfalso;omega)|skip)|(refine g_op ?_;refine g_call ?_;refine g_args ?_;(first|refine s_fn (gwithin_c _ _ _ _) ?_)<;>try first|omega|assumption)|refine ny ?_|refine WA_block ?_|(refine uB10_90_6 ?_;refine⟨by kernel_rfl,?_⟩)|((first|refine grp_cons (fun _=>gwithin_c _ _ _ _) ?_)<;>try first|omega|assumption)|(refine g_d ?_;refine d_args ?_;(first|refine d_fn (gwithin_c _ _ _ _) ?_|refine d_fnQ (fun _=>gwithin_c _ _ _ _) ?_)<;>try first|omega|assumption)|(refine g_d ?_;(first|refine d_fnY (gwithin_c _ _ _ _) ?_)<;>try first|omega|assumption)))
    all_goals(try(exfalso;omega))
    all_goals((refine r_es hQ ?_;try with_reducible rfl))
    all_goals(exact congrArg (V.int .i64) (fE_zero.2 hi2).symm)

theorem gvalue_c(b:BnR)(hb:Bnd b)(l:List Int)(hl:l.length=b.ads.length)(hs:∀ k,k<b.ads.length→ -1000≤l.getD k 0∧l.getD k 0≤1000)(i:Nat)(hi:i<b.ms.length)(m:Mem):Gives Tryz.prog 55 [.bp (bxC b) 0,.int .i64 i,.lst (nsV l)] m (.int .i64 (valP b l i)):=by
  have hlm:=mssV_length (l:=b.ms)
  have hln:=nsV_length (l:=l)
  have hla:=adsV_length (l:=b.ads)
  have hlw:(rwV (rowsB b.ms b.ads)).length=b.ads.length:=by rw [rwV_length,rowsB_length]
  have hgm:=mssV_get hi
  have hga:=hla
  have hgb:=hla
  have hgc:=hla
  have hfa:=hb.fa
  have hva:=(hb.va i hi).1
  have hv0:valK b l i 0=(b.ms.getD i msz).val:=rfl
  have hvn:valP b l i=valK b l i b.ads.length:=rfl
  generalize b.ms.getD i msz=y at hgm hva hv0
  obtain⟨ynm,yva,ylo,yhi⟩:=y
  unfold msV at hgm
  dsimp only at hgm hva hv0
  unfold bxC
  generalize hO:nuV (ordB b.ads)=O at *
  generalize hMN:nsV (mnsB b.ms b.ads)=MN at *
  refine Gives_in Tryz.func55 rfl Tryz.ntmps55 Tryz.results55 (by kernel_rfl) (by simp) rfl fun Q hQ=>?_
  (have FX:=And.intro hlm (And.intro hln (And.intro hla (And.intro hlw (And.intro hgm (And.intro hga (And.intro hgb hgc))))));repeat'(first|(refine sx ?_ ?_<;>intro h<;>first|(exfalso;omega)|skip)|refine ny ?_|refine WA_block ?_))
  all_goals(try(exfalso;omega))
  refine WA_while (σ:=Nat) [0,1,7,19,20,21] (fun k=>[.bp [.lst (mssV b.ms),.lst (adsV b.ads),.lst O,.lst (rwV (rowsB b.ms b.ads)),.lst MN] 0,.int .i64 i,.int .i64 (valK b l i k),.lst (nsV l),.int .i64 l.length,.int .i64 k]) (fun _=>lend m++[]) (fun k=>k≤b.ads.length) (fun k=>b.ads.length - k) 0 (Nat.zero_le _) (by rw [hv0];exact tv_) rfl ?_
  rintro k hk1 L hL
  simp only [zipT]
  clear FX hga hgb hgc
  have hbd:=valK_bd hb hi hs k hk1
  rcases Nat.lt_or_ge k b.ads.length with hk|hk
  · have hga:=nsV_get (l:=l) (i:=k) (by omega)
    have hgb:=rwV_get (l:=rowsB b.ms b.ads) (i:=k) (by rw [rowsB_length];exact hk)
    rw [rowsB_get hk] at hgb
    have hgc:=nsV_get (l:=rowL b.ms (b.ads.getD k adz).effs) (i:=i) (by rw [rowL_length];exact hi)
    rw [rowL_get hi] at hgc
    have hlr:(nsV (rowL b.ms (b.ads.getD k adz).effs)).length=b.ms.length:=by rw [nsV_length,rowL_length]
    have hgc:(nsV (rowL b.ms (b.ads.getD k adz).effs))[i]?=some [V.int .i64 (byN b k i)]∧(nsV (rowL b.ms (b.ads.getD k adz).effs)).length=b.ms.length:=⟨hgc,hlr⟩
    have hbx:=hb.by_ k i
    have hsk:=hs k hk
    have hmb:=mul_bd (a:=1000) (c:=1000) (by decide) hsk hbx
    have hsu:valK b l i (k+1)=valK b l i k+l.getD k 0 * byN b k i:=rfl
    generalize nsV (rowL b.ms (b.ads.getD k adz).effs)=RL at *
    generalize byN b k i=by' at *
    generalize l.getD k 0=sk at *
    generalize hvk:valK b l i k=vk at *
    (have FX:=And.intro hlm (And.intro hln (And.intro hla (And.intro hlw (And.intro hgm (And.intro hga (And.intro hgb hgc))))));repeat'(first|(refine sx ?_ ?_<;>intro h<;>first|(exfalso;omega)|skip)|refine ny ?_|refine WA_block ?_))
    all_goals(try(exfalso;omega))
    all_goals(refine next_ hL (k+1) hk (by omega) (by rw [hsu];exact tv_))
  · obtain rfl:k=b.ads.length:=by omega
    have hga:=hla
    have hgb:=hla
    have hgc:=hla
    rw [hvn] at hQ
    (have FX:=And.intro hlm (And.intro hln (And.intro hla (And.intro hlw (And.intro hgm (And.intro hga (And.intro hgb hgc))))));repeat'(first|(refine sx ?_ ?_<;>intro h<;>first|(exfalso;omega)|skip)|refine ny ?_|refine WA_block ?_))
    all_goals(try(exfalso;omega))
    all_goals((refine r_es hQ ?_;try with_reducible rfl))
theorem bxC_plain(b:BnR):plainL (bxC b)=true:=by
  simp [bxC,plainL,V.plain,mssV_plain,adsV_plain,nuV_plain,rwV_plain,nsV_plain]
theorem frz_clo2{m0:Mem}{fn:Fn}{s1 s2:Sta}{t1 t2 z1 z2:Nat}{cs:List V}{es:List (List V)}(h1:plainL cs=true)(h2:plainLL es=true):frz (lend m0++[.cells s1 t1 z1 [[.bp cs 0]],.cells s2 t2 z2 [[.lst es]]]) m0.length 4 (.clo fn [] [.ptr (lend m0).length 0 0,.ptr ((lend m0).length+1) 0 0])=some (.clo fn [] [.bp [.bp cs 0] 0,.bp [.lst es] 0]):=by
  have hl:(lend m0).length=m0.length:=by simp [lend]
  have g1:¬ (lend m0).length<m0.length:=by omega
  have g2:¬ (lend m0).length+1<m0.length:=by omega
  have e1:(lend m0++[Blk.cells s1 t1 z1 [[.bp cs 0]],.cells s2 t2 z2 [[.lst es]]])[(lend m0).length]?=some (.cells s1 t1 z1 [[.bp cs 0]]):=by
    rw [List.getElem?_append_right (Nat.le_refl _),Nat.sub_self];rfl
  have e2:(lend m0++[Blk.cells s1 t1 z1 [[.bp cs 0]],.cells s2 t2 z2 [[.lst es]]])[(lend m0).length+1]?=some (.cells s2 t2 z2 [[.lst es]]):=by
    rw [List.getElem?_append_right (by omega),Nat.add_sub_cancel_left];rfl
  simp only [frz,V.plain,plainL,Bool.false_and,Bool.and_false,Bool.false_eq_true,if_false,frzs,g1,g2,e1,e2,List.getElem?_cons_zero,h1,h2,if_true,Option.map_some]

theorem gbroken_c(b:BnR)(l:List Int)(m:Mem):Gives Tryz.prog 96 [.bp (bxC b) 0,.lst (nsV l)] m (.clo (.func 115) [] [.bp [.bp (bxC b) 0] 0,.bp [.lst (nsV l)] 0]):=by
  refine CallA_in Tryz.func96 rfl Tryz.ntmps96 Tryz.results96 (by kernel_rfl) (by simp) fun Q hQ=>?_
  (repeat'(first|(refine sx ?_ ?_<;>intro h<;>first|(exfalso;omega)|skip)|refine ny ?_|refine WA_block ?_))
  all_goals(refine r_esA hQ (.inr ⟨_,_,rfl,frz_clo2 (bxC_plain b) (nsV_plain l),⟨rfl,rfl⟩⟩))
theorem uB13_115_3{N:Nat}{l:List Oper}{t:List (Nat×V)}{m:Mem}{Q:Exit→List (Nat×V)→Mem→Prop}(h:RgN Tryz.prog N l t m Q (fun i=>if i==13 then .w else if i==14 then .a else if i==0 || i==2 || i==3 || i==5 || i==7 || i==8 || i==9 then .q else .p) [.one 0,.one 1,.one 2,.one 3,.one 4,.one 5,.one 6,.one 7,.one 8,.one 9,.one 10,.one 11,.one 12,.one 13,.one 14,.one 15]):WA Tryz.prog N (.region 3 l.toArray true) t m Q:=d_rgN h
/-- .. told to one who does not go on behind the first -/
theorem gbroken1_stop(b:BnR)(hb:Bnd b)(l:List Int)(hl:l.length=b.ads.length)(hs:∀ k,k<b.ads.length→ -1000≤l.getD k 0∧l.getD k 0≤1000)(lp:Nat)(M:Mem)(R:V→Option Mem→Prop)
    (hn:brkP b l b.ms.length=[]→R (.tup []) (some (M++[])))
    (hy:∀ i,i<b.ms.length→brkP b l i=[]→brkB b l i=true→∀ x,YieldA Tryz.prog lp [.int .i64 i] (M++[x]) (fun v mo=>v= .bool false∧∃ m',mo=some m'∧R (.tup []) (some m'))):
    CallA Tryz.prog 115 [.clo (.yield lp) [] [],.bp [.bp (bxC b) 0] 0,.bp [.lst (nsV l)] 0] M R:=by
  have hlm:=mssV_length (l:=b.ms)
  have hga:=hlm
  have hval:=hlm
  have hms:=hb.fm
  refine CallA_inD Tryz.func115 rfl Tryz.ntmps115 Tryz.results115 (by kernel_rfl) (by simp) fun Q hQ=>?_
  have hbx:bxC b=[.lst (mssV b.ms),.lst (adsV b.ads),.lst (nuV (ordB b.ads)),.lst (rwV (rowsB b.ms b.ads)),.lst (nsV (mnsB b.ms b.ads))]:=rfl
  have hval0:=fun(i:Nat) (hi:i<b.ms.length) m=>gvalue_c b hb l hl hs i hi m
  rw [hbx] at hval0 ⊢
  generalize nuV (ordB b.ads)=O at *
  generalize rwV (rowsB b.ms b.ads)=RW at *
  generalize nsV (mnsB b.ms b.ads)=MN at *
  (have FX:=And.intro hlm hga;repeat'(first|(refine sx ?_ ?_<;>intro h<;>first|(exfalso;omega)|skip)|(refine g_op ?_;refine g_call ?_;refine g_args ?_;(first|refine s_fn (hval _) ?_|refine s_fn (gwithin_c _ _ _ _) ?_)<;>try first|omega|assumption)|refine ny ?_|refine WA_block ?_|(refine uB13_115_3 ?_;refine⟨by kernel_rfl,?_⟩)|((first|refine grp_cons (fun _=>hval _) ?_|refine grp_cons (fun _=>gwithin_c _ _ _ _) ?_)<;>try first|omega|assumption)|(refine g_d ?_;refine d_args ?_;(first|refine d_fn (hval _) ?_|refine d_fn (gwithin_c _ _ _ _) ?_|refine d_fnQ (fun _=>hval _) ?_|refine d_fnQ (fun _=>gwithin_c _ _ _ _) ?_)<;>try first|omega|assumption)|(refine g_d ?_;(first|refine d_fnY (hval _) ?_|refine d_fnY (gwithin_c _ _ _ _) ?_)<;>try first|omega|assumption)))
  all_goals(try(exfalso;omega))
  refine WA_whileP (σ:=Nat) (M:=M) [0,1,2,10,11,12] (fun i=>[.clo (.yield lp) [] [],.bp [.bp [.lst (mssV b.ms),.lst (adsV b.ads),.lst O,.lst RW,.lst MN] 0] 0,.bp [.lst (nsV l)] 0,.lst (mssV b.ms),.int .i64 b.ms.length,.int .i64 i]) (fun _=>[]) 0 (fun i=>i≤b.ms.length∧brkP b l i=[]) (fun i=>b.ms.length - i) 0 ⟨Nat.zero_le _,rfl⟩ tv_ (by simp) (fun _=>rfl) (by intro s s' _ _;simp [conB,conS,V.keeps,V.plain,Blk.flat,flatL,plainL,V.flat]) (by intro s s' _ _;simp [conB,conS,V.keeps,V.plain,Blk.flat,flatL,plainL,V.flat]) ?_
  rintro i ⟨hi1,hi2⟩ K hK
  simp only [zipT]
  clear FX hga hval
  rcases Nat.lt_or_ge i b.ms.length with hi|hi
  · have hga:=mssV_get hi
    have hval:=hval0 i hi
    have hbr:brkB b l i=!decide ((b.ms.getD i msz).low≤valP b l i∧valP b l i≤(b.ms.getD i msz).high):=rfl
    have hsu:brkB b l i=false→brkP b l (i+1)=[]:=fun h=>by rw [brkP_succ,if_neg (by rw [h];decide)];exact hi2
    have hyi:=hy i hi hi2
    generalize valP b l i=vi at *
    generalize b.ms.getD i msz=x at *
    obtain⟨nm,va,lo,hg⟩:=x
    unfold msV at hga
    dsimp only at hga hbr
    (have FX:=And.intro hlm hga;repeat'(first|(refine sx ?_ ?_<;>intro h<;>first|(exfalso;omega)|skip)|(refine g_op ?_;refine g_call ?_;refine g_args ?_;(first|refine s_fn (hval _) ?_|refine s_fn (gwithin_c _ _ _ _) ?_)<;>try first|omega|assumption)|refine ny ?_|refine WA_block ?_|(refine uB13_115_3 ?_;refine⟨by kernel_rfl,?_⟩)|((first|refine grp_cons (fun _=>hval _) ?_|refine grp_cons (fun _=>gwithin_c _ _ _ _) ?_)<;>try first|omega|assumption)|(refine g_d ?_;refine d_args ?_;(first|refine d_fn (hval _) ?_|refine d_fn (gwithin_c _ _ _ _) ?_|refine d_fnQ (fun _=>hval _) ?_|refine d_fnQ (fun _=>gwithin_c _ _ _ _) ?_)<;>try first|omega|assumption)|(refine g_d ?_;(first|refine d_fnY (hval _) ?_|refine d_fnY (gwithin_c _ _ _ _) ?_)<;>try first|omega|assumption)))
    all_goals(try(exfalso;omega))
    all_goals try
      (refine nextP_ hK (i+1) ⟨hi,hsu (by rw [hbr,decide_eq_true (by assumption)];rfl)⟩ (by omega)
       done)
    refine g_d ?_
    refine d_yldY ((hyi (by rw [hbr,decide_eq_false (by assumption)];rfl) _).mono ?_)
    rintro v mo ⟨rfl,m',rfl,hR⟩
    simp only [Option.getD_some]
    (have FX:=And.intro hlm hga;repeat'(first|(refine sx ?_ ?_<;>intro h<;>first|(exfalso;omega)|skip)|(refine g_op ?_;refine g_call ?_;refine g_args ?_;(first|refine s_fn (hval _) ?_|refine s_fn (gwithin_c _ _ _ _) ?_)<;>try first|omega|assumption)|refine ny ?_|refine WA_block ?_|(refine uB13_115_3 ?_;refine⟨by kernel_rfl,?_⟩)|((first|refine grp_cons (fun _=>hval _) ?_|refine grp_cons (fun _=>gwithin_c _ _ _ _) ?_)<;>try first|omega|assumption)|(refine g_d ?_;refine d_args ?_;(first|refine d_fn (hval _) ?_|refine d_fn (gwithin_c _ _ _ _) ?_|refine d_fnQ (fun _=>hval _) ?_|refine d_fnQ (fun _=>gwithin_c _ _ _ _) ?_)<;>try first|omega|assumption)|(refine g_d ?_;(first|refine d_fnY (hval _) ?_|refine d_fnY (gwithin_c _ _ _ _) ?_)<;>try first|omega|assumption)))
    all_goals(exact hQ _ _ _ (.inr rfl) _ rfl hR)
  · obtain rfl:i=b.ms.length:=by omega
    have hga:=hlm
    have hval:=hlm
    (have FX:=And.intro hlm hga;repeat'(first|(refine sx ?_ ?_<;>intro h<;>first|(exfalso;omega)|skip)|(refine g_op ?_;refine g_call ?_;refine g_args ?_;(first|refine s_fn (hval _) ?_|refine s_fn (gwithin_c _ _ _ _) ?_)<;>try first|omega|assumption)|refine ny ?_|refine WA_block ?_|(refine uB13_115_3 ?_;refine⟨by kernel_rfl,?_⟩)|((first|refine grp_cons (fun _=>hval _) ?_|refine grp_cons (fun _=>gwithin_c _ _ _ _) ?_)<;>try first|omega|assumption)|(refine g_d ?_;refine d_args ?_;(first|refine d_fn (hval _) ?_|refine d_fn (gwithin_c _ _ _ _) ?_|refine d_fnQ (fun _=>hval _) ?_|refine d_fnQ (fun _=>gwithin_c _ _ _ _) ?_)<;>try first|omega|assumption)|(refine g_d ?_;(first|refine d_fnY (hval _) ?_|refine d_fnY (gwithin_c _ _ _ _) ?_)<;>try first|omega|assumption)))
    all_goals(try(exfalso;omega))
    all_goals(exact hQ _ _ _ (by first|exact .inl rfl|exact .inr rfl) _ rfl (hn hi2))
theorem at_mid{A X:Mem}{x:Blk}:(A++x::X)[A.length]?=some x:=by simp
theorem app_mid{A:Mem}{x y:Blk}:A++[y]++[x]=A++y::[x]:=by simp
theorem brk_ne{b:BnR}{l:List Int}{n i:Nat}(hi:i<n)(h:brkB b l i=true):brkP b l n≠[]:=by
  intro e
  have:i∈brkP b l n:=List.mem_filter.2 ⟨List.mem_range.2 hi,h⟩
  rw [e] at this
  cases this

theorem gholds_c(b:BnR)(hb:Bnd b)(l:List Int)(hl:l.length=b.ads.length)(hs:∀ k,k<b.ads.length→ -1000≤l.getD k 0∧l.getD k 0≤1000)(m:Mem):Gives Tryz.prog 61 [.bp (bxC b) 0,.lst (nsV l)] m (.bool (decide (brkP b l b.ms.length=[]))):=by
  have FX:=hl
  refine Gives_in Tryz.func61 rfl Tryz.ntmps61 Tryz.results61 (by kernel_rfl) (by simp) rfl fun Q hQ=>?_
  (repeat'(first|(refine sx ?_ ?_<;>intro h<;>first|(exfalso;omega)|skip)|(refine g_op ?_;refine g_call ?_;refine g_args ?_;(first|refine s_fn (gbroken_c b l _) ?_)<;>try first|omega|assumption)|refine ny ?_|refine WA_block ?_))
  refine WA_rf (fun m'=>brkP b l b.ms.length=[]∧m'=lend m++[.cells .own 4 1 [[.bool false]],.dead]) (fun c m'=>c= .ret∧brkP b l b.ms.length≠[]∧∃ x,m'=lend m++[.cells .own 4 1 [[.bool false]],.dead,x]) (fun lp=>?_) (fun m' hm=>?_) (fun c m' hm=>?_)
  · refine gbroken1_stop b hb l hl hs lp _ _ ?_ ?_
    · intro h
      exact⟨.ready,none,_,rfl,by simp,by decide,fun _=>⟨h,by simp⟩,fun c hc=>by cases hc⟩
    · intro i hi h0 h1 x
      have hne:brkP b l b.ms.length≠[]:=brk_ne hi h1
      rw [app_mid]
      refine YieldA_in rfl (by simp) rfl ?_
      refine WA_skip ⟨rfl,at_mid,?_⟩
      simp only [setPs,List.append_assoc,List.cons_append,List.nil_append]
      (repeat'(first|(refine sx ?_ ?_<;>intro h<;>first|(exfalso;omega)|skip)|(refine g_op ?_;refine g_call ?_;refine g_args ?_;(first|refine s_fn (gbroken_c b l _) ?_)<;>try first|omega|assumption)|refine ny ?_|refine WA_block ?_))
      refine roundQ_ret (A:=lend m++[.cells .own 4 1 [[.bool false]]]) (X:=[x]) (by simp only [List.append_assoc,List.cons_append,List.nil_append];rfl) (by simp) ?_
      exact⟨rfl,_,rfl,.done,some .ret,_,rfl,by simp,by decide,(fun h=>by cases h),fun c hc=>⟨(by cases hc;rfl),hne,x,by simp⟩⟩
  · obtain⟨h0,rfl⟩:=hm
    rw [decide_eq_true h0] at hQ
    (repeat'(first|(refine sx ?_ ?_<;>intro h<;>first|(exfalso;omega)|skip)|(refine g_op ?_;refine g_call ?_;refine g_args ?_;(first|refine s_fn (gbroken_c b l _) ?_)<;>try first|omega|assumption)|refine ny ?_|refine WA_block ?_))
    all_goals(refine r_es hQ ?_;try with_reducible rfl)
  · obtain⟨rfl,h0,x,rfl⟩:=hm
    rw [decide_eq_false h0] at hQ
    (repeat'(first|(refine sx ?_ ?_<;>intro h<;>first|(exfalso;omega)|skip)|(refine g_op ?_;refine g_call ?_;refine g_args ?_;(first|refine s_fn (gbroken_c b l _) ?_)<;>try first|omega|assumption)|refine ny ?_|refine WA_block ?_))
    all_goals(refine r_es hQ ?_;try with_reducible rfl)
end Go.Proofs.YtookikhphobnlaaGreatDoor
