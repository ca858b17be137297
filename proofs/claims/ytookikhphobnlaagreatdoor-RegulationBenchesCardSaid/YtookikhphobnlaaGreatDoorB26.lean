/- contract: a bench is copied -/
import Derived.Test.YtookikhphobnlaaGreatDoorB14
import Derived.Test.YtookikhphobnlaaGreatDoorNZ
import Derived.Test.YtookikhphobnlaaGreatDoorB9
set_option linter.unusedSimpArgs false
set_option linter.unusedVariables false
namespace Go.Proofs.YtookikhphobnlaaGreatDoor
open Go.RowKit
attribute [local irreducible] WA WOs WDs WAn qThen qBlock tput
set_option maxHeartbeats 1000000
set_option maxRecDepth 20000
set_option linter.unusedSimpArgs false
set_option linter.unusedVariables false
set_option maxHeartbeats 4000000

theorem bcopytexts_c(l:List Txt)(hl:l.length≤100000)(m:Mem):Gives Tryz.prog 41 [.lst (tsV l)] m (.lst (tsV l)):=by
  have hla:(tsV l).length=l.length:=tsV_length
  have hal:∀ n,n=1→(tsV l).all (fun e=>e.length==n)=true:=fun n h=>tsV_all h
  have htk:(tsV l).take l.length=tsV l:=List.take_of_length_le (by rw [hla];exact Nat.le_refl _)
  have hp:=tsV_plain l
  refine CallA_in Tryz.func41 rfl Tryz.ntmps41 Tryz.results41 (by kernel_rfl) (by simp) fun Q hQ=>?_
  (have FX:=And.intro hla hal;repeat'(first|(refine sx ?_ ?_<;>intro h<;>first|(exfalso;omega)|skip)|refine ny ?_|refine WA_block ?_))
  all_goals(try(exfalso;omega))
  all_goals(refine r_esA hQ (fin_sl (D:=[]) (B:=lend m) (j:=1) (by simp) rfl (by rw [hla];exact Nat.le_refl _) (by rw [htk];exact hp) ⟨by rw [htk],rfl⟩))
theorem mssV_frz(b:Nat)(es:List (List V))(l:List MsR):(mssV l).map (List.map (frzV b es))=mssV l:=by
  simp [mssV,msV,frzV]
theorem adsV_frz(b:Nat)(es:List (List V))(l:List AdR):(adsV l).map (List.map (frzV b es))=adsV l:=by
  simp [adsV,adV,frzV]
theorem efsV_frz(b:Nat)(es:List (List V))(l:List EfR):(efsV l).map (List.map (frzV b es))=efsV l:=by
  simp [efsV,efV,frzV]
theorem fin_agl{m0 D X B:Mem}{j k:Nat}{st:Sta}{ty sz:Nat}{l es:List (List V)}{R:V→Option Mem→Prop}(hB:B=lend m0++D)(hl:plainLL l=true)(hX:X[j]?=some (.cells st ty sz es))(hk:k≤es.length)(hp:plainLL (es.take k)=true)(h:R (.agg [.lst l,.lst (es.take k)]) none):
    Fin m0 R (.agg [.lst l,.sl (B.length+j) k]) (B++X):=by
  subst hB
  refine .inr ⟨D++X,_,by simp,?_,h⟩
  show(frzs (frz _ _ 3) _).map V.agg=_
  rw [frzs_cons (frz_ls hl) (frzs_cons (frz_sl (n:=2) hX hk hp) rfl)]
  rfl
theorem fin_agn{m0 D X B:Mem}{l:List (List V)}{R:V→Option Mem→Prop}(hB:B=lend m0++D)(hl:plainLL l=true)(h:R (.agg [.lst l,.nilsl]) none):
    Fin m0 R (.agg [.lst l,.nilsl]) (B++X):=by
  subst hB
  refine .inr ⟨D++X,_,by simp,?_,h⟩
  show(frzs (frz _ _ 3) _).map V.agg=_
  rw [frzs_cons (frz_ls hl) (frzs_cons frz_nl rfl)]
  rfl
def cpyE(b:BnR):Nat→List TB
  |0=>[benT b,.cells .own 28 2 [[.v .nilsl,.v .nilsl]],.cells .own 28 2 [[.v (.lst (mssV b.ms)),.v .nilsl]]]
  |k+1=>[benT b,.cells .own 28 2 [[.v .nilsl,.v .nilsl]],.cells .own 28 2 [[.v (.lst (mssV b.ms)),.sl 3 (k+1)]],.cells .own 78 6 ((adsV (b.ads.take (k+1))).map (List.map TV.v))]
def cpyS(i:Nat):List TV:=[.ptr 0 0 0,.ptr 1 0 0,.ptr 2 0 0,.v (.int .i64 i)]
theorem cpyE_ok{b:BnR}{k:Nat}:(cpyE b k).all (TB.ok (cpyE b k).length)=true:=by
  cases k with
  |zero=>simp [cpyE,benT,TB.ok,TV.okT]
  |succ k=>simp only [cpyE,benT,List.all_cons,TB.ok,TV.okT,List.all_nil,Bool.and_true,Bool.and_self,tvs_ok,List.length_cons,List.length_nil];decide
theorem cpyS_ok{b:BnR}{k i:Nat}:(cpyS i).all (TV.okT (cpyE b k).length)=true:=by
  cases k with
  |zero=>simp [cpyS,cpyE,TV.okT]
  |succ k=>simp [cpyS,cpyE,TV.okT]
theorem uB26_16_6{N:Nat}{l:List Oper}{t:List (Nat×V)}{m:Mem}{Q:Exit→List (Nat×V)→Mem→Prop}(h:RgN Tryz.prog N l t m Q (fun i=>if i==8 || i==10 then .w else if i==3 then .f else if i==0 || i==6 then .a else if i==2 || i==5 then .q else .p) [.one 1,.one 2,.one 4,.one 5,.one 0,.one 3,.one 7,.one 6,.one 8,.one 9,.one 10]):WA Tryz.prog N (.region 6 l.toArray true) t m Q:=d_rgN h
theorem rcopy_c(b:BnR)(hb:Bl b)(m:Mem):Gives Tryz.prog 16 [.agg [.lst (mssV b.ms),.lst (adsV b.ads)]] m (.agg [.lst (mssV b.ms),.lst (adsV b.ads)]):=by
  have hlm:=mssV_length (l:=b.ms)
  have hla:=adsV_length (l:=b.ads)
  have hma:=fun n h=>mssV_all (l:=b.ms) (n:=n) h
  have hbm:=hb.nm
  have hba:=hb.na
  have hga:=hla
  have hle:=hla
  have hea:=hla
  have hll:=hla
  have hlt:=hla
  have hct:=hla
  suffices key:CallA Tryz.prog 16 [.agg [.lst (mssV b.ms),.lst (adsV b.ads)]] m (fun v mo=>mo=none∧WkV v (.agg [.lst (mssV b.ms),.lst (adsV b.ads)])) from Gives_of key fun v mo h=>h
  refine CallA_in Tryz.func16 rfl Tryz.ntmps16 Tryz.results16 (by kernel_rfl) (by simp) fun Q hQ=>?_
  refine WA_stop fun K0 hK0=>?_
  (have FX:=And.intro hlm (And.intro hla (And.intro hma (And.intro hga (And.intro hle (And.intro hea (And.intro hll hlt))))));repeat'(first|(refine sx ?_ ?_<;>intro h<;>first|(exfalso;omega)|skip)|(refine g_op ?_;refine g_call ?_;refine g_args ?_;(first|refine s_fn (hct _) ?_)<;>try first|omega|assumption)|refine ny ?_|refine WA_block ?_|(refine uB26_16_6 ?_;refine⟨by kernel_rfl,?_⟩)|((first|refine grp_cons (fun _=>hct _) ?_)<;>try first|omega|assumption)|(refine g_d ?_;refine d_args ?_;(first|refine d_fn (hct _) ?_|refine d_fnQ (fun _=>hct _) ?_)<;>try first|omega|assumption)|(refine g_d ?_;(first|refine d_fnY (hct _) ?_)<;>try first|omega|assumption)))
  refine hK0 _ _ ?_
  refine WA_stop fun K1 hK1=>?_
  (have FX:=And.intro hlm (And.intro hla (And.intro hma (And.intro hga (And.intro hle (And.intro hea (And.intro hll hlt))))));repeat'(first|(refine sx ?_ ?_<;>intro h<;>first|(exfalso;omega)|skip)|(refine g_op ?_;refine g_call ?_;refine g_args ?_;(first|refine s_fn (hct _) ?_)<;>try first|omega|assumption)|refine ny ?_|refine WA_block ?_|(refine uB26_16_6 ?_;refine⟨by kernel_rfl,?_⟩)|((first|refine grp_cons (fun _=>hct _) ?_)<;>try first|omega|assumption)|(refine g_d ?_;refine d_args ?_;(first|refine d_fn (hct _) ?_|refine d_fnQ (fun _=>hct _) ?_)<;>try first|omega|assumption)|(refine g_d ?_;(first|refine d_fnY (hct _) ?_)<;>try first|omega|assumption)))
  all_goals(try(exfalso;omega))
  refine hK1 _ _ ?_
  refine WA_fzM (j:=3) rfl ?_
  simp only [List.map_cons,List.map_nil,frzV,frzC,List.set_cons_succ,List.set_cons_zero,argT]
  rw [if_pos ⟨by first|rfl|trivial|omega,by rw [hlm];exact Nat.le_refl _⟩,List.take_of_length_le (by rw [hlm];exact Nat.le_refl _)]
  clear hK0 hK1 FX
  have FX:=hla
  (have FX:=And.intro hlm (And.intro hla (And.intro hma (And.intro hga (And.intro hle (And.intro hea (And.intro hll hlt))))));repeat'(first|(refine sx ?_ ?_<;>intro h<;>first|(exfalso;omega)|skip)|(refine g_op ?_;refine g_call ?_;refine g_args ?_;(first|refine s_fn (hct _) ?_)<;>try first|omega|assumption)|refine ny ?_|refine WA_block ?_|(refine uB26_16_6 ?_;refine⟨by kernel_rfl,?_⟩)|((first|refine grp_cons (fun _=>hct _) ?_)<;>try first|omega|assumption)|(refine g_d ?_;refine d_args ?_;(first|refine d_fn (hct _) ?_|refine d_fnQ (fun _=>hct _) ?_)<;>try first|omega|assumption)|(refine g_d ?_;(first|refine d_fnY (hct _) ?_)<;>try first|omega|assumption)))
  refine WA_whileJ (σ:=Nat) (L:=lend m) (X:=[.cells .own 28 2 [[.lst (mssV b.ms),.lst (adsV b.ads)]],.cells .own 28 2 [[.nilsl,.nilsl]],.dead,.cells .ro 75 4 ((mssV b.ms).map (List.map (frzV ((lend m).length+3) (mssV b.ms)))),.cells .own 28 2 [[.lst (mssV b.ms),.nilsl]]]) [1,2,3,4] (fun i=>cpyS i) (fun i=>cpyE b i) (fun i=>i≤b.ads.length) (fun i=>b.ads.length - i) 0 [0,1,4] (Nat.zero_le _) ?_ rfl rfl (by decide) (by decide) (fun _ _=>cpyS_ok) (fun _ _=>cpyE_ok) ?_
  · exact tv_
  rintro i hi1 B ⟨D,hB⟩ K hK
  clear FX hga hle hea hll hlt hct
  rcases Nat.lt_or_ge i b.ads.length with hi|hi
  · have hga:=adsV_get hi
    have hxa:=hb.ae i hi
    have hxb:=hb.aa i hi
    have hct:=fun m=>bcopytexts_c (b.ads.getD i adz).after (by omega) m
    have hle:=efsV_length (l:=(b.ads.getD i adz).effs)
    have hea:=fun n h=>efsV_all (l:=(b.ads.getD i adz).effs) (n:=n) h
    have hsn:adsV (b.ads.take (i+1))=adsV (b.ads.take i)++[adV (b.ads.getD i adz)]:=by
      rw [List.take_succ_eq_append_getElem hi]
      have:b.ads.getD i adz=b.ads[i]:=by rw [List.getD_eq_getElem?_getD,List.getElem?_eq_getElem hi];rfl
      rw [this];simp only [adsV,List.map_append,List.map_cons,List.map_nil]
    generalize b.ads.getD i adz=x at *
    unfold adV at hga hsn
    have hnx:=hK (i+1)
    have hny:=fun(_:Unit)=>hnx
    clear hnx hK
    cases i with
    | zero=>
      have hll:=hla
      have hlt:=hla
      simp only [cpyS,cpyE,benT]
      simp only [List.map_cons,List.map_nil,TB.inst,TV.inst,tv_map,zipT,List.cons_append,List.nil_append,Nat.add_zero]
      (repeat'(first|(refine sx ?_ ?_<;>intro h<;>first|(exfalso;omega)|skip)|(refine g_op ?_;refine g_call ?_;refine g_args ?_;(first|refine s_fn (hct _) ?_)<;>try first|omega|assumption)|refine ny ?_|(refine uB26_16_6 ?_;refine⟨by kernel_rfl,?_⟩)|((first|refine grp_cons (fun _=>hct _) ?_)<;>try first|omega|assumption)|(refine g_d ?_;refine d_args ?_;(first|refine d_fn (hct _) ?_|refine d_fnQ (fun _=>hct _) ?_)<;>try first|omega|assumption)|(refine g_d ?_;(first|refine d_fnY (hct _) ?_)<;>try first|omega|assumption)|fail))
      all_goals(try(exfalso;omega))
      refine WA_block ?_
      refine WA_stop fun K2 hK2=>?_
      (have FX:=And.intro hlm (And.intro hla (And.intro hma (And.intro hga (And.intro hle (And.intro hea (And.intro hll hlt))))));repeat'(first|(refine sx ?_ ?_<;>intro h<;>first|(exfalso;omega)|skip)|(refine g_op ?_;refine g_call ?_;refine g_args ?_;(first|refine s_fn (hct _) ?_)<;>try first|omega|assumption)|refine ny ?_|refine WA_block ?_|(refine uB26_16_6 ?_;refine⟨by kernel_rfl,?_⟩)|((first|refine grp_cons (fun _=>hct _) ?_)<;>try first|omega|assumption)|(refine g_d ?_;refine d_args ?_;(first|refine d_fn (hct _) ?_|refine d_fnQ (fun _=>hct _) ?_)<;>try first|omega|assumption)|(refine g_d ?_;(first|refine d_fnY (hct _) ?_)<;>try first|omega|assumption)))
      refine hK2 _ _ ?_
      clear hK2
      refine WA_stop fun K3 hK3=>?_
      (have FX:=And.intro hlm (And.intro hla (And.intro hma (And.intro hga (And.intro hle (And.intro hea (And.intro hll hlt))))));repeat'(first|(refine sx ?_ ?_<;>intro h<;>first|(exfalso;omega)|skip)|(refine g_op ?_;refine g_call ?_;refine g_args ?_;(first|refine s_fn (hct _) ?_)<;>try first|omega|assumption)|refine ny ?_|refine WA_block ?_|(refine uB26_16_6 ?_;refine⟨by kernel_rfl,?_⟩)|((first|refine grp_cons (fun _=>hct _) ?_)<;>try first|omega|assumption)|(refine g_d ?_;refine d_args ?_;(first|refine d_fn (hct _) ?_|refine d_fnQ (fun _=>hct _) ?_)<;>try first|omega|assumption)|(refine g_d ?_;(first|refine d_fnY (hct _) ?_)<;>try first|omega|assumption)))
      all_goals(try(exfalso;omega))
      refine hK3 _ _ ?_
      clear hK3
      refine WA_fzM (j:=5) rfl ?_
      simp only [List.map_cons,List.map_nil,frzV,frzC,List.set_cons_succ,List.set_cons_zero]
      rw [if_pos ⟨by first|rfl|trivial|omega,by rw [hle];exact Nat.le_refl _⟩,List.take_of_length_le (by rw [hle];exact Nat.le_refl _)]
      simp only [efsV_frz]
      clear FX
      (have FX:=And.intro hlm (And.intro hla (And.intro hma (And.intro hga (And.intro hle (And.intro hea (And.intro hll hlt))))));repeat'(first|(refine sx ?_ ?_<;>intro h<;>first|(exfalso;omega)|skip)|(refine g_op ?_;refine g_call ?_;refine g_args ?_;(first|refine s_fn (hct _) ?_)<;>try first|omega|assumption)|refine ny ?_|refine WA_block ?_|(refine uB26_16_6 ?_;refine⟨by kernel_rfl,?_⟩)|((first|refine grp_cons (fun _=>hct _) ?_)<;>try first|omega|assumption)|(refine g_d ?_;refine d_args ?_;(first|refine d_fn (hct _) ?_|refine d_fnQ (fun _=>hct _) ?_)<;>try first|omega|assumption)|(refine g_d ?_;(first|refine d_fnY (hct _) ?_)<;>try first|omega|assumption)))
      (refine nextU_ hny (()) [0,1,2,7] (by omega) (by omega) ?_ (ht:=?_);(focus (simp only [cpyE,benT,hsn,List.map_cons,List.map_nil,TB.inst,TV.inst,tv_map,List.cons_append,List.nil_append];first|rfl|(simp [ptsV,ptV];done)|(simp [hpsV,hpV];done)|(simp [frsV,frV];done)|(simp [txV];done)|(simp [prtsV,prtV];done)));(simp only [cpyS,List.map_cons,List.map_nil,TV.inst,List.getD_cons_zero,List.getD_cons_succ];exact tv_))
    | succ i=>
      have hll:(adsV (b.ads.take (i+1))).length=i+1:=by rw [adsV_length,List.length_take];omega
      have hlt:(adsV (b.ads.take (i+1))).take (i+1)=adsV (b.ads.take (i+1)):=by rw [List.take_of_length_le (by rw [hll];exact Nat.le_refl _)]
      simp only [cpyS,cpyE,benT]
      simp only [List.map_cons,List.map_nil,TB.inst,TV.inst,tv_map,zipT,List.cons_append,List.nil_append,Nat.add_zero]
      (repeat'(first|(refine sx ?_ ?_<;>intro h<;>first|(exfalso;omega)|skip)|(refine g_op ?_;refine g_call ?_;refine g_args ?_;(first|refine s_fn (hct _) ?_)<;>try first|omega|assumption)|refine ny ?_|(refine uB26_16_6 ?_;refine⟨by kernel_rfl,?_⟩)|((first|refine grp_cons (fun _=>hct _) ?_)<;>try first|omega|assumption)|(refine g_d ?_;refine d_args ?_;(first|refine d_fn (hct _) ?_|refine d_fnQ (fun _=>hct _) ?_)<;>try first|omega|assumption)|(refine g_d ?_;(first|refine d_fnY (hct _) ?_)<;>try first|omega|assumption)|fail))
      all_goals(try(exfalso;omega))
      refine WA_block ?_
      refine WA_stop fun K2 hK2=>?_
      (have FX:=And.intro hlm (And.intro hla (And.intro hma (And.intro hga (And.intro hle (And.intro hea (And.intro hll hlt))))));repeat'(first|(refine sx ?_ ?_<;>intro h<;>first|(exfalso;omega)|skip)|(refine g_op ?_;refine g_call ?_;refine g_args ?_;(first|refine s_fn (hct _) ?_)<;>try first|omega|assumption)|refine ny ?_|refine WA_block ?_|(refine uB26_16_6 ?_;refine⟨by kernel_rfl,?_⟩)|((first|refine grp_cons (fun _=>hct _) ?_)<;>try first|omega|assumption)|(refine g_d ?_;refine d_args ?_;(first|refine d_fn (hct _) ?_|refine d_fnQ (fun _=>hct _) ?_)<;>try first|omega|assumption)|(refine g_d ?_;(first|refine d_fnY (hct _) ?_)<;>try first|omega|assumption)))
      refine hK2 _ _ ?_
      clear hK2
      refine WA_stop fun K3 hK3=>?_
      (have FX:=And.intro hlm (And.intro hla (And.intro hma (And.intro hga (And.intro hle (And.intro hea (And.intro hll hlt))))));repeat'(first|(refine sx ?_ ?_<;>intro h<;>first|(exfalso;omega)|skip)|(refine g_op ?_;refine g_call ?_;refine g_args ?_;(first|refine s_fn (hct _) ?_)<;>try first|omega|assumption)|refine ny ?_|refine WA_block ?_|(refine uB26_16_6 ?_;refine⟨by kernel_rfl,?_⟩)|((first|refine grp_cons (fun _=>hct _) ?_)<;>try first|omega|assumption)|(refine g_d ?_;refine d_args ?_;(first|refine d_fn (hct _) ?_|refine d_fnQ (fun _=>hct _) ?_)<;>try first|omega|assumption)|(refine g_d ?_;(first|refine d_fnY (hct _) ?_)<;>try first|omega|assumption)))
      all_goals(try(exfalso;omega))
      refine hK3 _ _ ?_
      clear hK3
      refine WA_fzM (j:=6) rfl ?_
      simp only [List.map_cons,List.map_nil,frzV,frzC,List.set_cons_succ,List.set_cons_zero]
      rw [if_pos ⟨by first|rfl|trivial|omega,by rw [hle];exact Nat.le_refl _⟩,List.take_of_length_le (by rw [hle];exact Nat.le_refl _)]
      simp only [efsV_frz,adsV_frz]
      repeat rw [if_neg (fun h=>absurd h.1 (by omega))]
      clear FX
      (have FX:=And.intro hlm (And.intro hla (And.intro hma (And.intro hga (And.intro hle (And.intro hea (And.intro hll hlt))))));repeat'(first|(refine sx ?_ ?_<;>intro h<;>first|(exfalso;omega)|skip)|(refine g_op ?_;refine g_call ?_;refine g_args ?_;(first|refine s_fn (hct _) ?_)<;>try first|omega|assumption)|refine ny ?_|refine WA_block ?_|(refine uB26_16_6 ?_;refine⟨by kernel_rfl,?_⟩)|((first|refine grp_cons (fun _=>hct _) ?_)<;>try first|omega|assumption)|(refine g_d ?_;refine d_args ?_;(first|refine d_fn (hct _) ?_|refine d_fnQ (fun _=>hct _) ?_)<;>try first|omega|assumption)|(refine g_d ?_;(first|refine d_fnY (hct _) ?_)<;>try first|omega|assumption)))
      (refine nextU_ hny (()) [0,1,2,8] (by omega) (by omega) ?_ (ht:=?_);(focus (simp only [cpyE,benT,hsn,List.map_cons,List.map_nil,TB.inst,TV.inst,tv_map,List.cons_append,List.nil_append];first|rfl|(simp [ptsV,ptV];done)|(simp [hpsV,hpV];done)|(simp [frsV,frV];done)|(simp [txV];done)|(simp [prtsV,prtV];done)));(simp only [cpyS,List.map_cons,List.map_nil,TV.inst,List.getD_cons_zero,List.getD_cons_succ];exact tv_))
  · obtain rfl:i=b.ads.length:=by omega
    cases hk:b.ads.length with
    | zero=>
      simp only [cpyS,cpyE,benT]
      simp only [List.map_cons,List.map_nil,TB.inst,TV.inst,tv_map,zipT,List.cons_append,List.nil_append,Nat.add_zero]
      (have FX:=And.intro hlm (And.intro hla hma);repeat'(first|(refine sx ?_ ?_<;>intro h<;>first|(exfalso;omega)|skip)|(refine g_op ?_;refine g_call ?_;refine g_args ?_;(first|refine s_fn (hct _) ?_)<;>try first|omega|assumption)|refine ny ?_|refine WA_block ?_|(refine uB26_16_6 ?_;refine⟨by kernel_rfl,?_⟩)|((first|refine grp_cons (fun _=>hct _) ?_)<;>try first|omega|assumption)|(refine g_d ?_;refine d_args ?_;(first|refine d_fn (hct _) ?_|refine d_fnQ (fun _=>hct _) ?_)<;>try first|omega|assumption)|(refine g_d ?_;(first|refine d_fnY (hct _) ?_)<;>try first|omega|assumption)))
      all_goals(try(exfalso;omega))
      have ha:b.ads=[]:=List.eq_nil_of_length_eq_zero hk
      refine r_esA hQ (fin_agn hB (mssV_plain _) ⟨rfl,?_⟩)
      rw [ha]
      exact wk_agg ⟨WkV.refl _,wk_nil,trivial⟩
    | succ k=>
      simp only [cpyS,cpyE,benT]
      simp only [List.map_cons,List.map_nil,TB.inst,TV.inst,tv_map,zipT,List.cons_append,List.nil_append,Nat.add_zero]
      (have FX:=And.intro hlm (And.intro hla hma);repeat'(first|(refine sx ?_ ?_<;>intro h<;>first|(exfalso;omega)|skip)|(refine g_op ?_;refine g_call ?_;refine g_args ?_;(first|refine s_fn (hct _) ?_)<;>try first|omega|assumption)|refine ny ?_|refine WA_block ?_|(refine uB26_16_6 ?_;refine⟨by kernel_rfl,?_⟩)|((first|refine grp_cons (fun _=>hct _) ?_)<;>try first|omega|assumption)|(refine g_d ?_;refine d_args ?_;(first|refine d_fn (hct _) ?_|refine d_fnQ (fun _=>hct _) ?_)<;>try first|omega|assumption)|(refine g_d ?_;(first|refine d_fnY (hct _) ?_)<;>try first|omega|assumption)))
      all_goals(try(exfalso;omega))
      have hl1:(adsV (b.ads.take (k+1))).length=k+1:=by rw [adsV_length,List.length_take];omega
      have ht1:(adsV (b.ads.take (k+1))).take (k+1)=adsV b.ads:=by rw [List.take_of_length_le (by rw [hl1];exact Nat.le_refl _),List.take_of_length_le (by omega)]
      refine r_esA hQ (fin_agl (j:=3) hB (mssV_plain _) rfl (by rw [hl1];exact Nat.le_refl _) (by rw [ht1];exact adsV_plain _) ⟨rfl,?_⟩)
      rw [ht1]
      exact WkV.refl _
end Go.Proofs.YtookikhphobnlaaGreatDoor
