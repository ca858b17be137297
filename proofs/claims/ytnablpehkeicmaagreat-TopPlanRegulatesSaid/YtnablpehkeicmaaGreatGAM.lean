import Derived.Test.YtnablpehkeicmaaGreatGAL
import Derived.Test.YtnablpehkeicmaaGreatB17
import Derived.Test.YtnablpehkeicmaaGreatGAK
import Derived.Test.YtnablpehkeicmaaGreatGAI
import Derived.Test.YtnablpehkeicmaaGreatGAG
set_option linter.unusedSimpArgs false
set_option linter.unusedVariables false
/- contract: the chapter's bench -/
namespace Go.Proofs.YtnablpehkeicmaaGreat
open Go.RowKit
attribute [local irreducible] WA WOs WDs WAn qThen qBlock tput
set_option maxHeartbeats 1000000
set_option maxRecDepth 20000
set_option linter.unusedSimpArgs false
set_option linter.unusedVariables false
def exB:BnR:=⟨[⟨[108,101,116,45,111,102,102],30,10,20⟩,⟨[100,114,111,112],5,0,8⟩,⟨[99,97,116,99,104],0, -5,5⟩],
  [⟨[98,117,116,116,111,110],[⟨[108,101,116,45,111,102,102], -4⟩,⟨[100,114,111,112],1⟩], -10,10,2,[]⟩,
   ⟨[115,99,114,101,119],[⟨[100,114,111,112], -2⟩], -3,3,1,[[98,117,116,116,111,110]]⟩,
   ⟨[99,104,101,99,107],[⟨[99,97,116,99,104],5⟩],0,4,4,[]⟩]⟩
def WkLL:List (List V)→List (List V)→Prop
  |[],[]=>True
  |a::r,b::r'=>(WkL a b∧b.all V.one=true)∧WkLL r r'
  |_,_=>False
theorem WkLL_get:∀ {l l':List (List V)},WkLL l l'→l'.length=l.length∧∀ (i:Nat) e',l'[i]?=some e'→∃ e,l[i]?=some e∧WkL e e'∧e'.all V.one=true
  |[],[],_=>⟨rfl,fun i v h=>by simp at h⟩
  | a::r,b::r',h=>by
    obtain⟨h1,h2⟩:=WkLL_get h.2
    refine⟨by simp [h1],fun i v' hv=>?_⟩
    cases i with
    |zero=>simp at hv;subst hv;exact⟨a,rfl,h.1⟩
    |succ i=>exact h2 i v' (by simpa using hv)
  |[],_::_,h=>h.elim
  |_::_,[],h=>h.elim
theorem wk_lst{es es':List (List V)}(h:WkLL es es'):WkV (.lst es) (.lst es'):=by
  obtain⟨h1,h2⟩:=WkLL_get h
  intro w ρ B x hr
  cases hr with
  | lnil a c hc ha=>
    have:es'=[]:=List.eq_nil_of_length_eq_zero (by simpa using h1)
    subst this
    exact .lnil a c hc ha
  | lst _ b off c s Y hb hB hc hm hs hY hV hO=>
    rw [←h1]
    refine .lst es' b off c s Y hb hB (by omega) hm (fun e' he=>?_) (fun i j e' v' e1 e2=>?_) (fun i j e' v' e1 e2=>?_) (fun i j e' v' e1 e2=>?_)
    · obtain⟨i,hi,rfl⟩:=List.getElem_of_mem he
      obtain⟨e,g1,g2,_⟩:=h2 i _ (List.getElem?_eq_getElem hi)
      rw [(WkL_get g2).1]
      exact hs e (List.mem_of_getElem? g1)
    · obtain⟨e,g1,g2,_⟩:=h2 i e' e1
      obtain⟨v,g3,_⟩:=(WkL_get g2).2 j v' e2
      exact hY i j e v g1 g3
    · obtain⟨e,g1,g2,_⟩:=h2 i e' e1
      obtain⟨v,g3,g4⟩:=(WkL_get g2).2 j v' e2
      exact g4 _ _ _ _ (hV i j e v g1 g3)
    · obtain⟨e,g1,g2,g5⟩:=h2 i e' e1
      exact List.all_eq_true.1 g5 v' (List.mem_of_getElem? e2)
theorem fin_agp{m0 D X B:Mem}{l l2:List (List V)}{R:V→Option Mem→Prop}(hB:B=lend m0++D)(hl:plainLL l=true)(hl2:plainLL l2=true)(h:R (.agg [.lst l,.lst l2]) none):
    Fin m0 R (.agg [.lst l,.lst l2]) (B++X):=by
  subst hB
  refine .inr ⟨D++X,_,by simp,?_,h⟩
  show(frzs (frz _ _ 3) _).map V.agg=_
  rw [frzs_cons (frz_ls hl) (frzs_cons (frz_ls hl2) rfl)]
  rfl

theorem lbench_c(m:Mem):Gives Tryz.prog 13 [] m (.agg (bnV exB)):=by
  suffices key:CallA Tryz.prog 13 [] m (fun v mo=>mo=none∧WkV v (.agg (bnV exB))) from Gives_of key fun v mo h=>h
  refine CallA_in Tryz.func13 rfl Tryz.ntmps13 Tryz.results13 (by kernel_rfl) (by simp) fun Q hQ=>?_
  refine WA_stop fun K0 hK0=>?_
  (repeat'(first|(refine sx ?_ ?_<;>intro h<;>first|(exfalso;omega)|skip)|refine ny ?_|refine WA_block ?_))
  refine hK0 _ _ ?_
  refine WA_stop fun K1 hK1=>?_
  (repeat'(first|(refine sx ?_ ?_<;>intro h<;>first|(exfalso;omega)|skip)|refine ny ?_|refine WA_block ?_))
  refine hK1 _ _ ?_
  clear hK0 hK1
  have hne:∀ (a c d:Nat),(a+c=a+d)=(c=d):=fun a c d=>by simp
  refine WA_fzM (j:=2) rfl ?_
  simp only [List.map_cons,List.map_nil,frzV,frzC,List.set_cons_succ,List.set_cons_zero,argT,hne,false_and,and_false,if_false,true_and,Nat.le_refl,if_true,List.length_cons,List.length_nil,List.take_succ_cons,List.take_zero,List.take_nil,Nat.reduceAdd,Nat.reduceLeDiff,Nat.add_left_cancel_iff,Nat.reduceEqDiff]
  refine WA_fzM (j:=3) rfl ?_
  simp only [List.map_cons,List.map_nil,frzV,frzC,List.set_cons_succ,List.set_cons_zero,argT,hne,false_and,and_false,if_false,true_and,Nat.le_refl,if_true,List.length_cons,List.length_nil,List.take_succ_cons,List.take_zero,List.take_nil,Nat.reduceAdd,Nat.reduceLeDiff,Nat.add_left_cancel_iff,Nat.reduceEqDiff]
  refine WA_fzM (j:=4) rfl ?_
  simp only [List.map_cons,List.map_nil,frzV,frzC,List.set_cons_succ,List.set_cons_zero,argT,hne,false_and,and_false,if_false,true_and,Nat.le_refl,if_true,List.length_cons,List.length_nil,List.take_succ_cons,List.take_zero,List.take_nil,Nat.reduceAdd,Nat.reduceLeDiff,Nat.add_left_cancel_iff,Nat.reduceEqDiff]
  refine WA_fzM (j:=5) rfl ?_
  simp only [List.map_cons,List.map_nil,frzV,frzC,List.set_cons_succ,List.set_cons_zero,argT,hne,false_and,and_false,if_false,true_and,Nat.le_refl,if_true,List.length_cons,List.length_nil,List.take_succ_cons,List.take_zero,List.take_nil,Nat.reduceAdd,Nat.reduceLeDiff,Nat.add_left_cancel_iff,Nat.reduceEqDiff]
  refine WA_fzM (j:=6) rfl ?_
  simp only [List.map_cons,List.map_nil,frzV,frzC,List.set_cons_succ,List.set_cons_zero,argT,hne,false_and,and_false,if_false,true_and,Nat.le_refl,if_true,List.length_cons,List.length_nil,List.take_succ_cons,List.take_zero,List.take_nil,Nat.reduceAdd,Nat.reduceLeDiff,Nat.add_left_cancel_iff,Nat.reduceEqDiff]
  refine WA_fzM (j:=1) rfl ?_
  simp only [List.map_cons,List.map_nil,frzV,frzC,List.set_cons_succ,List.set_cons_zero,argT,hne,false_and,and_false,if_false,true_and,Nat.le_refl,if_true,List.length_cons,List.length_nil,List.take_succ_cons,List.take_zero,List.take_nil,Nat.reduceAdd,Nat.reduceLeDiff,Nat.add_left_cancel_iff,Nat.reduceEqDiff]
  (repeat'(first|(refine sx ?_ ?_<;>intro h<;>first|(exfalso;omega)|skip)|refine ny ?_|refine WA_block ?_))
  refine r_esA hQ (fin_agp (D:=[]) (by simp) ?_ ?_ ⟨rfl,?_⟩)
  · rfl
  · rfl
  exact wk_agg ⟨WkV.refl _,wk_lst ⟨⟨⟨WkV.refl _,WkV.refl _,WkV.refl _,WkV.refl _,WkV.refl _,wk_nil,trivial⟩,rfl⟩,⟨⟨WkV.refl _,WkV.refl _,WkV.refl _,WkV.refl _,WkV.refl _,WkV.refl _,trivial⟩,rfl⟩,⟨⟨WkV.refl _,WkV.refl _,WkV.refl _,WkV.refl _,WkV.refl _,wk_nil,trivial⟩,rfl⟩,trivial⟩,trivial⟩
theorem exB_bl:Bl exB:=by
  refine⟨by decide,by decide,by decide,by decide,by decide,by decide⟩
theorem exB_ok:bnErr exB=0:=by decide +kernel
theorem exB_tr:¬ 100000<trK exB.ads exB.ads.length:=by decide +kernel
theorem exB_fw:(fwB exB).f=true∧(fwB exB).l=[3,0,0]∧(fwB exB).p=2:=by decide +kernel
theorem ex_few(m:Mem):Gives Tryz.prog 8 [.agg (bnV exB)] m (.tup [.lst (nsV [3,0,0]),.int .i64 2,.int .i64 0]):=by
  have h:=gfewest_ok exB exB_bl exB_ok m
  unfold fwV at h
  obtain⟨h1,h2,h3⟩:=exB_fw
  rw [if_neg exB_tr,if_pos h1,h2,h3] at h
  exact h
theorem bints_s(l k:List Int)(n:Nat)(hn:n=k.length)(hl:l.length≤100000)(M:Mem)(kk:Nat)(st:Sta)(hk:M[kk]?=some (.cells st 3 1 (nsV k))):Gives Tryz.prog 14 [.lst (nsV l),.sl kk n] M (.bool (decide (l=k))):=by
  subst hn
  refine Gives_fz hk (by simp [V.flat]) ?_
  have e:([.lst (nsV l),.sl kk k.length]:List V).map (frzV kk (nsV k))=[.lst (nsV l),.lst (nsV k)]:=by
    simp only [List.map_cons,List.map_nil,fz_nsV]
    rfl
  rw [e]
  exact bints_c l k hl _
theorem bints_e(l:List Int)(n:Nat)(hn:n=l.length)(hl:l.length≤100000)(M:Mem)(kk:Nat)(st:Sta)(hk:M[kk]?=some (.cells st 3 1 (nsV l))):Gives Tryz.prog 14 [.lst (nsV l),.sl kk n] M (.bool true):=by
  have h:=bints_s l l n hn hl M kk st hk
  rwa [decide_eq_true rfl] at h
end Go.Proofs.YtnablpehkeicmaaGreat
namespace Go.Proofs.YtnablpehkeicmaaGreat
open Go.RowKit
attribute [local irreducible] WA WOs WDs WAn qThen qBlock tput
set_option maxHeartbeats 1000000
set_option maxRecDepth 20000
set_option linter.unusedSimpArgs false
set_option linter.unusedVariables false
set_option maxHeartbeats 4000000
theorem gchecksteps_s(b:BnR)(hfa:b.ads.length≤12)(l:List Int)(n:Nat)(hn:n=l.length)(m:Mem)(k:Nat){st:Sta}(hk:m[k]?=some (.cells st 3 1 (nsV l)):=by first|exact ev_|fail):Gives Tryz.prog 58 [.bp (bxC b) 0,.sl k n] m (.int .i64 (stErr b.ads l)):=by
  subst hn
  refine Gives_fz hk (by simp [V.flat]) ?_
  show Gives _ _ [.bp (bxC b) 0,frzV k (nsV l) (.sl k l.length)] _ _
  rw [fz_nsV]
  exact gchecksteps_c b hfa l _
theorem fin_sii{m0 D X B:Mem}{j k:Nat}{st:Sta}{ty sz:Nat}{es:List (List V)}{c d:Int}{R:V→Option Mem→Prop}(hB:B=lend m0++D)(hX:X[j]?=some (.cells st ty sz es))(hk:es.length=k)(hp:plainLL es=true)(h:R (.tup [.lst es,.int .i64 c,.int .i64 d]) none):Fin m0 R (.tup [.sl (B.length+j) k,.int .i64 c,.int .i64 d]) (B++X):=by
  subst hB
  refine .inr ⟨D++X,_,by simp,?_,h⟩
  show(frzs (frz _ _ 3) [_,_,_]).map V.tup=_
  have e:frz ((lend m0++D)++X) m0.length 3 (.sl ((lend m0++D).length+j) k)=some (.lst es):=frz_own (m0:=m0) (D:=D) (n:=2) (j:=j) hX hk hp
  rw [frzs_cons e (frzs_cons (frz_int _ _ _ _ _) (frzs_cons (frz_int _ _ _ _ _) rfl))]
  rfl
theorem uB39_33_13{N:Nat}{l:List Oper}{t:List (Nat×V)}{m:Mem}{Q:Exit→List (Nat×V)→Mem→Prop}(h:RgN Tryz.prog N l t m Q (fun i=>if i==9 then .w else if i==2 || i==4 || i==6 then .q else .p) [.one 0,.one 1,.one 2,.one 3,.one 4,.one 5,.one 6,.one 7,.one 8,.one 9]):WA Tryz.prog N (.region 13 l.toArray true) t m Q:=d_rgN h
theorem gsums_c (b:BnR) (hb:Bnd b) (haf:∀ i,i<b.ads.length→(b.ads.getD i adz).after.length≤1000) (l:List (List StR)) (m:Mem):Gives Tryz.prog 33 [.bp (bxC b) 0,.lst (plV l)] m (.tup [.lst (nsV (smS b l)),.int .i64 (smN b l),.int .i64 (smE b l)]):=by
  have hla:=adsV_length (l:=b.ads)
  have hlp:=plV_length (l:=l)
  have hre:∀ k,k=b.ads.length→List.replicate k [V.int .i64 0]=nsV (smK b l 0):=fun k h=>by rw [h];simp [nsV,smK]
  have hga:=hla
  have hgb:=hla
  have hgc:=hla
  have hls:=hla
  have hcp:=hla
  have hcs:=hla
  have hfa:=hb.fa
  have hbx:bxC b=bxA b:=rfl
  suffices key:CallA Tryz.prog 33 [.bp (bxC b) 0,.lst (plV l)] m (fun v mo=>mo=none∧WkV v (.tup [.lst (nsV (smS b l)),.int .i64 (smN b l),.int .i64 (smE b l)])) from Gives_of key fun v mo h=>h
  by_cases h50:50<l.length
  · obtain⟨e1,e2,e3⟩:=sm_big (b:=b) h50
    rw [e1,e2,e3,hbx]
    unfold bxA
    refine CallA_in Tryz.func33 rfl Tryz.ntmps33 Tryz.results33 (by kernel_rfl) (by simp) fun Q hQ=>?_
    (have FX:=fx7 hla hlp hls hre hga hgb hgc;repeat'(first|(refine sx ?_ ?_<;>intro h<;>first|(exfalso;omega)|skip)|(refine na ?_;(first|refine nb hcp ?_|refine s_fn (hcs _ _ ?_) ?_|refine d_fn (hcs _ _ ?_) ?_|refine d_fnQ (fun _=>hcs _ _ ?_) ?_|refine grp_cons (fun _=>hcs _ _ ?_) ?_)<;>try first|omega|assumption)|refine ny ?_|refine WA_block ?_|(refine uB39_33_13 ?_;refine⟨by kernel_rfl,?_⟩)|(refine g_d ?_;(first|refine d_fnY (hcp _) ?_|refine d_fnY (hcs _ _ ?_) ?_)<;>try first|omega|assumption)))
    all_goals(try(exfalso;omega))
    all_goals
      refine r_esA hQ (.inl ⟨rfl,rfl,?_⟩)
      exact wk_tup ⟨wk_nil,WkV.refl _,WkV.refl _,trivial⟩
  rw [hbx]
  unfold bxA
  refine CallA_in Tryz.func33 rfl Tryz.ntmps33 Tryz.results33 (by kernel_rfl) (by simp) fun Q hQ=>?_
  (have FX:=fx7 hla hlp hls hre hga hgb hgc;repeat'(first|(refine sx ?_ ?_<;>intro h<;>first|(exfalso;omega)|skip)|(refine na ?_;(first|refine nb hcp ?_|refine s_fn (hcs _ _ ?_) ?_|refine d_fn (hcs _ _ ?_) ?_|refine d_fnQ (fun _=>hcs _ _ ?_) ?_|refine grp_cons (fun _=>hcs _ _ ?_) ?_)<;>try first|omega|assumption)|refine ny ?_|refine WA_block ?_|(refine uB39_33_13 ?_;refine⟨by kernel_rfl,?_⟩)|(refine g_d ?_;(first|refine d_fnY (hcp _) ?_|refine d_fnY (hcs _ _ ?_) ?_)<;>try first|omega|assumption)))
  all_goals(try(exfalso;omega))
  refine WA_whileK (σ:=Nat) (L:=m) [0,7,25,26,27] (fun i=>[.bp (bxA b) 0,.sl (lend m).length b.ads.length,.lst (plV l),.int .i64 l.length,.int .i64 i]) (fun i=>[.cells .own 3 1 (nsV (smK b l i))]) 1 (fun i=>i≤l.length∧∀ j,j<i→plErrAt b l j=0) (fun i=>l.length - i) 0 ⟨Nat.zero_le _,fun j h=>absurd h (Nat.not_lt_zero _)⟩ tv_ rfl (fun _=>rfl) (by intro s s' _ _;simp [conB,conS,V.keeps,V.plain,Blk.flat,flatL,plainL,V.flat]) (fun _ _ _ _=>⟨.inl (cI_flat _),trivial⟩) ?_
  rintro i ⟨hi1,hi2⟩ K hK
  simp only [zipT,bxA]
  clear FX hga hgb hgc hre hcp hcs hls
  have hre:=hla
  have hsl:=smK_length b l i
  rcases Nat.lt_or_ge i l.length with hi|hi
  · have hga :=plV_get hi
    have hat:plErrAt b l i=if (psV b.ads (l.getD i [])).2≠0 then (psV b.ads (l.getD i [])).2 else stErr b.ads (smK b l (i+1)):=rfl
    have hps:=fun c h hc=>sm_at (b:=b) (c:=c) (by omega) hi hi2 h hc
    have hcp:=fun m=>gcheckpass_c b hb haf (l.getD i []) m
    rw [hbx] at hcp
    unfold bxA at hcp
    have hz:=psV_zero (ads:=b.ads) (p:=l.getD i [])
    have hbd:=smK_bd hb hi2
    have hsu:smK b l (i+1)=addS (l.getD i []) (smK b l i) (l.getD i []).length:=rfl
    have hsl2:=smK_length b l (i+1)
    generalize l.getD i []=p at*
    generalize smK b l i=s at*
    generalize hs2:smK b l (i+1)=s2 at*
    generalize (psV b.ads p).1=pn at*
    generalize (psV b.ads p).2=pe at*
    have hls:=stsV_length (l:=p)
    have hgb:=hla
    have hgc:=hla
    have hcs:=hla
    by_cases hpe:pe=0
    · have hok:=hz.1 hpe
      rw [if_neg (by omega)] at hat
      (have FX:=fx7 hla hlp hls hre hga hgb hgc;repeat'(first|(refine sx ?_ ?_<;>intro h<;>first|(exfalso;omega)|skip)|(refine na ?_;(first|refine nb hcp ?_|refine s_fn (hcs _ _ ?_) ?_|refine d_fn (hcs _ _ ?_) ?_|refine d_fnQ (fun _=>hcs _ _ ?_) ?_|refine grp_cons (fun _=>hcs _ _ ?_) ?_)<;>try first|omega|assumption)|refine ny ?_|refine WA_block ?_|(refine uB39_33_13 ?_;refine⟨by kernel_rfl,?_⟩)|(refine g_d ?_;(first|refine d_fnY (hcp _) ?_|refine d_fnY (hcs _ _ ?_) ?_)<;>try first|omega|assumption)))
      all_goals(try(exfalso;omega))
      refine WA_whileP (σ:=Nat) (M:=lend m) [0,7,8,25,26,27,42,43,44] (fun k=>[.bp (bxA b) 0,.sl (lend m).length b.ads.length,.int .i64 i,.lst (plV l),.int .i64 l.length,.int .i64 i,.lst (stsV p),.int .i64 p.length,.int .i64 k]) (fun k=>[.cells .own 3 1 (nsV (addS p s k))]) 1 (fun k=>k≤p.length) (fun k=>p.length - k) 0 (Nat.zero_le _) tv_ (by simp only [addS]) (fun _=>rfl) (by intro s s' _ _;simp [conB,conS,V.keeps,V.plain,Blk.flat,flatL,plainL,V.flat]) (fun _ _ _ _=>⟨.inl (cI_flat _),trivial⟩) ?_
      rintro k hk1 K2 hK2
      simp only [zipT,bxA]
      clear FX hgb hgc hcs
      have hal:=addS_length p s k
      rcases Nat.lt_or_ge k p.length with hk|hk
      · have hgb:=stsV_get hk
        have hst:=psOk_st hb hok hk
        have hab:=addS_bd hb hok (c:=1000) (by decide) hbd k hk1
        have hp12:=hok.1
        have hcs:=hla
        have hsu2:addS p s (k+1)=(addS p s k).set (p.getD k stz).ad.toNat ((addS p s k).getD (p.getD k stz).ad.toNat 0+(p.getD k stz).n):=rfl
        generalize p.getD k stz=x at*
        obtain⟨xa,xn⟩:=x
        unfold stV at hgb
        dsimp only at hgb hst hsu2
        obtain⟨q,rfl⟩:∃ q:Nat,xa=(q:Int):=⟨xa.toNat,by omega⟩
        rw [Int.toNat_natCast] at hsu2
        have hab:=hab q
        generalize addS p s k=s3 at*
        have hgc:=nsV_get (l:=s3) (i:=q) (by omega)
        have hgc:(nsV s3)[q]?=some [V.int .i64 (s3.getD q 0)]∧(nsV s3).length=b.ads.length:=⟨hgc,by rw [nsV_length];omega⟩
        generalize s3.getD q 0=sv at*
        (have FX:=fx7 hla hlp hls hre hga hgb hgc;repeat'(first|(refine sx ?_ ?_<;>intro h<;>first|(exfalso;omega)|skip)|(refine na ?_;(first|refine nb hcp ?_|refine s_fn (hcs _ _ ?_) ?_|refine d_fn (hcs _ _ ?_) ?_|refine d_fnQ (fun _=>hcs _ _ ?_) ?_|refine grp_cons (fun _=>hcs _ _ ?_) ?_)<;>try first|omega|assumption)|refine ny ?_|refine WA_block ?_|(refine uB39_33_13 ?_;refine⟨by kernel_rfl,?_⟩)|(refine g_d ?_;(first|refine d_fnY (hcp _) ?_|refine d_fnY (hcs _ _ ?_) ?_)<;>try first|omega|assumption)))
        all_goals(try(exfalso;omega))
        all_goals(refine nextP_ hK2 (k+1) hk (by omega) (hm:=by rw [hsu2,nsV_set];rfl))
      · obtain rfl:k=p.length:=by omega
        have hgb:=hla
        have hgc:=hla
        rw [←hsu] at*
        have hcs:=fun(m:Mem) (k:Nat) (h:∃ st,m[k]?=some (.cells st 3 1 (nsV s2)))=>h.elim fun st h=>gchecksteps_s b hfa s2 b.ads.length hsl2.symm m k h
        rw [hbx] at hcs
        unfold bxA at hcs
        generalize stErr b.ads s2=se at*

        (have FX:=fx7 hla hlp hls hre hga hgb hgc;repeat'(first|(refine sx ?_ ?_<;>intro h<;>first|(exfalso;omega)|skip)|(refine na ?_;(first|refine nb hcp ?_|refine s_fn (hcs _ _ ?_) ?_|refine d_fn (hcs _ _ ?_) ?_|refine d_fnQ (fun _=>hcs _ _ ?_) ?_|refine grp_cons (fun _=>hcs _ _ ?_) ?_)<;>try first|omega|assumption)|refine ny ?_|refine WA_block ?_|(refine uB39_33_13 ?_;refine⟨by kernel_rfl,?_⟩)|(refine g_d ?_;(first|refine d_fnY (hcp _) ?_|refine d_fnY (hcs _ _ ?_) ?_)<;>try first|omega|assumption)))
        all_goals(try(exfalso;omega))
        all_goals try(exact⟨_,ev_⟩)
        all_goals first
          | (obtain⟨e1,e2,e3⟩:=hps _ hat (by assumption)
             refine r_esA hQ (.inl ⟨rfl,rfl,?_⟩)
             rw [e1,e2,e3]
             exact wk_tup ⟨wk_nil,WkV.refl _,WkV.refl _,trivial⟩)
          |(refine nextL_ hK (i+1) ⟨hi,up_zero hi2 (hat.trans (by omega))⟩ (by omega) (hm:=by rw [hs2];rfl))
    · rw [if_pos hpe] at hat
      obtain⟨e1,e2,e3⟩:=hps _ hat hpe
      rw [e1,e2,e3] at hQ
      (have FX:=fx7 hla hlp hls hre hga hgb hgc;repeat'(first|(refine sx ?_ ?_<;>intro h<;>first|(exfalso;omega)|skip)|(refine na ?_;(first|refine nb hcp ?_|refine s_fn (hcs _ _ ?_) ?_|refine d_fn (hcs _ _ ?_) ?_|refine d_fnQ (fun _=>hcs _ _ ?_) ?_|refine grp_cons (fun _=>hcs _ _ ?_) ?_)<;>try first|omega|assumption)|refine ny ?_|refine WA_block ?_|(refine uB39_33_13 ?_;refine⟨by kernel_rfl,?_⟩)|(refine g_d ?_;(first|refine d_fnY (hcp _) ?_|refine d_fnY (hcs _ _ ?_) ?_)<;>try first|omega|assumption)))
      all_goals(try(exfalso;omega))
      all_goals
        refine r_esA hQ (.inl ⟨rfl,rfl,?_⟩)
        exact wk_tup ⟨wk_nil,WkV.refl _,WkV.refl _,trivial⟩
  · obtain rfl:i=l.length:=by omega
    obtain⟨e1,e2,e3⟩:=sm_no (b:=b) (by omega) hi2
    rw [e1,e2,e3] at hQ
    have hga:=hla
    have hgb:=hla
    have hgc:=hla
    have hls:=hla
    have hcp:=hla
    have hcs:=hla
    (have FX:=fx7 hla hlp hls hre hga hgb hgc;repeat'(first|(refine sx ?_ ?_<;>intro h<;>first|(exfalso;omega)|skip)|(refine na ?_;(first|refine nb hcp ?_|refine s_fn (hcs _ _ ?_) ?_|refine d_fn (hcs _ _ ?_) ?_|refine d_fnQ (fun _=>hcs _ _ ?_) ?_|refine grp_cons (fun _=>hcs _ _ ?_) ?_)<;>try first|omega|assumption)|refine ny ?_|refine WA_block ?_|(refine uB39_33_13 ?_;refine⟨by kernel_rfl,?_⟩)|(refine g_d ?_;(first|refine d_fnY (hcp _) ?_|refine d_fnY (hcs _ _ ?_) ?_)<;>try first|omega|assumption)))
    all_goals(try(exfalso;omega))
    all_goals(refine r_esA hQ (fin_sii (j:=0) (k:=b.ads.length) (D:=[]) (by simp) rfl (by rw [nsV_length];exact hsl) (nsV_plain _) ⟨rfl,WkV.refl _⟩))
theorem ok_af{b:BnR}(hk:Bok b):∀ i,i<b.ads.length→(b.ads.getD i adz).after.length≤1000:=fun i hi=>by
  have:=(aln_of hk.fa hk.ae).af i hi
  omega

theorem gSums_bad(b:BnR)(hb:Bl b)(h0:bnErr b≠0)(l:List (List StR))(m:Mem):Gives Tryz.prog 29 [.agg (bnV b),.lst (plV l)] m (.tup [.nilsl,.int .i64 0,.int .i64 (bnErr b)]):=by
  have hx0:=h0
  have hcp:=h0
  have hop:=fun m=>gopen_bad b hb h0 m
  unfold bnV at hop ⊢
  refine Gives_in Tryz.func29 rfl Tryz.ntmps29 Tryz.results29 (by kernel_rfl) (by simp) rfl fun Q hQ=>?_
  (have FX:=hx0;repeat'(first|(refine sx ?_ ?_<;>intro h<;>first|(exfalso;omega)|skip)|(refine na ?_;(first|refine nb hop ?_|refine nb hcp ?_)<;>try first|omega|assumption)|refine ny ?_|refine WA_block ?_))
  all_goals(try(exfalso;omega))
  all_goals((refine r_es hQ ?_;try with_reducible rfl))
theorem gSums_ok(b:BnR)(hb:Bl b)(h0:bnErr b=0)(l:List (List StR))(m:Mem):Gives Tryz.prog 29 [.agg (bnV b),.lst (plV l)] m (.tup [.lst (nsV (smS b l)),.int .i64 (smN b l),.int .i64 (smE b l)]):=by
  have hx0:=h0
  have hk:=bn_ok h0
  have hcp:=fun m=>gsums_c b (bnd_ok hk) (ok_af hk) l m
  have hop:=fun m=>gopen_ok b hb h0 m
  unfold bnV at hop ⊢
  refine CallA_in Tryz.func29 rfl Tryz.ntmps29 Tryz.results29 (by kernel_rfl) (by simp) fun Q hQ=>?_
  (have FX:=hx0;repeat'(first|(refine sx ?_ ?_<;>intro h<;>first|(exfalso;omega)|skip)|(refine na ?_;(first|refine nb hop ?_|refine nb hcp ?_)<;>try first|omega|assumption)|refine ny ?_|refine WA_block ?_))
  all_goals(try(exfalso;omega))
  all_goals(refine r_esA hQ (fin_lii (nsV_plain _) ⟨rfl,rfl⟩))

theorem gCheckPlan_bad(b:BnR)(hb:Bl b)(h0:bnErr b≠0)(l:List (List StR))(m:Mem):Gives Tryz.prog 12 [.agg (bnV b),.lst (plV l)] m (.tup [.int .i64 0,.int .i64 (bnErr b)]):=by
  have hx0:=h0
  have hcp:=h0
  have hop:=fun m=>gopen_bad b hb h0 m
  unfold bnV at hop ⊢
  refine Gives_in Tryz.func12 rfl Tryz.ntmps12 Tryz.results12 (by kernel_rfl) (by simp) rfl fun Q hQ=>?_
  (have FX:=hx0;repeat'(first|(refine sx ?_ ?_<;>intro h<;>first|(exfalso;omega)|skip)|(refine na ?_;(first|refine nb hop ?_|refine nb hcp ?_)<;>try first|omega|assumption)|refine ny ?_|refine WA_block ?_))
  all_goals(try(exfalso;omega))
  all_goals((refine r_es hQ ?_;try with_reducible rfl))
theorem gCheckPlan_ok (b:BnR) (hb:Bl b) (h0:bnErr b=0) (l:List (List StR)) (m:Mem):Gives Tryz.prog 12 [.agg (bnV b),.lst (plV l)] m (.tup [.int .i64 (cpN b l),.int .i64 (cpE b l)]):=by
  have hx0:=h0
  have hk:=bn_ok h0
  have hbd:=bnd_ok hk
  have hcp:=fun m=>gsums_c b hbd (ok_af hk) l m
  have hop:=fun m=>gopen_ok b hb h0 m
  have hbk:=hx0
  have hok:=fun h=>smS_ok hbd (pl:=l) h
  unfold cpN cpE
  unfold bnV at hop ⊢
  generalize smE b l=e at*
  generalize smN b l=n at*
  generalize smS b l=s at*
  by_cases he:e=0
  · have hok:=hok he
    have hbk:=fun m=>gbroken_c b s m
    rw [if_neg (by omega),if_neg (by omega)]
    refine Gives_in Tryz.func12 rfl Tryz.ntmps12 Tryz.results12 (by kernel_rfl) (by simp) rfl fun Q hQ=>?_
    (have FX:=hx0;repeat'(first|(refine sx ?_ ?_<;>intro h<;>first|(exfalso;omega)|skip)|(refine na ?_;(first|refine nb hop ?_|refine nb hcp ?_|refine nb hbk ?_)<;>try first|omega|assumption)|refine ny ?_|refine WA_block ?_))
    all_goals(try(exfalso;omega))
    refine WA_rfA (fun m'=>brkP b s b.ms.length=[]∧∃ X,m'=lend m++[.cells .own 25 2 [[.lst (mssV b.ms),.lst (adsV b.ads)]],.cells .own 3 1 [[.int .i64 0]],.cells .own 34 1 [[.int .i64 0]],.dead]++X) (fun c m'=>c= .ret∧brkP b s b.ms.length≠[]∧∃ X,m'=lend m++[.cells .own 25 2 [[.lst (mssV b.ms),.lst (adsV b.ads)]],.cells .own 3 1 [[.int .i64 ((brkP b s b.ms.length).getD 0 0:Nat)]],.cells .own 34 1 [[.int .i64 26]],.dead]++X) (fun lp LB LL LD hY=>?_) (fun m' hm=>?_) (fun c m' hm=>?_)
    · refine gbroken1_stop b hbd s hok.1 (steps_bd hbd hok.2) lp _ _ ?_ ?_
      · intro h
        exact⟨_,rfl,.inl ⟨by simp,h,[],by simp⟩⟩
      · intro i hi h0 h1 x
        have hne:=brk_ne hi h1
        have hf:=brk_first hi h0 h1
        have hsp:(lend m++[Blk.cells .own 25 2 [[.lst (mssV b.ms),.lst (adsV b.ads)]],.cells .own 3 1 [[.int .i64 0]],.cells .own 34 1 [[.int .i64 0]]])++[LB]++[x]=(lend m++[Blk.cells .own 25 2 [[.lst (mssV b.ms),.lst (adsV b.ads)]],.cells .own 3 1 [[.int .i64 0]],.cells .own 34 1 [[.int .i64 0]]])++LB::[x]:=by simp
        rw [hsp]
        refine hY _ _ _ _ rfl ?_
        simp only [setPs,List.append_assoc,List.cons_append,List.nil_append]
        (have FX:=hx0;repeat'(first|(refine sx ?_ ?_<;>intro h<;>first|(exfalso;omega)|skip)|(refine na ?_;(first|refine nb hop ?_|refine nb hcp ?_|refine nb hbk ?_)<;>try first|omega|assumption)|refine ny ?_|refine WA_block ?_))
        refine⟨rfl,by simp,?_⟩
        (have FX:=hx0;repeat'(first|(refine sx ?_ ?_<;>intro h<;>first|(exfalso;omega)|skip)|(refine na ?_;(first|refine nb hop ?_|refine nb hcp ?_|refine nb hbk ?_)<;>try first|omega|assumption)|refine ny ?_|refine WA_block ?_))
        refine rndQ_ret (A:=lend m++[Blk.cells .own 25 2 [[.lst (mssV b.ms),.lst (adsV b.ads)]],.cells .own 3 1 [[.int .i64 i]],.cells .own 34 1 [[.int .i64 26]]]) (X:=[x]) (by simp) (by simp) ?_
        exact⟨rfl,_,rfl,_,rfl,.inr ⟨.ret,by simp,rfl,hne,[x],by rw [hf];simp⟩⟩
    · obtain⟨h0,X,rfl⟩:=hm
      rw [h0,if_neg (by simp)] at hQ
      simp only [List.append_assoc,List.cons_append,List.nil_append]
      (have FX:=hx0;repeat'(first|(refine sx ?_ ?_<;>intro h<;>first|(exfalso;omega)|skip)|(refine na ?_;(first|refine nb hop ?_|refine nb hcp ?_|refine nb hbk ?_)<;>try first|omega|assumption)|refine ny ?_|refine WA_block ?_))
      all_goals((refine r_es hQ ?_;try with_reducible rfl))
      all_goals rfl
    · obtain⟨rfl,h0,X,rfl⟩:=hm
      rw [if_pos h0] at hQ
      simp only [List.append_assoc,List.cons_append,List.nil_append]
      (have FX:=hx0;repeat'(first|(refine sx ?_ ?_<;>intro h<;>first|(exfalso;omega)|skip)|(refine na ?_;(first|refine nb hop ?_|refine nb hcp ?_|refine nb hbk ?_)<;>try first|omega|assumption)|refine ny ?_|refine WA_block ?_))
      all_goals((refine r_es hQ ?_;try with_reducible rfl))
  · rw [if_pos (by omega),if_pos (by omega)]
    refine Gives_in Tryz.func12 rfl Tryz.ntmps12 Tryz.results12 (by kernel_rfl) (by simp) rfl fun Q hQ=>?_
    (have FX:=hx0;repeat'(first|(refine sx ?_ ?_<;>intro h<;>first|(exfalso;omega)|skip)|(refine na ?_;(first|refine nb hop ?_|refine nb hcp ?_|refine nb hbk ?_)<;>try first|omega|assumption)|refine ny ?_|refine WA_block ?_))
    all_goals(try(exfalso;omega))
    all_goals((refine r_es hQ ?_;try with_reducible rfl))
end Go.Proofs.YtnablpehkeicmaaGreat
namespace Go.Proofs.YtnablpehkeicmaaGreat
end Go.Proofs.YtnablpehkeicmaaGreat
namespace Go.Proofs.YtnablpehkeicmaaGreat
open Go.RowKit
/-! the best steps -/
def BstOk(b:BnR)(s:Bst):Prop:=s.f=true→stOk b.ads s.l∧brkP b s.l b.ms.length=[]∧s.p=pasK b.ads s.l b.ads.length∧s.q=sumA s.l b.ads.length
theorem updB_ok{b:BnR}{l:List Int}{s:Bst}(hl:stOk b.ads l)(hs:BstOk b s):BstOk b (updB b l s):=by
  unfold updB
  split
  · exact hs
  · rename_i h
    intro _
    exact⟨hl,Decidable.byContradiction fun h2=>h (.inr h2),rfl,rfl⟩
theorem fwF_ok{b:BnR}(hw:∀ i,i<b.ads.length→(b.ads.getD i adz).least≤(b.ads.getD i adz).most):∀ (n:Nat) (l:List Int) (s:Bst),stOk b.ads l→BstOk b s→BstOk b (fwF b n l s)
  |0,_,_,_,h=>h
  | n +1,l,s,hl,h=>by
    unfold fwF
    split
    · exact updB_ok hl h
    · rename_i l' hn
      exact fwF_ok hw n l' _ (nxA_ok hl hw hn) (updB_ok hl h)
theorem fwB_ok{b:BnR}(hw:∀ i,i<b.ads.length→(b.ads.getD i adz).least≤(b.ads.getD i adz).most):BstOk b (fwB b):=fwF_ok hw _ _ _ (lstL_ok hw) (fun h=>by cases h)
/-! how many steps there are -/
def trS(ads:List AdR):Nat→Int
  |0=>1
  |k+1=>if trS ads k≤100000 then trS ads k*((ads.getD k adz).most - (ads.getD k adz).least+1) else trS ads k
theorem trS_pos{ads:List AdR}(hw:∀ i,i<ads.length→(ads.getD i adz).least≤(ads.getD i adz).most):∀ k,k≤ads.length→1≤trS ads k
  |0,_=>Int.le_refl 1
  | k +1,hk=>by
    have ih:=trS_pos hw k (by omega)
    have h:=hw k (by omega)
    simp only [trS]
    split
    · have:=Int.mul_le_mul (a:=1) (c:=trS ads k) (b:=1) (d:=(ads.getD k adz).most - (ads.getD k adz).least+1) ih (by omega) (by decide) (by omega)
      omega
    · exact ih
theorem trS_stop{ads:List AdR}{k:Nat}(h:100000<trS ads k):∀ d,trS ads (k+d)=trS ads k
  |0=>rfl
  | d+1=>by
    have ih:=trS_stop h d
    show trS ads (k+d+1)=_
    simp only [trS]
    rw [ih,if_neg (by omega)]
theorem trS_bd{b:BnR}(hb:Bnd b):∀ k,k≤b.ads.length→1≤trS b.ads k∧trS b.ads k≤300000000
  |0,_=>by simp [trS]
  | k +1,hk=>by
    have ih:=trS_bd hb k (by omega)
    have h1:=hb.le k (by omega)
    have h2:=hb.mo k (by omega)
    have hp:=trS_pos (ads:=b.ads) (fun i hi=>by have:=hb.le i hi;have:=hb.mo i hi;omega) (k+1) hk
    refine⟨hp,?_⟩
    simp only [trS]
    split
    · have:=Int.mul_le_mul (a:=trS b.ads k) (c:=100000) (b:=(b.ads.getD k adz).most - (b.ads.getD k adz).least+1) (d:=2001) (by omega) (by omega) (by omega) (by decide)
      omega
    · exact ih.2
def narrow(b:BnR):Prop:=light b∧(bnErr b=0→trS b.ads b.ads.length≤1500∨100000<trS b.ads b.ads.length)
instance(b:BnR):Decidable (narrow b):=inferInstanceAs (Decidable (_∧_))
end Go.Proofs.YtnablpehkeicmaaGreat
