import Derived.Test.YtnablpehkeicmaaGreatB24
import Derived.Test.YtnablpehkeicmaaGreatGAI
import Derived.Test.YtnablpehkeicmaaGreatGAB
import Derived.Test.YtnablpehkeicmaaGreatGAF
set_option linter.unusedSimpArgs false
set_option linter.unusedVariables false
/- contract: the reference's check of a bench -/
namespace Go.Proofs.YtnablpehkeicmaaGreat
open Go.RowKit
attribute [local irreducible] WA WOs WDs WAn qThen qBlock tput
set_option maxHeartbeats 1000000
set_option maxRecDepth 20000
set_option linter.unusedSimpArgs false
set_option linter.unusedVariables false
set_option maxHeartbeats 4000000
theorem uB25_6_6{N:Nat}{l:List Oper}{t:List (Nat×V)}{m:Mem}{Q:Exit→List (Nat×V)→Mem→Prop}(h:RgN Tryz.prog N l t m Q (fun i=>if i==1 || i==5 || i==8 || i==9 then .q else .p) [.one 0,.one 1,.one 2,.one 3,.one 4,.one 5,.one 6,.one 7,.one 8,.one 9,.one 10]):WA Tryz.prog N (.region 6 l.toArray true) t m Q:=d_rgN h
theorem uB25_6_17{N:Nat}{l:List Oper}{t:List (Nat×V)}{m:Mem}{Q:Exit→List (Nat×V)→Mem→Prop}(h:RgN Tryz.prog N l t m Q (fun i=>if i==1 || i==2 then .a else if i==0 || i==4 || i==5 then .q else .p) [.one 0,.one 3,.one 4,.one 5,.one 1,.one 2,.one 6]):WA Tryz.prog N (.region 17 l.toArray true) t m Q:=d_rgN h
theorem rcheckbench_c (b:BnR) (hb:Bl b) (m:Mem):Gives Tryz.prog 6 [.agg [.lst (mssV b.ms),.lst (adsV b.ads)]] m (.int .i64 (bnErr b)):=by
  have hlm:=mssV_length (l:=b.ms)
  have hla:=adsV_length (l:=b.ads)
  have hlo:=nuV_length (l:=ordB b.ads)
  have hbm:=hb.nm
  have hba:=hb.na
  have hga:=hla
  have hti:=hla
  have hsl:=hla
  have hal:=hla
  have hcm:=hla
  have hca:=hla
  have hor:=hla
  unfold bnErr mssErr
  refine Gives_in Tryz.func6 rfl Tryz.ntmps6 Tryz.results6 (by kernel_rfl) (by simp) rfl fun Q hQ=>?_
  (have FX:=fx7 hlm hla hlo hga hti hsl hal;repeat'(first|(refine sx ?_ ?_<;>intro h<;>first|(exfalso;omega)|skip)|(refine na ?_;(first|refine nb hcm ?_|refine nb hca ?_|refine nb hor ?_)<;>try first|omega|assumption)|refine ny ?_|refine WA_block ?_|(refine uB25_6_6 ?_;refine⟨by kernel_rfl,?_⟩)|(refine uB25_6_17 ?_;refine⟨by kernel_rfl,?_⟩)|(refine g_d ?_;(first|refine d_fnY (hcm _) ?_|refine d_fnY (hca _) ?_|refine d_fnY (hor _) ?_)<;>try first|omega|assumption)))
  all_goals(try(exfalso;omega))
  all_goals try
    ((refine r_es hQ ?_;try with_reducible rfl)
     refine congrArg (V.int .i64) ?_
     rw [if_pos (by rw [if_pos (by omega)];decide),if_pos (by omega)]
     done)
  have hm12:b.ms.length≤12:=by omega
  rw [if_neg (show ¬ 12<b.ms.length by omega)] at hQ
  refine WA_while (σ:=Nat) [1,3] (fun i=>[.ptr (lend m).length 0 0,.int .i64 i]) (fun _=>lend m++[.cells .own 25 2 [[.lst (mssV b.ms),.lst (adsV b.ads)]]]) (fun i=>i≤b.ms.length∧∀ j,j<i→msErrAt b.ms j=0) (fun i=>b.ms.length - i) 0 ⟨Nat.zero_le _,fun j h=>absurd h (Nat.not_lt_zero _)⟩ tv_ rfl ?_
  rintro i ⟨hi1,hi2⟩ K hK
  simp only [zipT]
  clear FX hga hti hsl hal hcm
  rcases Nat.lt_or_ge i b.ms.length with hi|hi
  · have hga:=mssV_get hi
    have hti:((i:Int) - ((0:Nat):Int)).toNat=i:=by omega
    have hsl:=mssV_take b.ms i
    have hal:=fun n h=>mssV_all (l:=b.ms) (n:=n) h
    have hcm0:=fun m=>rcheckmeasure_c (b.ms.take i) (b.ms.getD i msz) (by rw [List.length_take];omega) m
    have hat:msErrAt b.ms i=msErr (b.ms.take i) (b.ms.getD i msz):=rfl
    rw [←hat] at hcm0
    have hcm:=hcm0
    clear hcm0
    unfold msV at hga hcm
    generalize hme:msErrAt b.ms i=me at*
    (have FX:=fx7 hlm hla hlo hga hti hsl hal;repeat'(first|(refine sx ?_ ?_<;>intro h<;>first|(exfalso;omega)|skip)|(refine na ?_;(first|refine nb hcm ?_|refine nb hca ?_|refine nb hor ?_)<;>try first|omega|assumption)|refine ny ?_|refine WA_block ?_|(refine uB25_6_6 ?_;refine⟨by kernel_rfl,?_⟩)|(refine uB25_6_17 ?_;refine⟨by kernel_rfl,?_⟩)|(refine g_d ?_;(first|refine d_fnY (hcm _) ?_|refine d_fnY (hca _) ?_|refine d_fnY (hor _) ?_)<;>try first|omega|assumption)))
    all_goals(try(exfalso;omega))
    all_goals try
      ((refine r_es hQ ?_;try with_reducible rfl)
       have he:=fE_is hi hi2 hme (by omega)
       rw [if_pos (by rw [he];omega),he]
       done)
    all_goals(refine next_ hK (i+1) ⟨hi,up_zero hi2 (by omega)⟩ (by omega))
  · obtain rfl:i=b.ms.length:=by omega
    have hga:=hla
    have hti:=hla
    have hsl:=hla
    have hal:=hla
    have hcm:=hla
    have hz:=fE_zero.2 hi2
    rw [if_neg (by rw [hz];decide)] at hQ
    clear hK
    (have FX:=fx7 hlm hla hlo hga hti hsl hal;repeat'(first|(refine sx ?_ ?_<;>intro h<;>first|(exfalso;omega)|skip)|(refine na ?_;(first|refine nb hcm ?_|refine nb hca ?_|refine nb hor ?_)<;>try first|omega|assumption)|refine ny ?_|refine WA_block ?_|(refine uB25_6_6 ?_;refine⟨by kernel_rfl,?_⟩)|(refine uB25_6_17 ?_;refine⟨by kernel_rfl,?_⟩)|(refine g_d ?_;(first|refine d_fnY (hcm _) ?_|refine d_fnY (hca _) ?_|refine d_fnY (hor _) ?_)<;>try first|omega|assumption)))
    all_goals(try(exfalso;omega))
    all_goals try
      ((refine r_es hQ ?_;try with_reducible rfl)
       refine congrArg (V.int .i64) ?_
       rw [if_pos (by omega)]
       done)
    have ha12:b.ads.length≤12:=by omega
    rw [if_neg (by omega)] at hQ
    refine WA_while (σ:=Nat) [1,5] (fun i=>[.ptr (lend m).length 0 0,.int .i64 i]) (fun _=>lend m++[.cells .own 25 2 [[.lst (mssV b.ms),.lst (adsV b.ads)]]]) (fun i=>i≤b.ads.length∧∀ j,j<i→adErr b.ms b.ads j=0) (fun i=>b.ads.length - i) 0 ⟨Nat.zero_le _,fun j h=>absurd h (Nat.not_lt_zero _)⟩ tv_ rfl ?_
    rintro k ⟨hk1,hk2⟩ K2 hK2
    simp only [zipT]
    clear FX hca hor
    rcases Nat.lt_or_ge k b.ads.length with hk|hk
    · have hca:=fun m=>rcheckadj_c b.ms b.ads hbm hba k hk (hb.ae k hk) (hb.aa k hk) m
      have hor:=hla
      generalize hme:adErr b.ms b.ads k=me at*
      (have FX:=fx7 hlm hla hlo hga hti hsl hal;repeat'(first|(refine sx ?_ ?_<;>intro h<;>first|(exfalso;omega)|skip)|(refine na ?_;(first|refine nb hcm ?_|refine nb hca ?_|refine nb hor ?_)<;>try first|omega|assumption)|refine ny ?_|refine WA_block ?_|(refine uB25_6_6 ?_;refine⟨by kernel_rfl,?_⟩)|(refine uB25_6_17 ?_;refine⟨by kernel_rfl,?_⟩)|(refine g_d ?_;(first|refine d_fnY (hcm _) ?_|refine d_fnY (hca _) ?_|refine d_fnY (hor _) ?_)<;>try first|omega|assumption)))
      all_goals(try(exfalso;omega))
      all_goals try
        ((refine r_es hQ ?_;try with_reducible rfl)
         have he:=fE_is hk hk2 hme (by omega)
         rw [if_pos (by rw [he];omega),he]
         done)
      all_goals(refine next_ hK2 (k+1) ⟨hk,up_zero hk2 (by omega)⟩ (by omega))
    · obtain rfl:k=b.ads.length:=by omega
      have hz2:=fE_zero.2 hk2
      rw [if_neg (by rw [hz2];decide)] at hQ
      have hca:=hla
      have hor:=fun m=>rorder_c b.ms b.ads (aln_of ha12 hk2) m
      (have FX:=fx7 hlm hla hlo hga hti hsl hal;repeat'(first|(refine sx ?_ ?_<;>intro h<;>first|(exfalso;omega)|skip)|(refine na ?_;(first|refine nb hcm ?_|refine nb hca ?_|refine nb hor ?_)<;>try first|omega|assumption)|refine ny ?_|refine WA_block ?_|(refine uB25_6_6 ?_;refine⟨by kernel_rfl,?_⟩)|(refine uB25_6_17 ?_;refine⟨by kernel_rfl,?_⟩)|(refine g_d ?_;(first|refine d_fnY (hcm _) ?_|refine d_fnY (hca _) ?_|refine d_fnY (hor _) ?_)<;>try first|omega|assumption)))
      all_goals(try(exfalso;omega))
      all_goals((refine r_es hQ ?_;try with_reducible rfl))
      all_goals(refine congrArg (V.int .i64) ?_;first|(rw [if_pos (by omega)];done)|(rw [if_neg (by omega)];done))
end Go.Proofs.YtnablpehkeicmaaGreat
namespace Go.Proofs.YtnablpehkeicmaaGreat
open Go.RowKit
theorem getD_drop{α:Type}{l:List α}{i k:Nat}{d:α}:(l.drop i).getD k d=l.getD (i+k) d:=by
  rw [List.getD_eq_getElem?_getD,List.getD_eq_getElem?_getD,List.getElem?_drop]
theorem bef_no{l:List StR}{i:Nat}{n:Int}(hi:i≤l.length)(h:∀ k,k<i→(l.getD k stz).ad≠n):¬ 0≤fdx (isS n) (l.take i):=by
  rcases fdx_cases (isS n) (l.take i) stz with ⟨h1,_⟩|⟨k,hk,h1,h2,_⟩
  · omega
  · rw [List.length_take] at hk
    rw [getD_take (by omega)] at h2
    exact absurd (of_decide_eq_true h2) (h k (by omega))
theorem lat_no {ads:List AdR} {l:List StR} {i:Nat} {af:List Txt} (ha:∀ p,p<af.length→0≤fdx (isA (af.getD p [])) ads) (h:∀ k,i<k→k<l.length→∀ n:Nat,(l.getD k stz).ad=(n:Int)→n<ads.length→¬ 0≤fdx (isT (ads.getD n adz).name) af):¬ 0≤fdx (latB ads l i) af:=by
  intro h0
  rcases fdx_cases (latB ads l i) af [] with ⟨h1,_⟩|⟨p,hp,_,h2,_⟩
  · omega
  · have hp0:=ha p hp
    have h2:0≤fdx (isS (fdx (isA (af.getD p [])) ads)) (l.drop (i+1)):=of_decide_eq_true h2
    rcases fdx_cases (isA (af.getD p [])) ads adz with ⟨h3,_⟩|⟨n,hn,h3,h4,_⟩
    · omega
    · rw [h3] at h2
      rcases fdx_cases (isS (n:Int)) (l.drop (i+1)) stz with ⟨h5,_⟩|⟨k,hk,h5,h6,_⟩
      · omega
      · rw [List.length_drop] at hk
        rw [getD_drop] at h6
        have e:(ads.getD n adz).name=af.getD p []:=of_decide_eq_true h4
        refine h (i+1+k) (by omega) (by omega) n (of_decide_eq_true h6) hn ?_
        rw [e]
        exact(fdx_in (f:=isT (af.getD p [])) (l:=af) (d:=[]) (i:=p) hp (decide_eq_true rfl)).1
theorem rmap_get{α:Type}(f:Nat→α){n i:Nat}(d:α)(h:i<n):((List.range n).map f).getD i d=f i:=by
  rw [List.getD_eq_getElem?_getD,List.getElem?_map,List.getElem?_range h];rfl
def plV(l:List (List StR)):List (List V):=l.map fun p=>[V.lst (stsV p)]
theorem plV_length{l:List (List StR)}:(plV l).length=l.length:=by simp [plV]
theorem plV_get{l:List (List StR)}{i:Nat}(h:i<l.length):(plV l)[i]?=some [V.lst (stsV (l.getD i []))]:=by
  rw [plV,List.getElem?_map,lst_get (d:=[]) h];rfl
theorem plV_plain(l:List (List StR)):plainLL (plV l)=true:=plainLL_of fun e he=>by
  obtain⟨x,_,rfl⟩:=List.mem_map.1 he
  simp [plainL,V.plain,stsV_plain]
theorem plV_snoc(l:List (List StR))(p:List StR):plV (l++[p])=plV l++[[V.lst (stsV p)]]:=by simp [plV]
/-- the sums behind the first steps of a pass -/
def addS(p:List StR)(s:List Int):Nat→List Int
  |0=>s
  |k+1=>(addS p s k).set (p.getD k stz).ad.toNat ((addS p s k).getD (p.getD k stz).ad.toNat 0+(p.getD k stz).n)
theorem addS_length(p:List StR)(s:List Int):∀ k,(addS p s k).length=s.length
  |0=>rfl
  |k+1=>by rw [addS,List.length_set,addS_length p s k]
def psOk(ads:List AdR)(p:List StR):Prop:=p.length≤12∧∀ i,i<p.length→psErrAt ads p i=0
theorem find_range {n:Nat} {f:Nat→Bool}:(∀ i,i<n→f i=false)∧(List.range n).find? f=none∨∃ i,i<n∧f i=true∧(∀ j,j<i→f j=false)∧(List.range n).find? f=some i:=by
  cases h:(List.range n).find? f with
  | none=>
    refine .inl ⟨fun i hi=>?_,rfl⟩
    have:=List.find?_eq_none.1 h i (List.mem_range.2 hi)
    simpa using this
  | some i=>
    refine .inr ⟨i,List.mem_range.1 (List.mem_of_find?_eq_some h),List.find?_some h,fun j hj=>?_,rfl⟩
    cases hj2:f j with
    |false=>rfl
    | true=>
      have hi:=List.mem_range.1 (List.mem_of_find?_eq_some h)
      obtain ⟨k,hk,hk2,hk3⟩:∃ k,k≤j∧f k=true∧∀ m,m<k→f m=false:=by
        clear h hi hj
        induction j with
        |zero=>exact⟨0,Nat.le_refl _,hj2,fun m hm=>absurd hm (Nat.not_lt_zero _)⟩
        | succ j ih =>
          by_cases hq:∃ m,m≤j∧f m=true
          · obtain ⟨m,hm,hm2⟩:=hq
            have:∀ q,f q=true→∃ k,k≤q∧f k=true∧∀ m,m<k→f m=false:=fun q=>by
              induction q using Nat.strongRecOn with
              | _ q ihq=>
                intro hq
                by_cases hz:∃ z,z<q∧f z=true
                · obtain⟨z,hz1,hz2⟩:=hz
                  obtain⟨k,h1,h2,h3⟩:=ihq z hz1 hz2
                  exact⟨k,by omega,h2,h3⟩
                · exact⟨q,Nat.le_refl _,hq,fun m hm=>by
                    cases hfm:f m with
                    |false=>rfl
                    |true=>exact absurd ⟨m,hm,hfm⟩ hz⟩
            obtain⟨k,h1,h2,h3⟩:=this m hm2
            exact⟨k,by omega,h2,h3⟩
          · exact⟨j+1,Nat.le_refl _,hj2,fun m hm=>by
              cases hfm:f m with
              |false=>rfl
              |true=>exact absurd ⟨m,by omega,hfm⟩ hq⟩
      have:=find_at (n:=n) (k:=k) (by omega) hk3 hk2
      rw [h] at this
      cases this
      omega
theorem psV_zero {ads:List AdR} {p:List StR}:(psV ads p).2=0↔psOk ads p:=by
  constructor
  · intro h
    by_cases h12:12<p.length
    · rw [psV_big h12] at h;cases h
    · refine⟨by omega,fun i hi=>?_⟩
      rcases find_range (n:=p.length) (f:=fun i=>decide (psErrAt ads p i≠0)) with ⟨h1,_⟩|⟨k,hk,h1,h2,_⟩
      · exact Decidable.byContradiction fun h3=>by have:=h1 i hi;simp [h3] at this
      · have h1:psErrAt ads p k≠0:=of_decide_eq_true h1
        rw [psV_at (c:=psErrAt ads p k) (by omega) hk (fun j hj=>by have:=of_decide_eq_false (h2 j hj);omega) rfl h1] at h
        exact absurd h h1
  · rintro⟨h1,h2⟩
    rw [psV_no h1 h2]
theorem psOk_st {b:BnR} (hb:Bnd b) {p:List StR} (h:psOk b.ads p) {i:Nat} (hi:i<p.length):(0≤(p.getD i stz).ad∧(p.getD i stz).ad≤(b.ads.length:Int) - 1)∧(-(b.ads.getD (p.getD i stz).ad.toNat adz).pass≤(p.getD i stz).n∧(p.getD i stz).n≤(b.ads.getD (p.getD i stz).ad.toNat adz).pass)∧(-1000≤(p.getD i stz).n∧(p.getD i stz).n≤1000):=by
  have h:=h.2 i hi
  unfold psErrAt at h
  by_cases h1:0≤(p.getD i stz).ad∧(p.getD i stz).ad≤(b.ads.length:Int) - 1
  · rw [if_neg (by omega)] at h
    by_cases h2:0≤fdx (isS (p.getD i stz).ad) (p.take i)
    · rw [if_pos h2] at h;omega
    · rw [if_neg h2] at h
      by_cases h3:(p.getD i stz).n=0
      · rw [if_pos h3] at h;omega
      · rw [if_neg h3] at h
        by_cases h4: -(b.ads.getD (p.getD i stz).ad.toNat adz).pass≤(p.getD i stz).n∧(p.getD i stz).n≤(b.ads.getD (p.getD i stz).ad.toNat adz).pass
        · have h5:=hb.pa (p.getD i stz).ad.toNat (by omega)
          exact⟨h1,h4,by omega⟩
        · rw [if_pos h4] at h;omega
  · rw [if_pos h1] at h;omega
theorem addS_bd{b:BnR}(hb:Bnd b){p:List StR}(h:psOk b.ads p){s:List Int}{c:Int}(hc:0≤c)(hs:∀ i, -c≤s.getD i 0∧s.getD i 0≤c):∀ k,k≤p.length→∀ i, -(c+1000*(k:Int))≤(addS p s k).getD i 0∧(addS p s k).getD i 0≤c+1000*(k:Int)
  |0,_=>fun i=>by have:=hs i;simp only [addS];omega
  | k+1,hk=>fun i=>by
    have ih:=addS_bd hb h hc hs k (by omega)
    have h1:=(psOk_st hb h (i:=k) (by omega)).2.2
    have h2:=ih (p.getD k stz).ad.toNat
    have h3:=ih i
    simp only [addS,getD_set]
    split<;>omega
/-- the sums behind the first passes -/
def smK(b:BnR)(pl:List (List StR)):Nat→List Int
  |0=>List.replicate b.ads.length 0
  |k+1=>addS (pl.getD k []) (smK b pl k) (pl.getD k []).length
theorem smK_length(b:BnR)(pl:List (List StR)):∀ k,(smK b pl k).length=b.ads.length
  |0=>by simp [smK]
  |k+1=>by rw [smK,addS_length,smK_length b pl k]
def plErrAt(b:BnR)(pl:List (List StR))(i:Nat):Int:=if (psV b.ads (pl.getD i [])).2≠0 then (psV b.ads (pl.getD i [])).2 else stErr b.ads (smK b pl (i+1))
def plI(b:BnR)(pl:List (List StR)):Option Nat:=(List.range pl.length).find? (fun i=>decide (plErrAt b pl i≠0))
/-- what Sums returns: the sums, the number, the error -/
def smS(b:BnR)(pl:List (List StR)):List Int:=if 50<pl.length then [] else match plI b pl with|some _=>[]|none=>smK b pl pl.length
def smN(b:BnR)(pl:List (List StR)):Int:=if 50<pl.length then 0 else match plI b pl with|some i=>(i:Int)|none=>0
def smE(b:BnR)(pl:List (List StR)):Int:=if 50<pl.length then 8 else match plI b pl with|some i=>plErrAt b pl i|none=>0
theorem sm_big{b:BnR}{pl:List (List StR)}(h:50<pl.length):smS b pl=[]∧smN b pl=0∧smE b pl=8:=by
  unfold smS smN smE;rw [if_pos h,if_pos h,if_pos h];exact⟨rfl,rfl,rfl⟩
theorem sm_at{b:BnR}{pl:List (List StR)}{i:Nat}{c:Int}(h50:pl.length≤50)(hi:i<pl.length)(h0:∀ j,j<i→plErrAt b pl j=0)(h:plErrAt b pl i=c)(hc:c≠0):smS b pl=[]∧smN b pl=(i:Int)∧smE b pl=c:=by
  have e:plI b pl=some i:=by unfold plI;exact find_at hi (fun j hj=>by rw [h0 j hj];rfl) (by rw [h];exact decide_eq_true hc)
  unfold smS smN smE
  rw [if_neg (by omega),if_neg (by omega),if_neg (by omega),e]
  exact⟨rfl,rfl,h⟩
theorem sm_no{b:BnR}{pl:List (List StR)}(h50:pl.length≤50)(h0:∀ j,j<pl.length→plErrAt b pl j=0):smS b pl=smK b pl pl.length∧smN b pl=0∧smE b pl=0:=by
  have e:plI b pl=none:=by unfold plI;exact find_no (fun j hj=>by rw [h0 j hj];rfl)
  unfold smS smN smE
  rw [if_neg (by omega),if_neg (by omega),if_neg (by omega),e]
  exact⟨rfl,rfl,rfl⟩
theorem sm_cases(b:BnR)(pl:List (List StR)):50<pl.length∧smS b pl=[]∧smN b pl=0∧smE b pl=8∨pl.length≤50∧(∃ i,i<pl.length∧(∀ j,j<i→plErrAt b pl j=0)∧plErrAt b pl i≠0∧smS b pl=[]∧smN b pl=(i:Int)∧smE b pl=plErrAt b pl i)∨pl.length≤50∧(∀ j,j<pl.length→plErrAt b pl j=0)∧smS b pl=smK b pl pl.length∧smN b pl=0∧smE b pl=0:=by
  by_cases h:50<pl.length
  · exact .inl ⟨h,sm_big h⟩
  · refine .inr ?_
    rcases find_range (n:=pl.length) (f:=fun i=>decide (plErrAt b pl i≠0)) with ⟨h1,_⟩|⟨k,hk,h1,h2,_⟩
    · have h0:∀ j,j<pl.length→plErrAt b pl j=0:=fun j hj=>by have:=of_decide_eq_false (h1 j hj);omega
      exact .inr ⟨by omega,h0,sm_no (by omega) h0⟩
    · have h0:∀ j,j<k→plErrAt b pl j=0:=fun j hj=>by have:=of_decide_eq_false (h2 j hj);omega
      exact .inl ⟨by omega,k,hk,h0,of_decide_eq_true h1,sm_at (by omega) hk h0 rfl (of_decide_eq_true h1)⟩
theorem plErr_ok{b:BnR}{pl:List (List StR)}{i:Nat}(h:plErrAt b pl i=0):psOk b.ads (pl.getD i [])∧stOk b.ads (smK b pl (i+1)):=by
  unfold plErrAt at h
  by_cases h1:(psV b.ads (pl.getD i [])).2=0
  · rw [if_neg (by omega)] at h
    exact⟨psV_zero.1 h1,stErr_iff.1 h⟩
  · rw [if_pos h1] at h;omega
theorem smK_ok{b:BnR}(hb:Bnd b){pl:List (List StR)}{k:Nat}(h:∀ j,j<k→plErrAt b pl j=0):stOk b.ads (smK b pl k):=by
  cases k with
  |zero=>exact rep_ok hb
  |succ k=>exact(plErr_ok (h k (by omega))).2
theorem smS_ok{b:BnR}(hb:Bnd b){pl:List (List StR)}(h:smE b pl=0):stOk b.ads (smS b pl):=by
  rcases sm_cases b pl with ⟨_,_,_,h1⟩|⟨_,i,_,_,h2,_,_,h3⟩|⟨_,h1,h2,_,_⟩
  · omega
  · omega
  · rw [h2];exact smK_ok hb h1
theorem smK_bd{b:BnR}(hb:Bnd b){pl:List (List StR)}{k:Nat}(h:∀ j,j<k→plErrAt b pl j=0):∀ i, -1000≤(smK b pl k).getD i 0∧(smK b pl k).getD i 0≤1000:=fun i=>by
  have h1:=smK_ok hb h
  rcases Nat.lt_or_ge i b.ads.length with hi|hi
  · exact steps_bd hb h1.2 i hi
  · rw [List.getD_eq_getElem?_getD,List.getElem?_eq_none (by rw [h1.1];exact hi)]
    exact⟨by decide,by decide⟩
/-- what CheckPlan returns -/
def cpE(b:BnR)(pl:List (List StR)):Int:=if smE b pl≠0 then smE b pl else if brkP b (smS b pl) b.ms.length≠[] then 26 else 0
def cpN(b:BnR)(pl:List (List StR)):Int:=if smE b pl≠0 then smN b pl else (((brkP b (smS b pl) b.ms.length).getD 0 0:Nat):Int)
theorem brk_first{b:BnR}{l:List Int}{n i:Nat}(hi:i<n)(h0:brkP b l i=[])(h:brkB b l i=true):(brkP b l n).getD 0 0=i:=by
  obtain⟨d,rfl⟩:∃ d,n=i+1+d:=⟨n - (i+1),by omega⟩
  clear hi
  induction d with
  |zero=>rw [Nat.add_zero,brkP_succ,if_pos h,h0];rfl
  | succ d ih=>
    rw [←Nat.add_assoc,brkP_succ]
    have hne:brkP b l (i+1+d)≠[]:=brk_ne (by omega) h
    split
    · cases he:brkP b l (i+1+d) with
      |nil=>exact absurd he hne
      |cons p r=>rw [he] at ih;exact ih
    · exact ih
theorem okpls{es:List (List V)}(h:∀ x∈es,Okc (.sl TySt) x):∃ l:List (List StR),es=plV l:=by
  induction es with
  |nil=>exact⟨[],rfl⟩
  | cons x xs ih=>
    obtain⟨o,rfl⟩:=ih fun y hy=>h y (List.mem_cons_of_mem _ hy)
    obtain⟨vs,rfl,_,h2⟩:=h x List.mem_cons_self
    obtain⟨p,rfl⟩:=oksts h2
    exact⟨p::o,rfl⟩
def frzC(b:Nat)(es:List (List V)):Blk→Blk
  | .cells st ty sz xs=> .cells st ty sz (xs.map (List.map (frzV b es)))
  |x=>x
theorem frzC_bad(b:Nat)(es:List (List V))(x:Blk):(frzC b es x).bad=x.bad:=by cases x with|cells st _ _ _=>cases st<;>rfl|obj st _ _=>rfl|dead=>rfl
theorem frzC_own(b:Nat)(es:List (List V))(x:Blk):(frzC b es x).own=x.own:=by cases x with|cells st _ _ _=>cases st<;>rfl|obj st _ _=>rfl|dead=>rfl
theorem frzC_dead{b:Nat}{es:List (List V)}{x:Blk}(h:frzC b es x≠ .dead):x≠ .dead:=by rintro rfl;exact h rfl
theorem frzX_get{b:Nat}{es:List (List V)}{B Y:Mem}{c:Nat}{blk:Blk}(h:(B++Y.map (frzC b es))[c]?=some blk):∃ x,(B++Y)[c]?=some x∧(blk=x∨blk=frzC b es x):=by
  rcases Nat.lt_or_ge c B.length with q|q
  · rw [List.getElem?_append_left q] at h
    exact⟨blk,by rw [List.getElem?_append_left q];exact h,.inl rfl⟩
  · rw [List.getElem?_append_right q,List.getElem?_map,Option.map_eq_some_iff] at h
    obtain⟨x,h1,rfl⟩:=h
    exact⟨x,by rw [List.getElem?_append_right q];exact h1,.inr rfl⟩
theorem frzC_has{p:Blk→Bool}{b:Nat}{es:List (List V)}(hp:∀ x,p (frzC b es x)=p x){B Y:Mem}{ρ:List Re}{k:Nat}:has p (B++Y.map (frzC b es)) ρ k→has p (B++Y) ρ k:=by
  rintro⟨c,blk,r,h1,h2,h3,h4⟩
  obtain⟨x,h1,e⟩:=frzX_get h1
  refine⟨c,x,r,h1,?_,h3,h4⟩
  rcases e with rfl|rfl
  · exact h2
  · exact(hp x).symm.trans h2
theorem frzV_one{b:Nat}{es:List (List V)}{v:V}(h:v.one=true):(frzV b es v).one=true:=by
  unfold frzV
  split
  · split
    · rfl
    · exact h
  · exact h
theorem RelM.fzC {w:World} {ρ:List Re} {B X:Mem} (hM:RelM w ρ (B++X)) {j:Nat} {st:Sta} {ty sz:Nat} {es:List (List V)} (hX:X[j]?=some (.cells st ty sz es)):RelM w ρ (B++(X.set j (.cells .ro ty sz es)).map (frzC (B.length+j) es)):=by
  have hb:(B++X)[B.length+j]?=some (.cells st ty sz es):=by rw [List.getElem?_append_right (Nat.le_add_right _ _),Nat.add_sub_cancel_left];exact hX
  have hset:(B++X).set (B.length+j) (.cells .ro ty sz es)=B++X.set j (.cells .ro ty sz es):=by rw [List.set_append_right _ _ (Nat.le_add_right _ _),Nat.add_sub_cancel_left]
  have af:=After.of_ro hM hb
  have h1:=af.mem
  have hfr:=fun {v:V} {x:Value} (h:RelV w ρ (bad (B++X) ρ) v x)=>frzV_rel hM hb h
  have hgen:=fun {v:V} {x:Value} (h:RelV w ρ (bad (B++X) ρ) v x)=>af.rel h
  rw [hset] at h1
  simp only [hset] at hfr hgen
  have hjl:j<X.length:=(List.getElem?_eq_some_iff.1 hX).1
  have hsub:∀ k,bad (B++(X.set j (.cells .ro ty sz es)).map (frzC (B.length+j) es)) ρ k→bad (B++X.set j (.cells .ro ty sz es)) ρ k:=fun k=>frzC_has (frzC_bad _ es)
  have hrel:∀ {v:V} {x:Value},RelV w ρ (bad (B++X.set j (.cells .ro ty sz es)) ρ) v x→RelV w ρ (bad (B++(X.set j (.cells .ro ty sz es)).map (frzC (B.length+j) es)) ρ) v x:=fun hr=>hr.mono (Nat.le_refl _) (fun _ _ _=>rfl) (fun k _ h=>hsub k h) (fun _ _ h=>h)
  have old:∀ {c:Nat} {st':Sta} {ty' sz':Nat} {es0:List (List V)},(B++X.set j (.cells .ro ty sz es))[c]?=some (.cells st' ty' sz' es0)→∃ st1,(B++X)[c]?=some (.cells st1 ty' sz' es0):=by
    intro c st' ty' sz' es0 hx
    rcases Nat.lt_or_ge c B.length with q|q
    · rw [List.getElem?_append_left q] at hx
      exact⟨st',by rw [List.getElem?_append_left q];exact hx⟩
    · rw [List.getElem?_append_right q,List.getElem?_set] at hx
      split at hx
      · rename_i e
        simp only [←e,Option.some.injEq,hjl,if_true] at hx
        cases hx
        exact⟨st,by rw [List.getElem?_append_right q,←e];exact hX⟩
      · exact⟨st',by rw [List.getElem?_append_right q];exact hx⟩
  refine⟨by simpa using h1.len,fun c st' ty' sz' es' hc=>?_,fun c c' blk blk' r r' a1 a2 a3 a4 a5 a6 a7=>?_,fun c st' vs φ hc=>?_⟩
  · obtain⟨x,hx,he⟩:=frzX_get hc
    rcases he with rfl|he
    · obtain⟨st1,hm⟩:=old hx
      obtain⟨r,cur,k1,k2,k3,k4,k5,k6,k7,k8,k9⟩:=hM.cells c st1 ty' sz' es' hm
      refine⟨r,cur,k1,k2,k3,k4,k5,k6,k7,k8,fun i j e v a1 a2=>?_⟩
      obtain⟨b1,y,b2,b3⟩:=k9 i j e v a1 a2
      exact⟨b1,y,b2,hrel (hgen b3)⟩
    · cases x with
      | cells st0 ty0 sz0 es0=>
        simp only [Go.Proofs.YtnablpehkeicmaaGreat.frzC,Blk.cells.injEq] at he
        obtain⟨rfl,rfl,rfl,rfl⟩:=he
        obtain⟨st1,hm⟩:=old hx
        obtain⟨r,cur,k1,k2,k3,k4,k5,k6,k7,k8,k9⟩:=hM.cells c st1 ty' sz' es0 hm
        refine⟨r,cur,k1,k2,k3,k4,k5,by simpa using k6,k7,fun e he=>?_,fun i j e v a1 a2=>?_⟩
        · obtain⟨e0,h2,rfl⟩:=List.mem_map.1 he
          simpa using k8 e0 h2
        · rw [List.getElem?_map,Option.map_eq_some_iff] at a1
          obtain⟨e0,a1,rfl⟩:=a1
          rw [List.getElem?_map,Option.map_eq_some_iff] at a2
          obtain⟨v0,a2,rfl⟩:=a2
          obtain⟨b1,y,b2,b3⟩:=k9 i j e0 v0 a1 a2
          exact⟨frzV_one b1,y,b2,hrel (hfr b3)⟩
      |obj _ _ _=>simp [Go.Proofs.YtnablpehkeicmaaGreat.frzC] at he
      |dead=>simp [Go.Proofs.YtnablpehkeicmaaGreat.frzC] at he
  · obtain⟨x,hx,e1⟩:=frzX_get a1
    obtain⟨x',hx',e2⟩:=frzX_get a3
    refine h1.inj c c' x x' r r' hx ?_ hx' ?_ a5 a6 a7
    · rcases e1 with rfl|rfl
      · exact a2
      · exact frzC_dead a2
    · rcases e2 with rfl|rfl
      · exact a4
      · exact(frzC_bad _ es x').symm.trans a4
  · obtain⟨x,hx,he⟩:=frzX_get hc
    have hx2:(B++X.set j (.cells .ro ty sz es))[c]?=some (.obj st' vs φ):=by
      rcases he with rfl|he
      · exact hx
      · cases x with
        |cells _ _ _ _=>simp [Go.Proofs.YtnablpehkeicmaaGreat.frzC] at he
        |dead=>simp [Go.Proofs.YtnablpehkeicmaaGreat.frzC] at he
        |obj st0 vs0 φ0=>rw [he];exact hx
    obtain⟨r,k1,k2⟩:=h1.objs c st' vs φ hx2
    exact⟨r,k1,k2.mono (fun _=>rfl) fun v x h=>hrel h⟩
section
variable {P:Program} {N:Nat} {t:List (Nat×V)} {m:Mem}
theorem WA_fzM{c:Code}{Q:Exit→List (Nat×V)→Mem→Prop}{B X:Mem}{j:Nat}{st:Sta}{ty sz:Nat}{es:List (List V)}(hX:X[j]?=some (.cells st ty sz es))(h:WA P N c (t.map fun p=>(p.1,frzV (B.length+j) es p.2)) (B++(X.set j (.cells .ro ty sz es)).map (frzC (B.length+j) es)) Q):WA P N c t (B++X) Q:=by
  intro F hF z w ρ a hR
  have hb:(B++X)[B.length+j]?=some (.cells st ty sz es):=by rw [List.getElem?_append_right (Nat.le_add_right _ _),Nat.add_sub_cancel_left];exact hX
  have hset:(B++X).set (B.length+j) (.cells .ro ty sz es)=B++X.set j (.cells .ro ty sz es):=by rw [List.set_append_right _ _ (Nat.le_add_right _ _),Nat.add_sub_cancel_left]
  have af0:=After.of_ro hR.mem hb
  have hM2:=hR.mem.fzC hX
  have hfr:=fun i=>frzV_rel hR.mem hb (hR.tm i)
  rw [hset] at af0
  simp only [hset] at hfr
  have hsub:∀ k,bad (B++(X.set j (.cells .ro ty sz es)).map (frzC (B.length+j) es)) ρ k→bad (B++X.set j (.cells .ro ty sz es)) ρ k:=fun k=>frzC_has (frzC_bad _ es)
  have af:After w ρ (B++X) w ρ (B++(X.set j (.cells .ro ty sz es)).map (frzC (B.length+j) es)):=⟨af0.keep,af0.pre,hM2,fun k hk ho=>af0.own k hk (frzC_has (frzC_own _ es) ho),fun k hk ho=>af0.bd k hk (hsub k ho)⟩
  have e:∀ (t:List (Nat×V)) i,tget (t.map fun p=>(p.1,frzV (B.length+j) es p.2)) i=frzV (B.length+j) es (tget t i):=by
    intro t i
    induction t with
    |nil=>rfl
    | cons p r ih=>
      simp only [List.map_cons,tget]
      split
      · rfl
      · exact ih
  refine wpIn_mono (h F hF z w ρ a ⟨hM2,fun i=>?_,hR.size,hR.defers.after af⟩) ?_
  · rw [e];exact(hfr i).mono (Nat.le_refl _) (fun _ _ _=>rfl) (fun k _ h=>hsub k h) (fun _ _ h=>h)
  · rintro e a1 w1 ⟨t',m',ρ',hq,hR',af'⟩
    exact⟨t',m',ρ',hq,hR',af.trans af'⟩
/-- a stop behind a piece of code -/
theorem WA_stop{x y:Code}{Q:Exit→List (Nat×V)→Mem→Prop}(h:∀ K:List (Nat×V)→Mem→Prop,(∀ t m,WA P N y t m Q→K t m)→WA P N x t m (qThen K Q)):WA P N (.seq x y) t m Q:=WA_seq' (h _ fun _ _ h=>h)
end
end Go.Proofs.YtnablpehkeicmaaGreat
