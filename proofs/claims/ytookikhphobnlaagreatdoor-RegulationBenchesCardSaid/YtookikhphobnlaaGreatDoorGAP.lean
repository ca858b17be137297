import Derived.Test.YtookikhphobnlaaGreatDoorGAM
import Derived.Test.YtookikhphobnlaaGreatDoorB9
import Derived.Test.YtookikhphobnlaaGreatDoorGAN
import Derived.Test.YtookikhphobnlaaGreatDoorB26
set_option linter.unusedSimpArgs false
set_option linter.unusedVariables false
/- contracts: sweep and settle -/
namespace Go.Proofs.YtookikhphobnlaaGreatDoor
open Go.RowKit
attribute [local irreducible] WA WOs WDs WAn qThen qBlock tput
set_option maxHeartbeats 1000000
set_option maxRecDepth 20000
set_option linter.unusedSimpArgs false
set_option linter.unusedVariables false
def stK(b:BnR):Nat→List Int
  |0=>List.replicate b.ads.length 0
  |k+1=>sweepP b (stK b k)
theorem rep_ok{b:BnR}(hb:Bnd b):stOk b.ads (List.replicate b.ads.length 0):=by
  refine⟨by simp,fun i hi=>?_⟩
  have e:(List.replicate b.ads.length (0:Int)).getD i 0=0:=by simp [List.getD_eq_getElem?_getD,List.getElem?_replicate,hi]
  rw [e]
  have h1:=hb.le i hi
  have h2:=hb.mo i hi
  exact⟨h1.2,h2.1⟩
theorem stK_ok{b:BnR}(hb:Bnd b):∀ k,stOk b.ads (stK b k)
  |0=>rep_ok hb
  |k+1=>sweepP_ok (stK_ok hb k)
def stO(b:BnR)(k:Nat):List (List Int):=(List.range k).map fun j=>stK b (j+1)
theorem stO_succ(b:BnR)(k:Nat):stO b (k+1)=stO b k++[stK b (k+1)]:=by simp [stO,List.range_succ]
theorem stO_len(b:BnR)(k:Nat):(stO b k).length=k:=by simp [stO]
def stH(b:BnR)(k:Nat):Bool:=decide (brkP b (stK b k) b.ms.length=[])
def stI(b:BnR)(n:Nat):Option Nat:=(List.range (n+1)).find? (stH b)
theorem find_at{f:Nat→Bool}{n k:Nat}(hk:k<n)(h0:∀ j,j<k→f j=false)(h:f k=true):(List.range n).find? f=some k:=by
  rw [List.find?_eq_some_iff_getElem]
  refine⟨h,k,by simpa using hk,by simp,fun j hj=>?_⟩
  simp [h0 j hj]
theorem find_no{f:Nat→Bool}{n:Nat}(h0:∀ j,j<n→f j=false):(List.range n).find? f=none:=by
  rw [List.find?_eq_none]
  intro x hx
  simp [h0 x (List.mem_range.1 hx)]
/-- the steps behind each sweep, or that there are too many -/
def setV(b:BnR)(n:Nat):V:=match stI b n with
  |some k=> .tup [.lst (rwV (stO b k)),.int .i64 0]
  |none=> .tup [.lst [],.int .i64 12]
theorem frz_bpx{m:Mem}{L n:Nat}(b:BnR):frz m L n (.bp (bxC b) 0)=some (.bp (bxC b) 0):=frz_plain _ _ _ (by simpa [V.plain] using bxC_plain b) (by simp) (by simp) (by simp) (by simp)
theorem gwith_ok(b:BnR)(hb:Bl b)(h0:bnErr b=0)(l:List Int)(m:Mem):Gives Tryz.prog 54 [.agg (bnV b),.lst (nsV l)] m (.tup [.bp (bxC b) 0,.int .i64 (stErr b.ads l)]):=by
  have hop:=fun m=>gopen_ok b hb h0 m
  have hfa:=(bn_ok h0).fa
  unfold bnV at hop ⊢
  refine CallA_in Tryz.func54 rfl Tryz.ntmps54 Tryz.results54 (by kernel_rfl) (by simp) fun Q hQ=>?_
  (have FX:=hfa;repeat'(first|(refine sx ?_ ?_<;>intro h<;>first|(exfalso;omega)|skip)|(refine g_op ?_;refine g_call ?_;refine g_args ?_;(first|refine s_fn (hop _) ?_|refine s_fn (gchecksteps_c b hfa l _) ?_)<;>try first|omega|assumption)|refine ny ?_|refine WA_block ?_))
  all_goals(try(exfalso;omega))
  all_goals(refine r_esA hQ (.inr ⟨_,_,rfl,?_,⟨rfl,rfl⟩⟩))
  all_goals(show(frzs (frz _ _ 3) [_,_]).map V.tup=_;rw [frzs_cons (frz_bpx b) (frzs_cons (frz_int _ _ _ _ _) rfl)];rfl)
/-- the error of a bench and steps -/
def bsErr(b:BnR)(l:List Int):Int:=if bnErr b≠0 then bnErr b else stErr b.ads l
theorem fin_sli{m0 D X B:Mem}{k:Nat}{st:Sta}{ty sz:Nat}{es:List (List V)}{c:Int}{R:V→Option Mem→Prop}(hB:B=lend m0++D)(hX:X[0]?=some (.cells st ty sz es))(hk:es.length=k)(hp:plainLL es=true)(h:R (.tup [.lst es,.int .i64 c]) none):Fin m0 R (.tup [.sl B.length k,.int .i64 c]) (B++X):=by
  subst hB
  refine .inr ⟨D++X,_,by simp,?_,h⟩
  show(frzs (frz _ _ 3) [_,_]).map V.tup=_
  have e:frz ((lend m0++D)++X) m0.length 3 (.sl (lend m0++D).length k)=some (.lst es):=frz_own (m0:=m0) (D:=D) (n:=2) (j:=0) hX hk hp
  rw [frzs_cons e (frzs_cons (frz_int _ _ _ _ _) rfl)]
  rfl
def seS(b:BnR)(most:Int)(k:Nat):List TV:=[.v (.int .i64 most),.v (.bp (bxC b) 0),match k with|0=> .v .nilsl|k+1=> .sl 0 (k+1),.v (.lst (nsV (stK b k)))]
def seE(b:BnR):Nat→List TB
  |0=>[]
  |k+1=>[.cells .own 43 1 ((rwV (stO b (k+1))).map (List.map TV.v))]
theorem seE_ok{b:BnR}{k:Nat}:(seE b k).all (TB.ok (seE b k).length)=true:=by
  cases k with
  |zero=>simp [seE]
  |succ k=>simp only [seE,List.all_cons,TB.ok,TV.okT,List.all_nil,Bool.and_true,Bool.and_self,tvs_ok,List.length_cons,List.length_nil]
theorem seS_ok{b:BnR}{most:Int}{k:Nat}:(seS b most k).all (TV.okT (seE b k).length)=true:=by
  cases k with
  |zero=>simp [seS,TV.okT]
  |succ k=>simp [seS,seE,TV.okT]

theorem gSettle_ok(b:BnR)(hb:Bl b)(h0:bnErr b=0)(n:Nat)(hn:n≤100)(m:Mem):Gives Tryz.prog 26 [.agg (bnV b),.int .i64 n] m (setV b n):=by
  have hop:=fun m=>gopen_ok b hb h0 m
  have hbd:=bnd_ok (bn_ok h0)
  have hfa:=hbd.fa
  have hla:=adsV_length (l:=b.ads)
  have hre:∀ k,k=b.ads.length→List.replicate k [V.int .i64 0]=nsV (stK b 0):=fun k h=>by rw [h];simp [nsV,stK]
  have hll:=hla
  have hlt:=hla
  suffices key:CallA Tryz.prog 26 [.agg (bnV b),.int .i64 n] m (fun v mo=>mo=none∧WkV v (setV b n)) from Gives_of key fun v mo h=>h
  unfold bnV at hop ⊢
  refine CallA_in Tryz.func26 rfl Tryz.ntmps26 Tryz.results26 (by kernel_rfl) (by simp) fun Q hQ=>?_
  (have FX:=And.intro hla (And.intro hre (And.intro hll hlt));repeat'(first|(refine sx ?_ ?_<;>intro h<;>first|(exfalso;omega)|skip)|(refine g_op ?_;refine g_call ?_;refine g_args ?_;(first|refine s_fn (hop _) ?_|refine s_fn (gwithin_c _ _ _ _) ?_)<;>try first|omega|assumption)|refine ny ?_|refine WA_block ?_))
  all_goals(try(exfalso;omega))
  have hz0:(nsV (stK b 0)).length=b.ads.length:=by rw [nsV_length];simp [stK]
  refine fzJ (B:=lend m) (j:=1) rfl ?_
  simp only [List.map_cons,List.map_nil,frzV,List.set_cons_succ,List.set_cons_zero,argT]
  rw [if_pos ⟨by first|rfl|trivial|omega,by rw [hz0];exact Nat.le_refl _⟩,List.take_of_length_le (by rw [hz0];exact Nat.le_refl _)]
  refine WA_whileJ (σ:=Nat) (L:=lend m) [1,6,8,9] (fun k=>seS b n k) (fun k=>seE b k) (fun k=>k≤n∧∀ j,j<k→stH b j=false) (fun k=>n+1 - k) 0 [] ⟨Nat.zero_le _,fun j h=>absurd h (Nat.not_lt_zero _)⟩ ?_ rfl rfl (by decide) (by decide) (fun _ _=>seS_ok) (fun _ _=>seE_ok) ?_
  · exact tv_
  rintro k ⟨hk1,hk2⟩ B ⟨D,hB⟩ K hK
  clear FX hre hll hlt hop
  have hop:=hla
  have hre:=hla
  have hsk:=stK_ok hbd k
  have hho:=fun m=>gholds_c b hbd (stK b k) hsk.1 (steps_bd hbd hsk.2) m
  have hde:stH b k=decide (brkP b (stK b k) b.ms.length=[]):=rfl
  have hsw:=fun m=>gsweep_c b hbd (stK b k) hsk m
  have hsk1:sweepP b (stK b k)=stK b (k+1):=rfl
  rw [hsk1] at hsw
  have hlk1:(stK b (k+1)).length≤100000:=by rw [(stK_ok hbd (k+1)).1];omega
  have hcl:=fun m=>gclone_v (stK b (k+1)) hlk1 m
  have hnx:=hK (k+1)
  have hny:=fun(_:Unit)=>hnx
  clear hnx hK
  have hor:rwV (stO b (k+1))=rwV (stO b k)++[[V.lst (nsV (stK b (k+1)))]]:=by rw [stO_succ,rwV_snoc]
  have hyes:brkP b (stK b k) b.ms.length=[]→setV b n= .tup [.lst (rwV (stO b k)),.int .i64 0]:=fun h=>by
    unfold setV stI
    rw [find_at (k:=k) (by omega) hk2 (hde.trans (decide_eq_true h))]
  have hno:¬ brkP b (stK b k) b.ms.length=[]→k=n→setV b n= .tup [.lst [],.int .i64 12]:=fun h e=>by
    unfold setV stI
    rw [find_no fun j hj=>?_]
    rcases Nat.lt_or_ge j k with q|q
    · exact hk2 j q
    · obtain rfl:j=k:=by omega
      exact hde.trans (decide_eq_false h)
  have hup:¬ brkP b (stK b k) b.ms.length=[]→∀ j,j<k+1→stH b j=false:=fun h=>up_false hk2 (hde.trans (decide_eq_false h))
  cases k with
  | zero =>
    have hll:=hla
    have hlt:=hla
    have hor0:rwV (stO b (0+1))=[[V.lst (nsV (stK b (0+1)))]]:=hor
    simp only [seS,seE]
    simp only [List.map_cons,List.map_nil,TB.inst,TV.inst,tv_map,zipT,List.cons_append,List.nil_append,Nat.add_zero]
    (have FX:=And.intro hla (And.intro hre (And.intro hll hlt));repeat'(first|(refine sx ?_ ?_<;>intro h<;>first|(exfalso;omega)|skip)|(refine g_op ?_;refine g_call ?_;refine g_args ?_;(first|refine s_fn (hho _) ?_|refine s_fn (hsw _) ?_|refine s_fn (hcl _) ?_)<;>try first|omega|assumption)|refine ny ?_|refine WA_block ?_))
    all_goals(try(exfalso;omega))
    all_goals first
      | (refine r_esA hQ (.inl ⟨rfl,rfl,?_⟩)
         rw [hyes (by assumption)]
         exact wk_tup ⟨wk_nil,WkV.refl _,trivial⟩)
      | (refine r_esA hQ (.inl ⟨rfl,rfl,?_⟩)
         rw [hno (by assumption) (by omega)]
         exact wk_tup ⟨wk_nil,WkV.refl _,trivial⟩)
      |((refine nextU_ hny (()) [1] (⟨by omega,hup (by assumption)⟩) (by omega) ?_ (ht:=?_);(focus (simp only [seE,hor0,List.map_cons,List.map_nil,TB.inst,TV.inst,tv_map,List.cons_append,List.nil_append];first|rfl|(simp [ptsV,ptV];done)|(simp [hpsV,hpV];done)|(simp [frsV,frV];done)|(simp [txV];done)|(simp [prtsV,prtV];done)));(simp only [seS,List.map_cons,List.map_nil,TV.inst,List.getD_cons_zero,List.getD_cons_succ];exact tv_)))
  | succ k=>
    have hll:(rwV (stO b (k+1))).length=k+1:=by rw [rwV_length,stO_len]
    have hlt:(rwV (stO b (k+1))).take (k+1)=rwV (stO b (k+1)):=List.take_of_length_le (by rw [hll];exact Nat.le_refl _)
    simp only [seS,seE]
    simp only [List.map_cons,List.map_nil,TB.inst,TV.inst,tv_map,zipT,List.cons_append,List.nil_append,Nat.add_zero]
    (have FX:=And.intro hla (And.intro hre (And.intro hll hlt));repeat'(first|(refine sx ?_ ?_<;>intro h<;>first|(exfalso;omega)|skip)|(refine g_op ?_;refine g_call ?_;refine g_args ?_;(first|refine s_fn (hho _) ?_|refine s_fn (hsw _) ?_|refine s_fn (hcl _) ?_)<;>try first|omega|assumption)|refine ny ?_|refine WA_block ?_))
    all_goals(try(exfalso;omega))
    all_goals first
      | (refine r_esA hQ (fin_sli hB rfl hll (rwV_plain _) ⟨rfl,?_⟩)
         rw [hyes (by assumption)]
         exact WkV.refl _)
      | (refine r_esA hQ (.inl ⟨rfl,rfl,?_⟩)
         rw [hno (by assumption) (by omega)]
         exact wk_tup ⟨wk_nil,WkV.refl _,trivial⟩)
      |((refine nextU_ hny (()) [2] (⟨by omega,hup (by assumption)⟩) (by omega) ?_ (ht:=?_);(focus (simp only [seE,hor,List.map_cons,List.map_nil,TB.inst,TV.inst,tv_map,List.cons_append,List.nil_append];first|rfl|(simp [ptsV,ptV];done)|(simp [hpsV,hpV];done)|(simp [frsV,frV];done)|(simp [txV];done)|(simp [prtsV,prtV];done)));(simp only [seS,List.map_cons,List.map_nil,TV.inst,List.getD_cons_zero,List.getD_cons_succ];exact tv_)))
end Go.Proofs.YtookikhphobnlaaGreatDoor
namespace Go.Proofs.YtookikhphobnlaaGreatDoor
open Go.RowKit
attribute [local irreducible] WA WOs WDs WAn qThen qBlock tput
set_option maxHeartbeats 1000000
set_option maxRecDepth 20000
set_option linter.unusedSimpArgs false
set_option linter.unusedVariables false
set_option maxHeartbeats 4000000
def lenL(b:BnR):Prop:=¬ (5<b.ms.length∧b.ms.length≤12∨15<b.ms.length∨4<b.ads.length∧b.ads.length≤12∨15<b.ads.length)
instance(b:BnR):Decidable (lenL b):=inferInstanceAs (Decidable (¬ _))
def adL(a:AdR):Prop:=¬ (30<a.name.length∨15<a.effs.length∨15<a.after.length)∧(∀ k,k<a.effs.length→(a.effs.getD k efz).meas.length≤30)∧∀ k,k<a.after.length→(a.after.getD k []).length≤30
instance(a:AdR):Decidable (adL a):=inferInstanceAs (Decidable (_∧_))
def light(b:BnR):Prop:=lenL b∧(∀ i,i<b.ms.length→(b.ms.getD i msz).name.length≤30)∧∀ i,i<b.ads.length→adL (b.ads.getD i adz)
instance(b:BnR):Decidable (light b):=inferInstanceAs (Decidable (_∧_))
theorem light_bl{b:BnR}(h:light b):Bl b:=by
  obtain⟨h1,h2,h3⟩:=h
  unfold lenL at h1
  refine⟨by omega,by omega,fun i hi=>by have:=h2 i hi;omega,fun i hi=>?_,fun i hi=>?_,fun i hi=>?_⟩
  · have:=(h3 i hi).1;omega
  · have:=(h3 i hi).1;omega
  · have:=(h3 i hi).1;omega
theorem ext_all{p:Nat→Prop}{i:Nat}(h:∀ j,j<i→p j)(hi:p i):∀ j,j<i+1→p j:=by
  intro j hj
  rcases Nat.lt_or_ge j i with q|q
  · exact h j q
  · obtain rfl:j=i:=by omega
    exact hi

theorem llight_n(b:BnR)(hn:¬ lenL b)(m:Mem):Gives Tryz.prog 14 [.agg [.lst (mssV b.ms),.lst (adsV b.ads)]] m (.bool (decide (light b))):=by
  have hlm:=mssV_length (l:=b.ms)
  have hla:=adsV_length (l:=b.ads)
  have hga:=hla
  have hle:=hla
  have hlf:=hla
  have hgb:=hla
  have hf:decide (light b)=false:=decide_eq_false fun h=>hn h.1
  rw [hf]
  unfold lenL at hn
  refine Gives_in Tryz.func14 rfl Tryz.ntmps14 Tryz.results14 (by kernel_rfl) (by simp) rfl fun Q hQ=>?_
  (have FX:=And.intro hlm (And.intro hla (And.intro hga (And.intro hle (And.intro hlf hgb))));repeat'(first|(refine sx ?_ ?_<;>intro h<;>first|(exfalso;omega)|skip)|refine ny ?_|refine WA_block ?_))
  all_goals(try(exfalso;omega))
  all_goals(refine r_es hQ ?_;try with_reducible rfl)
theorem llight_c (b:BnR) (m:Mem):Gives Tryz.prog 14 [.agg [.lst (mssV b.ms),.lst (adsV b.ads)]] m (.bool (decide (light b))):=by
  have hlm:=mssV_length (l:=b.ms)
  have hla:=adsV_length (l:=b.ads)
  have hga:=hla
  have hle:=hla
  have hlf:=hla
  have hgb:=hla
  by_cases hn:lenL b
  · unfold lenL at hn
    refine Gives_in Tryz.func14 rfl Tryz.ntmps14 Tryz.results14 (by kernel_rfl) (by simp) rfl fun Q hQ=>?_
    (have FX:=And.intro hlm (And.intro hla (And.intro hga (And.intro hle (And.intro hlf hgb))));repeat'(first|(refine sx ?_ ?_<;>intro h<;>first|(exfalso;omega)|skip)|refine ny ?_|refine WA_block ?_))
    all_goals(try(exfalso;omega))
    all_goals
      refine WA_whileK (σ:=Nat) [1,3] (fun i=>[.ptr (lend m).length 0 0,.int .i64 i]) (fun _=>[.cells .own 28 2 [[.lst (mssV b.ms),.lst (adsV b.ads)]]]) 1 (fun i=>i≤b.ms.length∧∀ j,j<i→(b.ms.getD j msz).name.length≤30) (fun i=>b.ms.length - i) 0 ⟨Nat.zero_le _,fun j h=>absurd h (Nat.not_lt_zero _)⟩ tv_ rfl (fun _=>rfl) (by intro s s' _ _;simp [conB,conS,V.keeps,V.plain,Blk.flat,flatL,plainL,V.flat]) (by intro s s' _ _;simp [conB,conS,V.keeps,V.plain,Blk.flat,flatL,plainL,V.flat]) ?_
      rintro i ⟨hi1,hi2⟩ K hK
      simp only [zipT]
      clear FX hga hle hlf hgb
      have hle:=hla
      have hlf:=hla
      have hgb:=hla
      rcases Nat.lt_or_ge i b.ms.length with hi|hi
      · have hga:=mssV_get hi
        have hbad:¬ (b.ms.getD i msz).name.length≤30→decide (light b)=false:=fun h=>decide_eq_false fun hh=>h (hh.2.1 i hi)
        have hsu:=ext_all hi2
        generalize b.ms.getD i msz=x at *
        unfold msV at hga
        (have FX:=And.intro hlm (And.intro hla (And.intro hga (And.intro hle (And.intro hlf hgb))));repeat'(first|(refine sx ?_ ?_<;>intro h<;>first|(exfalso;omega)|skip)|refine ny ?_|refine WA_block ?_))
        all_goals(try(exfalso;omega))
        all_goals try
          ((refine r_es hQ ?_;try with_reducible rfl)
           exact congrArg V.bool (hbad (by omega)).symm)
        all_goals(refine nextL_ hK (i+1) ⟨hi,hsu (by omega)⟩ (by omega))
      · have hie :i=b.ms.length:=by omega
        subst hie
        have hga:=hla
        (have FX:=And.intro hlm (And.intro hla (And.intro hga (And.intro hle (And.intro hlf hgb))));repeat'(first|(refine sx ?_ ?_<;>intro h<;>first|(exfalso;omega)|skip)|refine ny ?_|refine WA_block ?_))
        all_goals(try(exfalso;omega))
        clear FX hK
        refine WA_whileK (σ:=Nat) [1,4] (fun i=>[.ptr (lend m).length 0 0,.int .i64 i]) (fun _=>[.cells .own 28 2 [[.lst (mssV b.ms),.lst (adsV b.ads)]]]) 1 (fun i=>i≤b.ads.length∧∀ j,j<i→adL (b.ads.getD j adz)) (fun i=>b.ads.length - i) 0 ⟨Nat.zero_le _,fun j h=>absurd h (Nat.not_lt_zero _)⟩ tv_ rfl (fun _=>rfl) (by intro s s' _ _;simp [conB,conS,V.keeps,V.plain,Blk.flat,flatL,plainL,V.flat]) (by intro s s' _ _;simp [conB,conS,V.keeps,V.plain,Blk.flat,flatL,plainL,V.flat]) ?_
        rintro i ⟨hj1,hj2⟩ K hK
        simp only [zipT]
        clear hga hle hlf hgb
        rcases Nat.lt_or_ge i b.ads.length with hj|hj
        · have hga:=adsV_get hj
          have hle:=efsV_length (l:=(b.ads.getD i adz).effs)
          have hlf:=tsV_length (l:=(b.ads.getD i adz).after)
          have hgb:=hla
          have hbad:¬ adL (b.ads.getD i adz)→decide (light b)=false:=fun h=>decide_eq_false fun hh=>h (hh.2.2 i hj)
          have hsu:=ext_all hj2
          generalize b.ads.getD i adz=x at *
          unfold adV at hga
          (have FX:=And.intro hlm (And.intro hla (And.intro hga (And.intro hle (And.intro hlf hgb))));repeat'(first|(refine sx ?_ ?_<;>intro h<;>first|(exfalso;omega)|skip)|refine ny ?_|refine WA_block ?_))
          all_goals(try(exfalso;omega))
          all_goals try
            ((refine r_es hQ ?_;try with_reducible rfl)
             exact congrArg V.bool (hbad (fun h=>by have:=h.1;omega)).symm)
          have h30:¬ (30<x.name.length∨15<x.effs.length∨15<x.after.length):=by omega
          refine WA_whileK (σ:=Nat) [1,4,5,6] (fun k=>[.ptr (lend m).length 0 0,.int .i64 i,.ptr ((lend m).length+1) 0 0,.int .i64 k]) (fun _=>[.cells .own 28 2 [[.lst (mssV b.ms),.lst (adsV b.ads)]],.cells .own 78 6 [[.str x.name,.lst (efsV x.effs),.int .i64 x.least,.int .i64 x.most,.int .i64 x.pass,.lst (tsV x.after)]]]) 2 (fun k=>k≤x.effs.length∧∀ j,j<k→(x.effs.getD j efz).meas.length≤30) (fun k=>x.effs.length - k) 0 ⟨Nat.zero_le _,fun j h=>absurd h (Nat.not_lt_zero _)⟩ tv_ rfl (fun _=>rfl) (by intro s s' _ _;simp [conB,conS,V.keeps,V.plain,Blk.flat,flatL,plainL,V.flat]) (by intro s s' _ _;simp [conB,conS,V.keeps,V.plain,Blk.flat,flatL,plainL,V.flat]) ?_
          rintro k ⟨hk1,hk2⟩ K2 hK2
          simp only [zipT]
          clear FX hgb
          rcases Nat.lt_or_ge k x.effs.length with hk|hk
          · have hgb:=efsV_get hk
            have hbad2:¬ (x.effs.getD k efz).meas.length≤30→decide (light b)=false:=fun h=>hbad fun hh=>h (hh.2.1 k hk)
            have hsu2:=ext_all hk2
            generalize x.effs.getD k efz=y at *
            unfold efV at hgb
            (have FX:=And.intro hlm (And.intro hla (And.intro hga (And.intro hle (And.intro hlf hgb))));repeat'(first|(refine sx ?_ ?_<;>intro h<;>first|(exfalso;omega)|skip)|refine ny ?_|refine WA_block ?_))
            all_goals(try(exfalso;omega))
            all_goals try
              ((refine r_es hQ ?_;try with_reducible rfl)
               exact congrArg V.bool (hbad2 (by omega)).symm)
            all_goals(refine nextL_ hK2 (k+1) ⟨hk,hsu2 (by omega)⟩ (by omega))
          · have hke:k=x.effs.length:=by omega
            subst hke
            have hgb:=hla
            (have FX:=And.intro hlm (And.intro hla (And.intro hga (And.intro hle (And.intro hlf hgb))));repeat'(first|(refine sx ?_ ?_<;>intro h<;>first|(exfalso;omega)|skip)|refine ny ?_|refine WA_block ?_))
            all_goals(try(exfalso;omega))
            clear FX hK2
            refine WA_whileK (σ:=Nat) [1,4,5,7] (fun k=>[.ptr (lend m).length 0 0,.int .i64 i,.ptr ((lend m).length+1) 0 0,.int .i64 k]) (fun _=>[.cells .own 28 2 [[.lst (mssV b.ms),.lst (adsV b.ads)]],.cells .own 78 6 [[.str x.name,.lst (efsV x.effs),.int .i64 x.least,.int .i64 x.most,.int .i64 x.pass,.lst (tsV x.after)]]]) 2 (fun k=>k≤x.after.length∧∀ j,j<k→(x.after.getD j []).length≤30) (fun k=>x.after.length - k) 0 ⟨Nat.zero_le _,fun j h=>absurd h (Nat.not_lt_zero _)⟩ tv_ rfl (fun _=>rfl) (by intro s s' _ _;simp [conB,conS,V.keeps,V.plain,Blk.flat,flatL,plainL,V.flat]) (by intro s s' _ _;simp [conB,conS,V.keeps,V.plain,Blk.flat,flatL,plainL,V.flat]) ?_
            rintro k ⟨hl1,hl2⟩ K2 hK2
            simp only [zipT]
            clear hgb
            rcases Nat.lt_or_ge k x.after.length with hl|hl
            · have hgb:=tsV_get hl
              have hbad2:¬ (x.after.getD k []).length≤30→decide (light b)=false:=fun h=>hbad fun hh=>h (hh.2.2 k hl)
              have hsu2:=ext_all hl2
              generalize x.after.getD k []=y at *
              (have FX:=And.intro hlm (And.intro hla (And.intro hga (And.intro hle (And.intro hlf hgb))));repeat'(first|(refine sx ?_ ?_<;>intro h<;>first|(exfalso;omega)|skip)|refine ny ?_|refine WA_block ?_))
              all_goals(try(exfalso;omega))
              all_goals try
                ((refine r_es hQ ?_;try with_reducible rfl)
                 exact congrArg V.bool (hbad2 (by omega)).symm)
              all_goals(refine nextL_ hK2 (k+1) ⟨hl,hsu2 (by omega)⟩ (by omega))
            · have hle2:k=x.after.length:=by omega
              subst hle2
              have hgb:=hla
              (have FX:=And.intro hlm (And.intro hla (And.intro hga (And.intro hle (And.intro hlf hgb))));repeat'(first|(refine sx ?_ ?_<;>intro h<;>first|(exfalso;omega)|skip)|refine ny ?_|refine WA_block ?_))
              all_goals(try(exfalso;omega))
              all_goals(refine nextL_ hK (i+1) ⟨hj,hsu ⟨h30,hk2,hl2⟩⟩ (by omega))
        · have hje:i=b.ads.length:=by omega
          subst hje
          have hga:=hla
          have hle:=hla
          have hlf:=hla
          have hgb:=hla
          (have FX:=And.intro hlm (And.intro hla (And.intro hga (And.intro hle (And.intro hlf hgb))));repeat'(first|(refine sx ?_ ?_<;>intro h<;>first|(exfalso;omega)|skip)|refine ny ?_|refine WA_block ?_))
          all_goals(try(exfalso;omega))
          all_goals((refine r_es hQ ?_;try with_reducible rfl))
          all_goals exact congrArg V.bool (decide_eq_true ⟨by unfold lenL;omega,hi2,hj2⟩).symm
  · exact llight_n b hn m
end Go.Proofs.YtookikhphobnlaaGreatDoor
