/- the law TopPlanRegulates, over contracts -/
import Derived.Test.YtnablpehkeicmaaGreatH32
import Derived.Test.YtnablpehkeicmaaGreatD33
set_option linter.unusedSimpArgs false
set_option linter.unusedVariables false
namespace Go.Proofs.YtnablpehkeicmaaGreat
open Go.RowKit
attribute [local irreducible] WA WOs WDs WAn qThen qBlock tput
set_option maxHeartbeats 1000000
set_option maxRecDepth 20000
set_option linter.unusedSimpArgs false
set_option linter.unusedVariables false
set_option maxHeartbeats 4000000
theorem uH33_3_9{N:Nat}{l:List Oper}{t:List (Nat×V)}{m:Mem}{Q:Exit→List (Nat×V)→Mem→Prop}(h:RgN Tryz.prog N l t m Q (fun i=>if i==1 || i==5 || i==13 || i==15 || i==20 then .q else .p) [.one 0,.one 1,.one 2,.one 3,.one 4,.one 5,.one 6,.one 7,.one 8,.one 9,.one 10,.one 11,.one 12,.one 13,.one 14,.one 15,.one 16,.one 17,.one 18,.one 19,.one 20,.one 21,.one 22,.one 23,.one 24,.one 25]):WA Tryz.prog N (.region 9 l.toArray true) t m Q:=d_rgN h
theorem plan_out(b:BnR)(pl:List (List StR))(g:Int)(hout:¬ (narrow b∧¬ 10<(pl.length:Int)∧bnErr b=0∧(0≤g∧g≤50)))(m:Mem):Gives Tryz.prog 3 [.agg (bnV b),.lst (plV pl),.int .i64 g] m (.bool true):=by
  have hlp:=plV_length (l:=pl)
  have hcb:=fun(h:narrow b) m=>rcheckbench_c b (light_bl h.1) m
  unfold bnV
  refine Gives_in Tryz.func3 rfl Tryz.ntmps3 Tryz.results3 (by kernel_rfl) (by simp) rfl fun Q hQ=>?_
  (have FX:=hlp;repeat'(first|(refine sx ?_ ?_<;>intro h<;>first|(exfalso;omega)|skip)|(refine na ?_;(first|refine nb tset_c ?_|refine nb (lnarrow_c _) ?_|refine s_fn (hcb (by assumption) _) ?_|refine d_fn (hcb (by assumption) _) ?_|refine d_fnQ (fun _=>hcb (by assumption) _) ?_|refine grp_cons (fun _=>hcb (by assumption) _) ?_|refine nb (bwithin_c _ _ _) ?_)<;>try first|omega|assumption)|refine ny ?_|refine WA_block ?_|(refine uH33_3_9 ?_;refine⟨by kernel_rfl,?_⟩)|(refine g_d ?_;(first|refine d_fnY (tset_c _) ?_|refine d_fnY (lnarrow_c _ _) ?_|refine d_fnY (hcb (by assumption) _) ?_|refine d_fnY (bwithin_c _ _ _ _) ?_)<;>try first|omega|assumption)))
  all_goals(try(exfalso;first|exact hout ⟨by assumption,by assumption,by omega,by assumption⟩|exact hout ⟨by assumption,by assumption,by omega,by omega⟩|omega))
  all_goals(refine r_es hQ ?_;try with_reducible rfl)
theorem plan_in (b:BnR) (pl:List (List StR)) (g:Int) (hN:narrow b) (h10:¬ 10<(pl.length:Int)) (h0:bnErr b=0) (hg:0≤g∧g≤50) (m:Mem):Gives Tryz.prog 3 [.agg (bnV b),.lst (plV pl),.int .i64 g] m (.bool true):=by
  have hb:=light_bl hN.1
  have hk:=bn_ok h0
  have hbd:=bnd_ok hk
  have hfm:=hk.fm
  have hwd:∀ i,i<b.ads.length→(b.ads.getD i adz).least≤(b.ads.getD i adz).most:=fun i hi=>by have:=hbd.le i hi;have:=hbd.mo i hi;omega
  have hlp:=plV_length (l:=pl)
  have hlm:=mssV_length (l:=b.ms)
  have hna:=fun m=>lnarrow_c b m
  rw [decide_eq_true hN] at hna
  have hcb:=fun m=>rcheckbench_c b hb m
  rw [h0] at hcb
  have hcp:=fun m=>rcopy_c b hb m
  have hck:=fun m=>gCheckPlan_c b hb pl m
  unfold ckN ckE at hck
  rw [if_neg (by omega),if_neg (by omega)] at hck
  have hreg:(∀ i,i<b.ms.length→1≤(b.ms.getD i msz).low∧(b.ms.getD i msz).high≤2000)→(∀ i,i+1<b.ms.length→(b.ms.getD i msz).high+g≤(b.ms.getD (i+1) msz).low)→∀ P:List (List StR),smE b P=0→stOk b.ads (smS b P)→brkP b (smS b P) b.ms.length=[]→∀ m,Gives Tryz.prog 11 [.agg (bnV b),.lst (plV P),.int .i64 g] m (.bool true):=fun ht hs P h1 h2 h3 m=>by
    refine treg_c b hb P (smS b P) (by unfold suE;rw [if_neg (by omega)];exact h1) (by unfold suS;rw [if_neg (by omega)]) (by unfold bsErr;rw [if_neg (by omega)];exact stErr_iff.2 h2) h3 g (lvM_fits hk h3 ht) (lvM_lt hk _) (plan_ord (by omega) (ms_diff hk) h3 hg ht hs) m
  obtain⟨l2,n2,k2,hgf,hk2⟩:∃ (l2:List Int) (n2 k2:Int),(∀ m,Gives Tryz.prog 8 [.agg (bnV b)] m (.tup [.lst (nsV l2),.int .i64 n2,.int .i64 k2]))∧(k2=8∨k2=12∧(fwB b).f=false∨k2=0∧n2=(fwB b).p∧stOk b.ads l2∧brkP b l2 b.ms.length=[]∧n2=pasK b.ads l2 b.ads.length):=by
    have h1:=fun m=>gfewest_ok b hb h0 m
    unfold fwV at h1
    by_cases ht:100000<trK b.ads b.ads.length
    · rw [if_pos ht] at h1
      exact⟨[],0,8,fun m=>Gives_weak (h1 m) (wk_tup ⟨wk_nil,WkV.refl _,WkV.refl _,trivial⟩),.inl rfl⟩
    · rw [if_neg ht] at h1
      cases hf:(fwB b).f with
      | false=>
        rw [hf] at h1
        exact⟨[],0,12,fun m=>Gives_weak (h1 m) (wk_tup ⟨wk_nil,WkV.refl _,WkV.refl _,trivial⟩),.inr (.inl ⟨rfl,rfl⟩)⟩
      | true=>
        rw [hf] at h1
        obtain⟨g1,g2,g3,_⟩:=fwB_ok hwd hf
        exact⟨_,_,0,h1,.inr (.inr ⟨rfl,rfl,g1,g2,g3⟩)⟩
  obtain⟨P,f,hpl,hP⟩:∃ (P:List (List StR)) (f:Int),(∀ m,Gives Tryz.prog 10 [.agg (bnV b),.lst (nsV l2)] m (.tup [.lst (plV P),.int .i64 f]))∧(k2=0→n2≤50→f=0∧smE b P=0∧stOk b.ads (smS b P)∧brkP b (smS b P) b.ms.length=[]):=by
    by_cases hm:mkE b l2=0
    · obtain⟨_,_,hst,hp1,hp2⟩:=mk_ok hm
      obtain⟨e1,e2,e3⟩:=plO_ok hk hst (n:=(pasK b.ads l2 b.ads.length).toNat) (by omega) (by omega)
      have hz:k2=0→brkP b l2 b.ms.length=[]:=fun h1=>by
        rcases hk2 with h|h|h
        · omega
        · omega
        · exact h.2.2.2.1
      exact⟨_,0,fun m=>gPlanOf_ok b hb l2 hm m,fun h1 _=>⟨rfl,e3,by rw [e1];exact hst,by rw [e1];exact hz h1⟩⟩
    · refine⟨[],mkE b l2,fun m=>Gives_weak (gPlanOf_bad b hb l2 hm m) (wk_tup ⟨wk_nil,WkV.refl _,trivial⟩),fun h1 h2=>absurd ?_ hm⟩
      rcases hk2 with h|h|⟨_,h3,h4,_,h6⟩
      · omega
      · omega
      · unfold mkE bsErr
        rw [if_neg (show ¬ (if bnErr b≠0 then bnErr b else stErr b.ads l2)≠0 from by rw [if_neg (by omega)];exact fun q=>q (stErr_iff.2 h4)),if_neg (by omega)]
  have hac:cpE b pl=0→smE b pl=0∧stOk b.ads (smS b pl)∧brkP b (smS b pl) b.ms.length=[]∧(k2=8∨k2=0∧n2≤pl.length):=fun h=>by
    obtain⟨a1,a2,a3,a4,a5⟩:=plan_fw hbd h
    refine⟨a1,a2,a3,?_⟩
    rcases hk2 with h|h|h
    · exact .inl h
    · rw [a4] at h;simp at h
    · exact .inr ⟨h.1,by omega⟩
  clear hk2
  unfold bnV at*
  generalize cpN b pl=cn at*
  generalize cpE b pl=ce at*
  refine Gives_in Tryz.func3 rfl Tryz.ntmps3 Tryz.results3 (by kernel_rfl) (by simp) rfl fun Q hQ=>?_
  (have FX:=And.intro hlp hlm;repeat'(first|(refine sx ?_ ?_<;>intro h<;>first|(exfalso;omega)|skip)|(refine na ?_;(first|refine nb tset_c ?_|refine nb hna ?_|refine nb hcb ?_|refine nb (bwithin_c _ _ _) ?_)<;>try first|omega|assumption)|refine ny ?_|refine WA_block ?_|(refine uH33_3_9 ?_;refine⟨by kernel_rfl,?_⟩)|(refine g_d ?_;(first|refine d_fnY (tset_c _) ?_|refine d_fnY (hna _) ?_|refine d_fnY (hcb _) ?_|refine d_fnY (bwithin_c _ _ _ _) ?_)<;>try first|omega|assumption)))
  all_goals(try(exfalso;omega))
  refine WA_whileK (σ:=Nat) [1,2,3,7] (fun i=>[.lst (plV pl),.int .i64 g,.ptr (lend m).length 0 0,.int .i64 i]) (fun _=>[.cells .own 25 2 [[.lst (mssV b.ms),.lst (adsV b.ads)]]]) 1 (fun i=>i≤b.ms.length∧∀ k,k<i→(1≤(b.ms.getD k msz).low∧(b.ms.getD k msz).high≤2000)∧∀ q,k=q+1→(b.ms.getD q msz).high+g≤(b.ms.getD k msz).low) (fun i=>b.ms.length - i) 0 ⟨Nat.zero_le _,fun k hk=>by omega⟩ tv_ rfl (fun _=>rfl) (by intro s s' _ _;simp [conB,conS,V.keeps,V.plain,Blk.flat,flatL,plainL,V.flat]) (by intro s s' _ _;simp [conB,conS,V.keeps,V.plain,Blk.flat,flatL,plainL,V.flat]) ?_
  rintro i ⟨hi1,hall⟩ K hK
  simp only [zipT]
  clear FX
  rcases Nat.lt_or_ge i b.ms.length with hi|hi
  · clear hreg hac hP
    have hga:=mssV_get hi
    cases i with
    | zero =>
      have hnx:1≤(b.ms.getD 0 msz).low→(b.ms.getD 0 msz).high≤2000→((0+1)≤b.ms.length∧∀ k,k<(0+1)→(1≤(b.ms.getD k msz).low∧(b.ms.getD k msz).high≤2000)∧∀ q,k=q+1→(b.ms.getD q msz).high+g≤(b.ms.getD k msz).low):=fun h1 h2=>⟨hi,fun k hk=>by
        obtain rfl:k=0:=by omega
        exact⟨⟨h1,h2⟩,fun q hq=>by omega⟩⟩
      have hgb:=hlm
      clear hall
      generalize b.ms.getD 0 msz=x at*
      obtain⟨nm,vl,lo,hg⟩:=x
      unfold msV at hga
      dsimp only at hga hnx
      (have FX:=fx3 hlp hlm hga;repeat'(first|(refine sx ?_ ?_<;>intro h<;>first|(exfalso;omega)|skip)|refine ny ?_|refine WA_block ?_|(refine uH33_3_9 ?_;refine⟨by kernel_rfl,?_⟩)))
      all_goals(try(exfalso;omega))
      all_goals first
        | ((refine r_es hQ ?_;try with_reducible rfl)
           done)
        | (refine nextL_ hK (0+1) (hnx (by omega) (by omega)) (by omega)
           done)
        |trace_state
    | succ n=>
      have hgb:=mssV_get (l:=b.ms) (i:=n) (by omega)
      have hmy:=(msErr_zero (hk.me n (by omega))).2.2.2.2.1
      have hix:((n+1:Nat):Int) - 1=(n:Int):=by omega
      have hnx:1≤(b.ms.getD (n+1) msz).low→(b.ms.getD (n+1) msz).high≤2000→(b.ms.getD n msz).high+g≤(b.ms.getD (n+1) msz).low→((n+1+1)≤b.ms.length∧∀ k,k<(n+1+1)→(1≤(b.ms.getD k msz).low∧(b.ms.getD k msz).high≤2000)∧∀ q,k=q+1→(b.ms.getD q msz).high+g≤(b.ms.getD k msz).low):=fun h1 h2 h3=>⟨hi,fun k hk=>by
        by_cases e:k=n+1
        · subst e
          exact⟨⟨h1,h2⟩,fun q hq=>by
            obtain rfl:q=n:=by omega
            exact h3⟩
        · exact hall k (by omega)⟩
      clear hall
      generalize b.ms.getD (n+1) msz=x at*
      generalize b.ms.getD n msz=y at*
      obtain⟨nm,vl,lo,hg⟩:=x
      obtain⟨nm2,vl2,lo2,hg2⟩:=y
      unfold msV at hga hgb
      dsimp only at hga hgb hnx hmy
      (have FX:=fx5 hlp hlm hga hgb hix;repeat'(first|(refine sx ?_ ?_<;>intro h<;>first|(exfalso;omega)|skip)|refine ny ?_|refine WA_block ?_|(refine uH33_3_9 ?_;refine⟨by kernel_rfl,?_⟩)))
      all_goals(try(exfalso;omega))
      all_goals first
        | ((refine r_es hQ ?_;try with_reducible rfl)
           done)
        | (refine nextL_ hK (n+1+1) (hnx (by omega) (by omega) (by omega)) (by omega)
           done)
        |trace_state
  · obtain rfl:i=b.ms.length:=by omega
    have hreg:=hreg (fun i hi=>(hall i hi).1) (fun i hi=>(hall (i+1) hi).2 i rfl)
    have hr1:ce=0→∀ m,Gives Tryz.prog 11 [.agg [.lst (mssV b.ms),.lst (adsV b.ads)],.lst (plV pl),.int .i64 g] m (.bool true):=fun h m=>hreg pl (hac h).1 (hac h).2.1 (hac h).2.2.1 m
    have hr2:k2=0→n2≤50→∀ m,Gives Tryz.prog 11 [.agg [.lst (mssV b.ms),.lst (adsV b.ads)],.lst (plV P),.int .i64 g] m (.bool true):=fun h1 h2 m=>hreg P (hP h1 h2).2.1 (hP h1 h2).2.2.1 (hP h1 h2).2.2.2 m
    have hac:ce=0→(k2=8∨k2=0∧n2≤pl.length):=fun h=>(hac h).2.2.2
    have hP:k2=0→n2≤50→f=0:=fun h1 h2=>(hP h1 h2).1
    clear hreg hall hK
    (have FX:=And.intro hlp hlm;repeat'(first|(refine sx ?_ ?_<;>intro h<;>first|(exfalso;omega)|skip)|(refine na ?_;(first|refine nb hcp ?_|refine nb hgf ?_|refine nb hpl ?_|refine nb hck ?_|refine s_fn (hr1 (by omega) _) ?_|refine d_fn (hr1 (by omega) _) ?_|refine d_fnQ (fun _=>hr1 (by omega) _) ?_|refine grp_cons (fun _=>hr1 (by omega) _) ?_|refine s_fn (hr2 (by omega) (by omega) _) ?_|refine d_fn (hr2 (by omega) (by omega) _) ?_|refine d_fnQ (fun _=>hr2 (by omega) (by omega) _) ?_|refine grp_cons (fun _=>hr2 (by omega) (by omega) _) ?_)<;>try first|omega|assumption)|refine ny ?_|refine WA_block ?_|(refine uH33_3_9 ?_;refine⟨by kernel_rfl,?_⟩)|(refine g_d ?_;(first|refine d_fnY (hcp _) ?_|refine d_fnY (hgf _) ?_|refine d_fnY (hpl _) ?_|refine d_fnY (hck _) ?_|refine d_fnY (hr1 (by omega) _) ?_|refine d_fnY (hr2 (by omega) (by omega) _) ?_)<;>try first|omega|assumption)))
    all_goals(try(exfalso;omega))
    all_goals first
      | ((refine r_es hQ ?_;try with_reducible rfl)
         done)
      |trace_state
theorem plan_law(b:BnR)(pl:List (List StR))(g:Int)(m:Mem):Gives Tryz.prog 3 [.agg (bnV b),.lst (plV pl),.int .i64 g] m (.bool true):=by
  by_cases h:narrow b∧¬ 10<(pl.length:Int)∧bnErr b=0∧(0≤g∧g≤50)
  · exact plan_in b pl g h.1 h.2.1 h.2.2.1 h.2.2.2 m
  · exact plan_out b pl g h m
end Go.Proofs.YtnablpehkeicmaaGreat
