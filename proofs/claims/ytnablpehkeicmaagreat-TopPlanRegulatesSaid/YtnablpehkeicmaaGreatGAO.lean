import Derived.Test.YtnablpehkeicmaaGreatB48
import Derived.Test.YtnablpehkeicmaaGreatB24
import Derived.Test.YtnablpehkeicmaaGreatGAM
import Derived.Test.YtnablpehkeicmaaGreatGAK
import Derived.Test.YtnablpehkeicmaaGreatGAN
import Derived.Test.YtnablpehkeicmaaGreatGAL
import Derived.Test.YtnablpehkeicmaaGreatGAI
set_option linter.unusedSimpArgs false
set_option linter.unusedVariables false
/- contracts: the plan of steps, of the reference; plans compared -/
namespace Go.Proofs.YtnablpehkeicmaaGreat
open Go.RowKit
attribute [local irreducible] WA WOs WDs WAn qThen qBlock tput
set_option maxHeartbeats 1000000
set_option maxRecDepth 20000
set_option linter.unusedSimpArgs false
set_option linter.unusedVariables false
set_option maxHeartbeats 8000000

theorem gPlanOf_nil(b:BnR)(hb:Bl b)(hm:mkE b []=0)(m:Mem):Gives Tryz.prog 10 [.agg (bnV b),.lst (nsV [])] m (.tup [.lst (plV (plO b [] (pasK b.ads [] b.ads.length).toNat)),.int .i64 0]):=by
  obtain⟨h0,h2,hst,hp1,hp2⟩:=mk_ok hm
  have hlm:=mssV_length (l:=b.ms)
  have hpn:=fun m=>gplanned_ok b hb [] hm m
  have hcl:=fun m=>gclone_v [] (by simp) m
  have e:pasK b.ads [] b.ads.length=0:=by rw [←hst.1];rfl
  rw [e] at hpn ⊢
  suffices key:CallA Tryz.prog 10 [.agg (bnV b),.lst (nsV [])] m (fun v mo=>mo=none∧WkV v (.tup [.lst (plV (plO b [] (0:Int).toNat)),.int .i64 0])) from Gives_of key fun v mo h=>h
  unfold bnV at hpn ⊢
  refine CallA_in Tryz.func10 rfl Tryz.ntmps10 Tryz.results10 (by kernel_rfl) (by simp) fun Q hQ=>?_
  (have FX:=hlm;repeat'(first|(refine sx ?_ ?_<;>intro h<;>first|(exfalso;omega)|skip)|(refine na ?_;(first|refine nb hpn ?_|refine nb hcl ?_)<;>try first|omega|assumption)|refine ny ?_|refine WA_block ?_))
  all_goals(try(exfalso;omega))
  refine WA_rounds 1 ?_
  (have FX:=hlm;repeat'(first|(refine sx ?_ ?_<;>intro h<;>first|(exfalso;omega)|skip)|(refine na ?_;(first|refine nb hpn ?_|refine nb hcl ?_)<;>try first|omega|assumption)|refine ny ?_|refine WA_block ?_))
  all_goals(try(exfalso;omega))
  refine r_esA hQ (.inl ⟨rfl,rfl,?_⟩)
  exact wk_tup ⟨wk_nil,WkV.refl _,trivial⟩
theorem gPlanOf_ok(b:BnR)(hb:Bl b)(l:List Int)(hm:mkE b l=0)(m:Mem):Gives Tryz.prog 10 [.agg (bnV b),.lst (nsV l)] m (.tup [.lst (plV (plO b l (pasK b.ads l b.ads.length).toNat)),.int .i64 0]):=by
  cases l with
  |nil=>exact gPlanOf_nil b hb hm m
  |cons a r=>exact gPlanOf_cons b hb a r hm m
end Go.Proofs.YtnablpehkeicmaaGreat
namespace Go.Proofs.YtnablpehkeicmaaGreat
end Go.Proofs.YtnablpehkeicmaaGreat
namespace Go.Proofs.YtnablpehkeicmaaGreat
open Go.RowKit
theorem or_lt2{p q p2 q2:Int}:0≤orI (cmpI p p2) (cmpI q q2)↔¬ (p<p2∨p=p2∧q<q2):=by
  have h1:=cmpI_lt (x:=p) (y:=p2)
  have h2:=cmpI_eq (x:=p) (y:=p2)
  have h3:=cmpI_lt (x:=q) (y:=q2)
  unfold orI
  split<;>omega
theorem nxA_rank1 {ads:List AdR} {l l2:List Int} (hl:stOk ads l) (hw:∀ i,i<ads.length→(ads.getD i adz).least≤(ads.getD i adz).most) (h:nxA ads l=some l2):rkK ads l2 ads.length+1=rkK ads l ads.length:=by
  unfold nxA at h
  split at h
  · rename_i l' k he
    injection h with h
    subst h
    obtain⟨h1,h2,h3,h4,h5,h6⟩:=crL_some (by rw [hl.1];exact Nat.le_refl _) he
    have hg:∀ i,(l'.set k (l'.getD k 0+1)).getD i 0=if i=k then l.getD k 0+1 else l'.getD i 0:=fun i=>by
      rw [getD_set]
      by_cases hc:i=k
      · rw [if_pos ⟨hc,by rw [h2,hl.1];exact h1⟩,if_pos hc,h4 k (Nat.le_refl _)]
      · rw [if_neg (fun h=>hc h.1),if_neg hc]
    have key:∀ d,k+1+d≤ads.length→rkK ads (l'.set k (l'.getD k 0+1)) (k+1+d)+1=rkK ads l (k+1+d):=by
      intro d
      induction d with
      | zero=>
        intro _
        have hb:=hl.2 k h1
        show rkK ads _ (k+1)+1=rkK ads l (k+1)
        simp only [rkK]
        rw [rkK_same (l:=l) (k:=k) fun i hi=>by rw [hg,if_neg (by omega),h4 i (by omega)],hg,if_pos rfl]
        omega
      | succ d ih=>
        intro hd
        have ih:=ih (by omega)
        obtain⟨g1,g2⟩:=h5 (k+1+d) (by omega) (by omega)
        have hwk:=hw (k+1+d) (by omega)
        show rkK ads _ (k+1+d+1)+1=rkK ads l (k+1+d+1)
        simp only [rkK]
        rw [hg (k+1+d),if_neg (by omega),g2,g1,←ih]
        generalize rkK ads (l'.set k (l'.getD k 0+1)) (k+1+d)=A at*
        generalize ((ads.getD (k+1+d) adz).most - (ads.getD (k+1+d) adz).least).toNat=w at*
        rw [Nat.add_mul]
        omega
    have:=key (ads.length - (k+1)) (by omega)
    rw [show k+1+(ads.length - (k+1))=ads.length by omega] at this
    omega
  · cases h
theorem crL_none {ads:List AdR}:∀ {k:Nat} {l l':List Int},k≤l.length→crL ads k l=(l',none)→∀ i,i<k→l.getD i 0=(ads.getD i adz).most
  |0,_,_,_,_=>fun i hi=>absurd hi (Nat.not_lt_zero _)
  | k + 1,l,l',hk,h=>fun i hi=>by
    rw [crL_succ] at h
    by_cases hc:l.getD k 0=(ads.getD k adz).most
    · rw [if_pos hc] at h
      rcases Nat.lt_or_ge i k with h1|h1
      · have:=crL_none (by rw [List.length_set];omega) h i h1
        rw [getD_set,if_neg (by omega)] at this
        exact this
      · obtain rfl:i=k:=by omega
        exact hc
    · rw [if_neg hc] at h
      cases h
theorem rk_top{ads:List AdR}{l:List Int}:∀ {k:Nat},(∀ i,i<k→l.getD i 0=(ads.getD i adz).most)→rkK ads l k=0
  |0,_=>rfl
  | k+1,h=>by
    simp only [rkK]
    rw [rk_top fun i hi=>h i (by omega),h k (by omega)]
    omega
theorem nxA_none{ads:List AdR}{l:List Int}(hl:l.length=ads.length)(h:nxA ads l=none):rkK ads l ads.length=0:=by
  unfold nxA at h
  split at h
  · cases h
  · rename_i l' he
    exact rk_top (crL_none (by omega) he)
theorem rk_inj {ads:List AdR} {l l2:List Int}:∀ {k:Nat},(∀ i,i<k→((ads.getD i adz).least≤l.getD i 0∧l.getD i 0≤(ads.getD i adz).most)∧((ads.getD i adz).least≤l2.getD i 0∧l2.getD i 0≤(ads.getD i adz).most))→rkK ads l k=rkK ads l2 k→∀ i,i<k→l.getD i 0=l2.getD i 0
  |0,_,_=>fun i hi=>absurd hi (Nat.not_lt_zero _)
  | k + 1,h,he=>by
    have hk:=h k (by omega)
    simp only [rkK] at he
    have hAB:rkK ads l k=rkK ads l2 k∧l.getD k 0=l2.getD k 0:=by
      generalize hW:((ads.getD k adz).most - (ads.getD k adz).least).toNat=w at*
      generalize rkK ads l k=A at*
      generalize rkK ads l2 k=B at*
      rcases Nat.lt_trichotomy A B with hc|hc|hc
      · have:=Nat.mul_le_mul_right (w+1) (show A+1≤B by omega)
        rw [Nat.add_mul] at this
        omega
      · subst hc
        exact⟨rfl,by omega⟩
      · have:=Nat.mul_le_mul_right (w+1) (show B+1≤A by omega)
        rw [Nat.add_mul] at this
        omega
    intro i hi
    rcases Nat.lt_or_ge i k with h1|h1
    · exact rk_inj (fun j hj=>h j (by omega)) hAB.1 i h1
    · obtain rfl:i=k:=by omega
      exact hAB.2
theorem rk_max{ads:List AdR}{l:List Int}(hl:stOk ads l):∀ k,k≤ads.length→rkK ads l k≤rkK ads (lstL ads) k
  |0,_=>Nat.le_refl _
  | k+1,hk=>by
    have ih:=rk_max hl k (by omega)
    have h1:=hl.2 k (by omega)
    simp only [rkK]
    rw [lstL_get (by omega)]
    generalize hW:((ads.getD k adz).most - (ads.getD k adz).least).toNat=w at*
    have:=Nat.mul_le_mul_right (w+1) ih
    omega
/-- a best one that is no worse than other steps -/
def leB(r:Bst)(p q:Int):Prop:=r.f=true∧(r.p<p∨(r.p=p∧r.q≤q))
theorem leB_upd{b:BnR}{l:List Int}{s:Bst}{p q:Int}(h:leB s p q):leB (updB b l s) p q:=by
  unfold updB
  split
  · exact h
  · rename_i hc
    have h2:¬ 0≤orI (cmpI (pasK b.ads l b.ads.length) s.p) (cmpI (sumA l b.ads.length) s.q):=fun g=>hc (.inl ⟨h.1,g⟩)
    rw [or_lt2] at h2
    refine⟨rfl,?_⟩
    have:=h.2
    dsimp only
    omega
theorem leB_self{b:BnR}{l:List Int}{s:Bst}(hb:brkP b l b.ms.length=[]):leB (updB b l s) (pasK b.ads l b.ads.length) (sumA l b.ads.length):=by
  unfold updB
  split
  · rename_i hc
    rcases hc with ⟨h1,h2⟩|h
    · rw [or_lt2] at h2
      refine⟨h1,?_⟩
      omega
    · exact absurd hb h
  · exact⟨rfl,.inr ⟨rfl,Int.le_refl _⟩⟩
theorem leB_fw{b:BnR}{p q:Int}:∀ (n:Nat) (l:List Int) (s:Bst),leB s p q→leB (fwF b n l s) p q
  |0,_,_,h=>h
  | n+1,l,s,h=>by
    unfold fwF
    split
    · exact leB_upd h
    · exact leB_fw n _ _ (leB_upd h)
theorem fw_all {b:BnR} (hw:∀ i,i<b.ads.length→(b.ads.getD i adz).least≤(b.ads.getD i adz).most) {T:List Int} (hT:stOk b.ads T) (hb:brkP b T b.ms.length=[]):∀ (n:Nat) (l:List Int) (s:Bst),stOk b.ads l→rkK b.ads l b.ads.length<n→rkK b.ads T b.ads.length≤rkK b.ads l b.ads.length→leB (fwF b n l s) (pasK b.ads T b.ads.length) (sumA T b.ads.length)
  |0,_,_,_,h,_=>absurd h (Nat.not_lt_zero _)
  | n + 1,l,s,hl,h1,h2=>by
    by_cases he:rkK b.ads T b.ads.length=rkK b.ads l b.ads.length
    · have e:T=l:=List.ext_getElem (by rw [hT.1,hl.1]) fun i g1 g2=>by
        have:=rk_inj (fun j hj=>⟨hT.2 j hj,hl.2 j hj⟩) he i (by rw [hT.1] at g1;exact g1)
        rwa [List.getD_eq_getElem?_getD,List.getElem?_eq_getElem g1,List.getD_eq_getElem?_getD,List.getElem?_eq_getElem g2] at this
      subst e
      unfold fwF
      split
      · exact leB_self hb
      · exact leB_fw n _ _ (leB_self hb)
    · unfold fwF
      split
      · rename_i hn
        have:=nxA_none hl.1 hn
        omega
      · rename_i l' hn
        have hr:=nxA_rank1 hl hw hn
        exact fw_all hw hT hb n l' _ (nxA_ok hl hw hn) (by omega) (by omega)
/-- the best steps are there, and need no more passes than any others -/
theorem fw_least{b:BnR}(hw:∀ i,i<b.ads.length→(b.ads.getD i adz).least≤(b.ads.getD i adz).most){T:List Int}(hT:stOk b.ads T)(hb:brkP b T b.ms.length=[]):(fwB b).f=true∧(fwB b).p≤pasK b.ads T b.ads.length:=by
  have h:=fw_all hw hT hb (rkK b.ads (lstL b.ads) b.ads.length+1) (lstL b.ads) ⟨false,[],0,0⟩ (lstL_ok hw) (Nat.lt_succ_self _) (rk_max hT b.ads.length (Nat.le_refl _))
  refine⟨h.1,?_⟩
  have:=h.2
  show(fwF b _ _ _).p≤_
  omega
end Go.Proofs.YtnablpehkeicmaaGreat
namespace Go.Proofs.YtnablpehkeicmaaGreat
open Go.RowKit
attribute [local irreducible] WA WOs WDs WAn qThen qBlock tput
set_option maxHeartbeats 1000000
set_option maxRecDepth 20000
set_option linter.unusedSimpArgs false
set_option linter.unusedVariables false
set_option maxHeartbeats 4000000

theorem tset_c(m:Mem):Gives Tryz.prog 4 [] m (.bool true):=by
  have FX:=exB_ok
  refine Gives_in Tryz.func4 rfl Tryz.ntmps4 Tryz.results4 (by kernel_rfl) (by simp) rfl fun Q hQ=>?_
  (repeat'(first|(refine sx ?_ ?_<;>intro h<;>first|(exfalso;omega)|skip)|(refine na ?_;(first|refine nb lbench_c ?_|refine nb ex_few ?_|refine s_fn (bints_e [3,0,0] 3 rfl (by decide) _ _ .own ?_) ?_)<;>try first|omega|assumption)|refine ny ?_|refine WA_block ?_))
  all_goals(try(exfalso;first|omega|contradiction))
  all_goals first
    | ((refine r_es hQ ?_;try with_reducible rfl)
       done)
    | (simp [nsV]
       done)
end Go.Proofs.YtnablpehkeicmaaGreat
namespace Go.Proofs.YtnablpehkeicmaaGreat
end Go.Proofs.YtnablpehkeicmaaGreat
namespace Go.Proofs.YtnablpehkeicmaaGreat
open Go.RowKit
attribute [local irreducible] WA WOs WDs WAn qThen qBlock tput
set_option maxHeartbeats 1000000
set_option maxRecDepth 20000
set_option linter.unusedSimpArgs false
set_option linter.unusedVariables false
set_option maxHeartbeats 4000000
/-- what Sums, CheckPlan return, of any bench -/
def suS(b:BnR)(l:List (List StR)):List Int:=if bnErr b≠0 then [] else smS b l
def suN(b:BnR)(l:List (List StR)):Int:=if bnErr b≠0 then 0 else smN b l
def suE(b:BnR)(l:List (List StR)):Int:=if bnErr b≠0 then bnErr b else smE b l
def ckN(b:BnR)(l:List (List StR)):Int:=if bnErr b≠0 then 0 else cpN b l
def ckE(b:BnR)(l:List (List StR)):Int:=if bnErr b≠0 then bnErr b else cpE b l
theorem gSums_c(b:BnR)(hb:Bl b)(l:List (List StR))(m:Mem):Gives Tryz.prog 29 [.agg (bnV b),.lst (plV l)] m (.tup [.lst (nsV (suS b l)),.int .i64 (suN b l),.int .i64 (suE b l)]):=by
  unfold suS suN suE
  by_cases h:bnErr b=0
  · rw [if_neg (by omega),if_neg (by omega),if_neg (by omega)]
    exact gSums_ok b hb h l m
  · rw [if_pos h,if_pos h,if_pos h]
    exact Gives_weak (gSums_bad b hb h l m) (wk_tup ⟨wk_nil,WkV.refl _,WkV.refl _,trivial⟩)
theorem gCheckPlan_c(b:BnR)(hb:Bl b)(l:List (List StR))(m:Mem):Gives Tryz.prog 12 [.agg (bnV b),.lst (plV l)] m (.tup [.int .i64 (ckN b l),.int .i64 (ckE b l)]):=by
  unfold ckN ckE
  by_cases h:bnErr b=0
  · rw [if_neg (by omega),if_neg (by omega)]
    exact gCheckPlan_ok b hb h l m
  · rw [if_pos h,if_pos h]
    exact gCheckPlan_bad b hb h l m
end Go.Proofs.YtnablpehkeicmaaGreat
