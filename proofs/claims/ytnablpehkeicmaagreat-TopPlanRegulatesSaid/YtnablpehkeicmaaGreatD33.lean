/- plain reading: an accepted plan has no fewer passes than its sums want -/
import Derived.Test.YtnablpehkeicmaaGreatGAN
import Derived.Test.YtnablpehkeicmaaGreatGAO
import Derived.Test.YtnablpehkeicmaaGreatGAM
set_option linter.unusedSimpArgs false
set_option linter.unusedVariables false
namespace Go.Proofs.YtnablpehkeicmaaGreat
/-- what a pass adds at j -/
def ctrM(p:List StR)(j:Nat):Nat→Int
  |0=>0
  |k+1=>ctrM p j k+if (p.getD k stz).ad.toNat=j then (p.getD k stz).n else 0
theorem setM{s:List Int}{a j:Nat}{x:Int}(hj:j<s.length):(s.set a x).getD j 0=if a=j then x else s.getD j 0:=by
  rw [List.getD_eq_getElem?_getD,List.getElem?_set,List.getD_eq_getElem?_getD]
  by_cases h:a=j
  · subst h;simp [hj]
  · simp [h]
theorem addM(p:List StR)(s:List Int){j:Nat}(hj:j<s.length):∀ k,(addS p s k).getD j 0=s.getD j 0+ctrM p j k
  |0=>by simp [addS,ctrM]
  | k+1=>by
    rw [addS,setM (by rw [addS_length];exact hj),addM p s hj k]
    rw [ctrM]
    by_cases h:(p.getD k stz).ad.toNat=j
    · rw [if_pos h,if_pos h,h,addM p s hj k];omega
    · rw [if_neg h,if_neg h];omega
theorem ctrM_zero{p:List StR}{j:Nat}:∀ {k:Nat},(∀ i,i<k→(p.getD i stz).ad.toNat≠j)→ctrM p j k=0
  |0,_=>rfl
  | k+1,h=>by
    rw [ctrM,ctrM_zero (fun i hi=>h i (by omega)),if_neg (h k (by omega))];rfl
theorem psM_ne {ads:List AdR} {p:List StR} (h:psOk ads p) {i k:Nat} (hi:i<k) (hk:k<p.length):(p.getD i stz).ad.toNat≠(p.getD k stz).ad.toNat:=by
  intro e
  have h1:=h.2 i (by omega)
  have h2:=h.2 k hk
  unfold psErrAt at h1 h2
  split at h1
  · cases h1
  · rename_i a1
    split at h2
    · cases h2
    · rename_i a2
      split at h2
      · cases h2
      · rename_i a3
        refine a3 ?_
        rcases fdx_cases (isS (p.getD k stz).ad) (p.take k) stz with q|⟨x,_,q,_,_⟩
        · have:=q.2 i (by rw [List.length_take];omega)
          have e2:(p.take k).getD i stz=p.getD i stz:=by rw [List.getD_eq_getElem?_getD,List.getElem?_take_of_lt hi,←List.getD_eq_getElem?_getD]
          rw [e2] at this
          exact absurd (show(p.getD i stz).ad=(p.getD k stz).ad by omega) (of_decide_eq_false this)
        · omega
theorem ctrM_bd {ads:List AdR} {p:List StR} (h:psOk ads p) {j:Nat} (hp:1≤(ads.getD j adz).pass):∀ k,k≤p.length→ -(ads.getD j adz).pass≤ctrM p j k∧ctrM p j k≤(ads.getD j adz).pass
  |0,_=>by rw [ctrM];omega
  | k + 1,hk=>by
    rw [ctrM]
    by_cases e:(p.getD k stz).ad.toNat=j
    · rw [if_pos e,ctrM_zero (fun i hi=>by rw [←e];exact psM_ne h hi (by omega))]
      have h2:=h.2 k (by omega)
      unfold psErrAt at h2
      rw [e] at h2
      split at h2
      · cases h2
      · split at h2
        · cases h2
        · split at h2
          · cases h2
          · split at h2
            · cases h2
            · omega
    · rw [if_neg e]
      have:=ctrM_bd h hp k (by omega)
      omega
theorem smM_bd{b:BnR}{pl:List (List StR)}(h0:∀ j,j<pl.length→plErrAt b pl j=0){j:Nat}(hj:j<b.ads.length)(hp:1≤(b.ads.getD j adz).pass):∀ k:Nat,k≤pl.length→((smK b pl k).getD j 0).natAbs≤k*(b.ads.getD j adz).pass.toNat
  | 0,_=>by
    rw [smK,List.getD_eq_getElem?_getD,List.getElem?_replicate,if_pos hj];simp
  | k+1,hk=>by
    rw [smK,addM _ _ (by rw [smK_length];exact hj)]
    have h1:=smM_bd h0 hj hp k (by omega)
    have h2:=ctrM_bd (plErr_ok (h0 k (by omega))).1 hp _ (Nat.le_refl _)
    rw [Nat.add_mul]
    omega
theorem pasM_le{b:BnR}(hb:Bnd b){pl:List (List StR)}(h:smE b pl=0):pasK b.ads (smS b pl) b.ads.length≤pl.length:=by
  obtain⟨h0,e⟩:(∀ j,j<pl.length→plErrAt b pl j=0)∧smS b pl=smK b pl pl.length:=by
    rcases sm_cases b pl with ⟨_,_,_,q⟩|⟨_,i,_,_,q1,_,_,q2⟩|⟨q0,q1,q2⟩
    · omega
    · omega
    · exact⟨q1,q2.1⟩
  rw [e]
  rcases Int.lt_or_le (pl.length:Int) (pasK b.ads (smK b pl pl.length) b.ads.length) with hl|hl
  · obtain⟨j,hj,he⟩:=pasK_at (ads:=b.ads) (l:=smK b pl pl.length) (k:=b.ads.length) (by omega)
    have hp:=hb.pa j hj
    have h1:=pasA_gt hp.1 (by rw [he];exact hl)
    have h2:=smM_bd h0 hj hp.1 pl.length (Nat.le_refl _)
    have h3:((pl.length*(b.ads.getD j adz).pass.toNat:Nat):Int)=(pl.length:Int)*(b.ads.getD j adz).pass:=by
      rw [Int.natCast_mul,Int.toNat_of_nonneg (by omega)]
    omega
  · exact hl
/-- an accepted plan: its sums are steps, nothing is broken behind them, and Fewest finds no more passes -/
theorem plan_fw{b:BnR}(hb:Bnd b){pl:List (List StR)}(h:cpE b pl=0):smE b pl=0∧stOk b.ads (smS b pl)∧brkP b (smS b pl) b.ms.length=[]∧(fwB b).f=true∧(fwB b).p≤pl.length:=by
  unfold cpE at h
  split at h
  · contradiction
  · rename_i h1
    have h1:smE b pl=0:=by omega
    split at h
    · simp at h
    · rename_i h2
      have h2:brkP b (smS b pl) b.ms.length=[]:=Classical.byContradiction h2
      have hs:=smS_ok hb h1
      obtain⟨g1,g2⟩:=fw_least (fun i hi=>by have:=hb.le i hi;have:=hb.mo i hi;omega) hs h2
      have:=pasM_le hb h1
      exact⟨h1,hs,h2,g1,by omega⟩
end Go.Proofs.YtnablpehkeicmaaGreat
