import Derived.Test.YtookikhphobnlaaGreatDoorB14
set_option linter.unusedSimpArgs false
set_option linter.unusedVariables false
/- all steps, in their order: the plain reading -/
namespace Go.Proofs.YtookikhphobnlaaGreatDoor
open Go.RowKit
theorem getD_set(l:List Int)(k i:Nat)(v:Int):(l.set k v).getD i 0=if i=k∧k<l.length then v else l.getD i 0:=by
  rw [List.getD_eq_getElem?_getD,List.getElem?_set,List.getD_eq_getElem?_getD]
  by_cases h:k=i
  · subst h
    by_cases h2:k<l.length
    · rw [if_pos rfl,if_pos h2,if_pos ⟨rfl,h2⟩];rfl
    · rw [if_pos rfl,if_neg h2,if_neg (fun h=>h2 h.2),List.getElem?_eq_none (by omega)]
  · rw [if_neg h,if_neg (fun h2=>h h2.1.symm)]
/-- back from a place, as long as the most steps are there: the least ones instead -/
def crL(ads:List AdR):Nat→List Int→List Int×Option Nat
  |0,l=>(l,none)
  |k+1,l=>if l.getD k 0=(ads.getD k adz).most then crL ads k (l.set k (ads.getD k adz).least) else (l,some k)
theorem crL_succ(ads:List AdR)(k:Nat)(l:List Int):crL ads (k+1) l=if l.getD k 0=(ads.getD k adz).most then crL ads k (l.set k (ads.getD k adz).least) else (l,some k):=rfl
/-- the next steps -/
def nxA(ads:List AdR)(l:List Int):Option (List Int):=match crL ads ads.length l with
  |(l',some k)=>some (l'.set k (l'.getD k 0+1))
  |(_,none)=>none
def stOk(ads:List AdR)(l:List Int):Prop:=l.length=ads.length∧∀ i,i<ads.length→(ads.getD i adz).least≤l.getD i 0∧l.getD i 0≤(ads.getD i adz).most
theorem crL_some {ads:List AdR}:∀ {k:Nat} {l l':List Int} {j:Nat},k≤l.length→crL ads k l=(l',some j)→j<k∧l'.length=l.length∧l.getD j 0≠(ads.getD j adz).most∧(∀ i,i≤j→l'.getD i 0=l.getD i 0)∧(∀ i,j<i→i<k→l.getD i 0=(ads.getD i adz).most∧l'.getD i 0=(ads.getD i adz).least)∧∀ i,k≤i→l'.getD i 0=l.getD i 0
  |0,l,l',j,_,h=>by simp [crL] at h
  | k + 1,l,l',j,hk,h=>by
    unfold crL at h
    split at h
    · rename_i hm
      obtain⟨h1,h2,h3,h4,h5,h6⟩:=crL_some (by simp;omega) h
      have hs:=fun i=>getD_set l k i (ads.getD k adz).least
      refine⟨by omega,by rw [h2];simp,?_,fun i hi=>?_,fun i hi hik=>?_,fun i hi=>?_⟩
      · rw [hs,if_neg (by omega)] at h3;exact h3
      · rw [h4 i hi,hs,if_neg (by omega)]
      · rcases Nat.lt_or_ge i k with q|q
        · obtain⟨g1,g2⟩:=h5 i hi q
          rw [hs,if_neg (by omega)] at g1
          exact⟨g1,g2⟩
        · obtain rfl:i=k:=by omega
          refine⟨hm,?_⟩
          rw [h6 i (Nat.le_refl _),hs,if_pos ⟨rfl,by omega⟩]
      · rw [h6 i (by omega),hs,if_neg (by omega)]
    · rename_i hm
      injection h with e1 e2
      injection e2 with e2
      subst e1;subst e2
      exact⟨by omega,rfl,hm,fun _ _=>rfl,fun i h1 h2=>by omega,fun _ _=>rfl⟩
theorem nxA_ok{ads:List AdR}{l l2:List Int}(hl:stOk ads l)(hw:∀ i,i<ads.length→(ads.getD i adz).least≤(ads.getD i adz).most)(h:nxA ads l=some l2):stOk ads l2:=by
  unfold nxA at h
  split at h
  · rename_i l' k he
    injection h with h
    subst h
    obtain⟨h1,h2,h3,h4,h5,h6⟩:=crL_some (by rw [hl.1];exact Nat.le_refl _) he
    refine⟨by simp [h2,hl.1],fun i hi=>?_⟩
    rw [getD_set]
    have hb:=hl.2 i hi
    have hbw:=hw i hi
    split
    · rename_i hc
      obtain⟨rfl,_⟩:=hc
      rw [h4 i (Nat.le_refl _)]
      omega
    · rename_i hc
      rcases Nat.lt_trichotomy i k with q|q|q
      · rw [h4 i (by omega)];exact hb
      · exact absurd ⟨q,by rw [h2,hl.1];omega⟩ hc
      · rw [(h5 i q hi).2];omega
  · cases h
/-- how many steps are still to come -/
def rkK(ads:List AdR)(l:List Int):Nat→Nat
  |0=>0
  |k+1=>rkK ads l k * (((ads.getD k adz).most - (ads.getD k adz).least).toNat+1)+((ads.getD k adz).most - l.getD k 0).toNat
theorem rkK_same{ads:List AdR}{l l2:List Int}:∀ {k:Nat},(∀ i,i<k→l2.getD i 0=l.getD i 0)→rkK ads l2 k=rkK ads l k
  |0,_=>rfl
  |k+1,h=>by simp only [rkK];rw [rkK_same (k:=k) fun i hi=>h i (by omega),h k (by omega)]
theorem nxA_rank {ads:List AdR} {l l2:List Int} (hl:stOk ads l) (hw:∀ i,i<ads.length→(ads.getD i adz).least≤(ads.getD i adz).most) (h:nxA ads l=some l2):rkK ads l2 ads.length<rkK ads l ads.length:=by
  unfold nxA at h
  split at h
  · rename_i l' k he
    injection h with h
    subst h
    obtain⟨h1,h2,h3,h4,h5,h6⟩:=crL_some (by rw [hl.1];exact Nat.le_refl _) he
    have hg:∀ i,(l'.set k (l'.getD k 0+1)).getD i 0=if i=k then l.getD k 0+1 else l'.getD i 0:=fun i=>by
      rw [getD_set]
      by_cases hc:i=k
      · rw [if_pos ⟨hc,by rw [h2,hl.1];exact h1⟩,if_pos hc,h4 k (Nat.le_refl _)]
      · rw [if_neg (fun h=>hc h.1),if_neg hc]
    have key:∀ d,k+1+d≤ads.length→rkK ads (l'.set k (l'.getD k 0+1)) (k+1+d)+1≤rkK ads l (k+1+d):=by
      intro d
      induction d with
      | zero=>
        intro _
        have hb:=hl.2 k h1
        show rkK ads _ (k+1)+1≤rkK ads l (k+1)
        simp only [rkK]
        rw [rkK_same (l:=l) (k:=k) fun i hi=>by rw [hg,if_neg (by omega),h4 i (by omega)],hg,if_pos rfl]
        omega
      | succ d ih=>
        intro hd
        have ih:=ih (by omega)
        obtain⟨g1,g2⟩:=h5 (k+1+d) (by omega) (by omega)
        have hwk:=hw (k+1+d) (by omega)
        show rkK ads _ (k+1+d+1)+1≤rkK ads l (k+1+d+1)
        simp only [rkK]
        rw [hg (k+1+d),if_neg (by omega),g2,g1]
        generalize rkK ads (l'.set k (l'.getD k 0+1)) (k+1+d)=A at *
        generalize rkK ads l (k+1+d)=B at *
        generalize ((ads.getD (k+1+d) adz).most - (ads.getD (k+1+d) adz).least).toNat=w at *
        have:=Nat.mul_le_mul_right (w+1) ih
        rw [Nat.add_mul] at this
        omega
    have:=key (ads.length - (k+1)) (by omega)
    rw [show k+1+(ads.length - (k+1))=ads.length by omega] at this
    omega
  · cases h
def lstL(ads:List AdR):List Int:=ads.map AdR.least
theorem lstL_get{ads:List AdR}{i:Nat}(h:i<ads.length):(lstL ads).getD i 0=(ads.getD i adz).least:=by
  unfold lstL
  rw [List.getD_eq_getElem?_getD,List.getElem?_map,lst_get (d:=adz) h];rfl
theorem lstL_ok{ads:List AdR}(hw:∀ i,i<ads.length→(ads.getD i adz).least≤(ads.getD i adz).most):stOk ads (lstL ads):=
  ⟨by simp [lstL],fun i hi=>by rw [lstL_get hi];exact⟨Int.le_refl _,hw i hi⟩⟩
/-- .. of which the first ones are there, 0 behind them -/
def filL(ads:List AdR)(i:Nat):List Int:=(List.range ads.length).map fun k=>if k<i then (ads.getD k adz).least else 0
theorem filL_length(ads:List AdR)(i:Nat):(filL ads i).length=ads.length:=by simp [filL]
theorem filL_zero(ads:List AdR):nsV (filL ads 0)=List.replicate ads.length [V.int .i64 0]:=by
  unfold nsV filL
  rw [List.map_map]
  refine List.ext_getElem (by simp) fun i h1 h2=>?_
  simp
theorem filL_all(ads:List AdR):filL ads ads.length=lstL ads:=by
  unfold filL lstL
  refine List.ext_getElem (by simp) fun i h1 h2=>?_
  have hi:i<ads.length:=by simpa using h1
  simp only [List.getElem_map,List.getElem_range,if_pos hi]
  rw [List.getD_eq_getElem?_getD,List.getElem?_eq_getElem hi];rfl
theorem filL_succ{ads:List AdR}{i:Nat}(hi:i<ads.length):filL ads (i+1)=(filL ads i).set i (ads.getD i adz).least:=by
  refine List.ext_getElem (by simp [filL]) fun j h1 h2=>?_
  rw [List.getElem_set]
  simp only [filL,List.getElem_map,List.getElem_range]
  by_cases h:i=j
  · subst h;rw [if_pos rfl,if_pos (by omega)]
  · rw [if_neg h]
    by_cases h3:j<i
    · rw [if_pos (by omega),if_pos h3]
    · rw [if_neg (by omega),if_neg h3]
/-- the best steps up to now -/
structure Bst where
  f:Bool
  l:List Int
  p:Int
  q:Int
def orI(a b:Int):Int:=if a≠0 then a else b
def updB(b:BnR)(l:List Int)(s:Bst):Bst:=if (s.f=true∧0≤orI (cmpI (pasK b.ads l b.ads.length) s.p) (cmpI (sumA l b.ads.length) s.q))∨brkP b l b.ms.length≠[] then s else ⟨true,l,pasK b.ads l b.ads.length,sumA l b.ads.length⟩
def fwF (b:BnR):Nat→List Int→Bst→Bst
  |0,_,s=>s
  | n+1,l,s=>match nxA b.ads l with
    |none=>updB b l s
    |some l'=>fwF b n l' (updB b l s)
/-- .. of all -/
def fwB(b:BnR):Bst:=fwF b (rkK b.ads (lstL b.ads) b.ads.length+1) (lstL b.ads) ⟨false,[],0,0⟩
def trK(ads:List AdR):Nat→Int
  |0=>1
  |k+1=>trK ads k * ((ads.getD k adz).most - (ads.getD k adz).least+1)
end Go.Proofs.YtookikhphobnlaaGreatDoor
namespace Go.Proofs.YtookikhphobnlaaGreatDoor
open Go.RowKit
attribute [local irreducible] WA WOs WDs WAn qThen qBlock tput
set_option maxHeartbeats 1000000
set_option maxRecDepth 20000
set_option linter.unusedSimpArgs false
set_option linter.unusedVariables false

theorem cor_c(a b:Int)(m:Mem)(k:Nat){st:Sta}(hk:m[k]?=some (.cells st 3 1 [[.int .i64 a],[.int .i64 b]]):=by first|exact ev_|fail):Gives Tryz.prog 59 [.sl k 2] m (.int .i64 (if a≠0 then a else b)):=by
  have hkl:=lend_get2 hk
  refine Gives_in Tryz.func59 rfl Tryz.ntmps59 Tryz.results59 (by kernel_rfl) (by simp) rfl fun Q hQ=>?_
  (have FX:=hkl;repeat'(first|(refine sx ?_ ?_<;>intro h<;>first|(exfalso;omega)|skip)|refine ny ?_|refine WA_block ?_))
  refine WA_rounds 3 ?_
  (have FX:=hkl;repeat'(first|(refine sx ?_ ?_<;>intro h<;>first|(exfalso;omega)|skip)|refine ny ?_|refine WA_block ?_))
  all_goals(try(exfalso;omega))
  all_goals((refine r_es hQ ?_;try with_reducible rfl))
  all_goals(refine congrArg (V.int .i64) ?_;first|(rw [if_pos (by omega)];done)|(rw [if_neg (by omega)];done)|(rw [if_neg (by omega)];omega))
theorem uB15_58_5{N:Nat}{l:List Oper}{t:List (Nat×V)}{m:Mem}{Q:Exit→List (Nat×V)→Mem→Prop}(h:RgN Tryz.prog N l t m Q (fun i=>if i==6 then .w else if i==1 || i==3 then .q else .p) [.one 0,.one 1,.one 2,.one 3,.one 4,.one 5,.one 6]):WA Tryz.prog N (.region 5 l.toArray true) t m Q:=d_rgN h
theorem geffort_c(b:BnR)(hb:Bnd b)(l:List Int)(hl:l.length=b.ads.length)(hs:∀ k,k<b.ads.length→ -1000≤l.getD k 0∧l.getD k 0≤1000)(m:Mem):Gives Tryz.prog 58 [.bp (bxC b) 0,.lst (nsV l)] m (.agg [.int .i64 (pasK b.ads l b.ads.length),.int .i64 (sumA l b.ads.length)]):=by
  have hln:=nsV_length (l:=l)
  have hga:=hln
  have hsz:=hln
  have hfa:=hb.fa
  refine Gives_in Tryz.func58 rfl Tryz.ntmps58 Tryz.results58 (by kernel_rfl) (by simp) rfl fun Q hQ=>?_
  (have FX:=And.intro hln hga;repeat'(first|(refine sx ?_ ?_<;>intro h<;>first|(exfalso;omega)|skip)|(refine g_op ?_;refine g_call ?_;refine g_args ?_;(first|refine s_fn (gpasses_c b hb l hl hs _) ?_|refine s_fn (hsz _) ?_)<;>try first|omega|assumption)|refine ny ?_|refine WA_block ?_|(refine uB15_58_5 ?_;refine⟨by kernel_rfl,?_⟩)|((first|refine grp_cons (fun _=>gpasses_c b hb l hl hs _) ?_|refine grp_cons (fun _=>hsz _) ?_)<;>try first|omega|assumption)|(refine g_d ?_;refine d_args ?_;(first|refine d_fn (gpasses_c b hb l hl hs _) ?_|refine d_fn (hsz _) ?_|refine d_fnQ (fun _=>gpasses_c b hb l hl hs _) ?_|refine d_fnQ (fun _=>hsz _) ?_)<;>try first|omega|assumption)|(refine g_d ?_;(first|refine d_fnY (gpasses_c b hb l hl hs _) ?_|refine d_fnY (hsz _) ?_)<;>try first|omega|assumption)))
  refine WA_whileK (σ:=Nat) (L:=m) [4,5,12,13,14] (fun k=>[.ptr (lend m).length 0 0,.ptr ((lend m).length+1) 0 0,.lst (nsV l),.int .i64 l.length,.int .i64 k]) (fun k=>[.cells .own 117 2 [[.int .i64 0,.int .i64 0]],.cells .own 117 2 [[.int .i64 (pasK b.ads l b.ads.length),.int .i64 (sumA l k)]]]) 2 (fun k=>k≤b.ads.length) (fun k=>b.ads.length - k) 0 (Nat.zero_le _) tv_ rfl (fun _=>rfl) (by intro s s' _ _;simp [conB,conS,V.keeps,V.plain,Blk.flat,flatL,plainL,V.flat]) (by intro s s' _ _;simp [conB,conS,V.keeps,V.plain,Blk.flat,flatL,plainL,V.flat]) ?_
  rintro k hk1 K hK
  simp only [zipT]
  clear FX hga hsz
  have hbd:=sumA_bd hs k hk1
  rcases Nat.lt_or_ge k b.ads.length with hk|hk
  · have hga:=nsV_get (l:=l) (i:=k) (by omega)
    have hsk:=hs k hk
    have hsz:=fun m=>gsize_c (l.getD k 0) (by omega) (by omega) m
    have hsu:sumA l (k+1)=sumA l k+((l.getD k 0).natAbs:Int):=rfl
    generalize l.getD k 0=s at *
    generalize sumA l k=sk at *
    (have FX:=And.intro hln hga;repeat'(first|(refine sx ?_ ?_<;>intro h<;>first|(exfalso;omega)|skip)|(refine g_op ?_;refine g_call ?_;refine g_args ?_;(first|refine s_fn (gpasses_c b hb l hl hs _) ?_|refine s_fn (hsz _) ?_)<;>try first|omega|assumption)|refine ny ?_|refine WA_block ?_|(refine uB15_58_5 ?_;refine⟨by kernel_rfl,?_⟩)|((first|refine grp_cons (fun _=>gpasses_c b hb l hl hs _) ?_|refine grp_cons (fun _=>hsz _) ?_)<;>try first|omega|assumption)|(refine g_d ?_;refine d_args ?_;(first|refine d_fn (gpasses_c b hb l hl hs _) ?_|refine d_fn (hsz _) ?_|refine d_fnQ (fun _=>gpasses_c b hb l hl hs _) ?_|refine d_fnQ (fun _=>hsz _) ?_)<;>try first|omega|assumption)|(refine g_d ?_;(first|refine d_fnY (gpasses_c b hb l hl hs _) ?_|refine d_fnY (hsz _) ?_)<;>try first|omega|assumption)))
    all_goals(try(exfalso;omega))
    all_goals(refine nextL_ hK (k+1) hk (by omega) (hm:=by rw [hsu];rfl))
  · obtain rfl:k=b.ads.length:=by omega
    have hga:=hln
    have hsz:=hln
    (have FX:=And.intro hln hga;repeat'(first|(refine sx ?_ ?_<;>intro h<;>first|(exfalso;omega)|skip)|(refine g_op ?_;refine g_call ?_;refine g_args ?_;(first|refine s_fn (gpasses_c b hb l hl hs _) ?_|refine s_fn (hsz _) ?_)<;>try first|omega|assumption)|refine ny ?_|refine WA_block ?_|(refine uB15_58_5 ?_;refine⟨by kernel_rfl,?_⟩)|((first|refine grp_cons (fun _=>gpasses_c b hb l hl hs _) ?_|refine grp_cons (fun _=>hsz _) ?_)<;>try first|omega|assumption)|(refine g_d ?_;refine d_args ?_;(first|refine d_fn (gpasses_c b hb l hl hs _) ?_|refine d_fn (hsz _) ?_|refine d_fnQ (fun _=>gpasses_c b hb l hl hs _) ?_|refine d_fnQ (fun _=>hsz _) ?_)<;>try first|omega|assumption)|(refine g_d ?_;(first|refine d_fnY (gpasses_c b hb l hl hs _) ?_|refine d_fnY (hsz _) ?_)<;>try first|omega|assumption)))
    all_goals(try(exfalso;omega))
    all_goals((refine r_es hQ ?_;try with_reducible rfl))
end Go.Proofs.YtookikhphobnlaaGreatDoor
