import Derived.Test.YtookikhphobnlaaGreatDoorB18
import Derived.Test.YtookikhphobnlaaGreatDoorGAK
set_option linter.unusedSimpArgs false
set_option linter.unusedVariables false
/- contract: a sweep -/
namespace Go.Proofs.YtookikhphobnlaaGreatDoor
open Go.RowKit
attribute [local irreducible] WA WOs WDs WAn qThen qBlock tput
set_option maxHeartbeats 1000000
set_option maxRecDepth 20000
set_option linter.unusedSimpArgs false
set_option linter.unusedVariables false
theorem stepN_ok{ok:Int→Bool}{far:Int→Int}{s:Int}{p:Int×Bool}(h:p.1=0∨ok p.1=true):(stepN ok far s p).1=0∨ok (stepN ok far s p).1=true:=by
  unfold stepN
  split
  · split
    · right;assumption
    · exact h
  · exact h
theorem nrK_ok(ok:Int→Bool)(far:Int→Int):∀ n,(nrK ok far n).1=0∨ok (nrK ok far n).1=true
  |0=> .inl rfl
  |n+1=>stepN_ok (stepN_ok (nrK_ok ok far n))
theorem nearP_ok{b:BnR}{l:List Int}{i j:Nat}(h:(b.ads.getD i adz).least≤l.getD i 0∧l.getD i 0≤(b.ads.getD i adz).most):(b.ads.getD i adz).least≤l.getD i 0+nearP b l i j∧l.getD i 0+nearP b l i j≤(b.ads.getD i adz).most:=by
  have h2:=nrK_ok (okS (b.ads.getD i adz) (l.getD i 0)) (farP (valP b l j) (byN b i j) (b.ms.getD j msz).low (b.ms.getD j msz).high) ((b.ads.getD i adz).pass.toNat+1)
  unfold nearP
  rcases h2 with h2|h2
  · rw [h2];omega
  · exact of_decide_eq_true h2
theorem ordF_lt (ads:List AdR):∀ (n:Nat) (out:List Nat),(∀ x∈out,x<ads.length)→∀ x∈ordF ads n out,x<ads.length
  |0,out,h=>h
  | n + 1,out,h=>by
    unfold ordF
    split
    · exact h
    · rename_i hn
      refine ordF_lt ads n _ fun x hx=>?_
      rcases List.mem_append.1 hx with hx|hx
      · exact h x hx
      · rw [List.mem_singleton.1 hx]
        have:=(fdx_bd (rdyA (outN ads out)) ads).2
        have e:nxtI ads out=fdx (rdyA (outN ads out)) ads:=rfl
        omega
theorem ordB_lt{ads:List AdR}{k:Nat}(h:k<(ordB ads).length):(ordB ads).getD k 0<ads.length:=by
  have h1:∀ x∈ordB ads,x<ads.length:=ordF_lt ads (ads.length+1) [] (fun x hx=>by cases hx)
  refine h1 _ ?_
  rw [List.getD_eq_getElem?_getD,List.getElem?_eq_getElem h]
  exact List.getElem_mem h
theorem ordB_len (ads:List AdR):(ordB ads).length≤ads.length:=by
  have key:∀ (n:Nat) (out:List Nat),out.length+leftN ads out≤ads.length→(ordF ads n out).length≤ads.length:=by
    intro n
    induction n with
    |zero=>intro out h;simp only [ordF];omega
    | succ n ih=>
      intro out h
      unfold ordF
      split
      · omega
      · rename_i hn
        refine ih _ ?_
        have e:nxtI ads out=fdx (rdyA (outN ads out)) ads:=rfl
        rcases fdx_cases (rdyA (outN ads out)) ads adz with ⟨h1,_⟩|⟨i,hi,h1,h2,_⟩
        · omega
        · have h3:(nxtI ads out).toNat=i:=by omega
          rw [h3]
          have:=leftN_lt hi h2
          rw [List.length_append,List.length_singleton]
          omega
  exact key _ _ (by have:=leftN_le ads [];simpa using this)
theorem mainL_bd(mm:List MsR)(l:List EfR): -1≤mainL mm l∧mainL mm l<mm.length:=by
  cases l with
  |nil=>exact⟨Int.le_refl (-1),by show(-1:Int)<_;omega⟩
  |cons e r=>exact fdx_bd _ _
theorem fin_pl{m0 D:Mem}{es:List (List V)}{R:V→Option Mem→Prop}(h:plainLL es=true)(hR:R (.lst es) none):Fin m0 R (.lst es) (lend m0++D):= .inr ⟨D,_,rfl,frz_plain _ _ _ (by simpa [V.plain] using h) (by simp) (by simp) (by simp) (by simp),hR⟩
def stepS(b:BnR)(i:Nat)(l:List Int):List Int:=if 0≤mainL b.ms (b.ads.getD i adz).effs then l.set i (l.getD i 0+nearP b l i (mainL b.ms (b.ads.getD i adz).effs).toNat) else l
def swK(b:BnR)(l:List Int):Nat→List Int
  |0=>l
  |k+1=>stepS b ((ordB b.ads).getD k 0) (swK b l k)
/-- the steps behind a sweep -/
def sweepP(b:BnR)(l:List Int):List Int:=swK b l (ordB b.ads).length
theorem stepS_ok{b:BnR}{l:List Int}{i:Nat}(hi:i<b.ads.length)(h:stOk b.ads l):stOk b.ads (stepS b i l):=by
  unfold stepS
  split
  · refine⟨by simp [h.1],fun k hk=>?_⟩
    rw [getD_set]
    split
    · rename_i hc
      obtain⟨rfl,_⟩:=hc
      exact nearP_ok (h.2 k hk)
    · exact h.2 k hk
  · exact h
theorem swK_ok{b:BnR}{l:List Int}(h:stOk b.ads l):∀ k,k≤(ordB b.ads).length→stOk b.ads (swK b l k)
  |0,_=>h
  |k+1,hk=>stepS_ok (ordB_lt (by omega)) (swK_ok h k (by omega))
theorem sweepP_ok{b:BnR}{l:List Int}(h:stOk b.ads l):stOk b.ads (sweepP b l):=swK_ok h _ (Nat.le_refl _)
theorem gnear_s(b:BnR)(hb:Bnd b)(l:List Int)(hst:stOk b.ads l)(i j:Nat)(hi:i<b.ads.length)(hj:j<b.ms.length)(hmj:mainL b.ms (b.ads.getD i adz).effs=(j:Int))(m:Mem)(k:Nat){st:Sta}(hk:m[k]?=some (.cells st 3 1 (nsV l)):=by first|exact ev_|fail):Gives Tryz.prog 97 [.bp (bxC b) 0,.int .i64 i,.sl k l.length] m (.int .i64 (nearP b l i j)):=by
  refine Gives_fz hk (by simp [V.flat]) ?_
  show Gives _ _ [.bp (bxC b) 0,.int .i64 i,frzV k (nsV l) (.sl k l.length)] _ _
  rw [fz_nsV]
  exact gnear_c b hb l hst i j hi hj hmj _
theorem uB19_63_6{N:Nat}{l:List Oper}{t:List (Nat×V)}{m:Mem}{Q:Exit→List (Nat×V)→Mem→Prop}(h:RgN Tryz.prog N l t m Q (fun i=>if i==10 then .w else if i==3 || i==7 then .q else .p) [.one 0,.one 1,.one 2,.one 3,.one 4,.one 5,.one 6,.one 7,.one 8,.one 9,.one 10]):WA Tryz.prog N (.region 6 l.toArray true) t m Q:=d_rgN h
theorem gsweep_c (b:BnR) (hb:Bnd b) (l:List Int) (hst:stOk b.ads l) (m:Mem):Gives Tryz.prog 63 [.bp (bxC b) 0,.lst (nsV l)] m (.lst (nsV (sweepP b l))):=by
  have hlo:=nuV_length (l:=ordB b.ads)
  have hlk:(nsV (mnsB b.ms b.ads)).length=b.ads.length:=by rw [nsV_length,mnsB_length]
  have hol:=ordB_len b.ads
  have hfa:=hb.fa
  have hga:=hlk
  have hgb:=hlk
  have hgc:=hlk
  have hnr:=hlk
  have hbx:bxC b=[.lst (mssV b.ms),.lst (adsV b.ads),.lst (nuV (ordB b.ads)),.lst (rwV (rowsB b.ms b.ads)),.lst (nsV (mnsB b.ms b.ads))]:=rfl
  refine CallA_in Tryz.func63 rfl Tryz.ntmps63 Tryz.results63 (by kernel_rfl) (by simp) fun Q hQ=>?_
  cases l with
  | nil=>
    have h0:b.ads.length=0:=by have:=hst.1;simpa using this.symm
    have hsw:sweepP b []=[]:=by unfold sweepP;rw [show(ordB b.ads).length=0 by omega];rfl
    rw [hsw] at hQ
    have hcl:=fun m=>gclone_v [] (by simp) m
    rw [hbx]
    (have FX:=And.intro hlk (And.intro hlo (And.intro hga (And.intro hgb hgc)));repeat'(first|(refine sx ?_ ?_<;>intro h<;>first|(exfalso;omega)|skip)|(refine g_op ?_;refine g_call ?_;refine g_args ?_;(first|refine s_fn (hcl _) ?_)<;>try first|omega|assumption)|refine ny ?_|refine WA_block ?_|(refine uB19_63_6 ?_;refine⟨by kernel_rfl,?_⟩)|((first|refine grp_cons (fun _=>hcl _) ?_)<;>try first|omega|assumption)|(refine g_d ?_;refine d_args ?_;(first|refine d_fn (hcl _) ?_|refine d_fnQ (fun _=>hcl _) ?_)<;>try first|omega|assumption)|(refine g_d ?_;(first|refine d_fnY (hcl _) ?_)<;>try first|omega|assumption)))
    refine WA_rounds 1 ?_
    (have FX:=And.intro hlk (And.intro hlo (And.intro hga (And.intro hgb hgc)));repeat'(first|(refine sx ?_ ?_<;>intro h<;>first|(exfalso;omega)|skip)|(refine g_op ?_;refine g_call ?_;refine g_args ?_;(first|refine s_fn (hcl _) ?_)<;>try first|omega|assumption)|refine ny ?_|refine WA_block ?_|(refine uB19_63_6 ?_;refine⟨by kernel_rfl,?_⟩)|((first|refine grp_cons (fun _=>hcl _) ?_)<;>try first|omega|assumption)|(refine g_d ?_;refine d_args ?_;(first|refine d_fn (hcl _) ?_|refine d_fnQ (fun _=>hcl _) ?_)<;>try first|omega|assumption)|(refine g_d ?_;(first|refine d_fnY (hcl _) ?_)<;>try first|omega|assumption)))
    all_goals(try(exfalso;omega))
    all_goals(refine r_esA hQ (fin_pl (nsV_plain _) ⟨rfl,rfl⟩))
  | cons a r=>
    have hcl:=fun m=>gclone_o a r (by have:=hst.1;simp at this;omega) m
    have hrl:r.length+1=b.ads.length:=by have:=hst.1;simpa using this
    rw [hbx]
    (have FX:=And.intro hlk (And.intro hlo (And.intro hga (And.intro hgb hgc)));repeat'(first|(refine sx ?_ ?_<;>intro h<;>first|(exfalso;omega)|skip)|(refine g_op ?_;refine g_call ?_;refine g_args ?_;(first|refine s_fn (hnr _) ?_|refine s_fnO (hcl _) ?_)<;>try first|omega|assumption)|refine ny ?_|refine WA_block ?_|(refine uB19_63_6 ?_;refine⟨by kernel_rfl,?_⟩)|((first|refine grp_cons (fun _=>hnr _) ?_)<;>try first|omega|assumption)|(refine g_d ?_;refine d_args ?_;(first|refine d_fn (hnr _) ?_|refine d_fnQ (fun _=>hnr _) ?_)<;>try first|omega|assumption)|(refine g_d ?_;(first|refine d_fnY (hnr _) ?_)<;>try first|omega|assumption)))
    refine WA_whileK (σ:=Nat) (L:=m) [0,5,13,14,15] (fun k=>[.bp [.lst (mssV b.ms),.lst (adsV b.ads),.lst (nuV (ordB b.ads)),.lst (rwV (rowsB b.ms b.ads)),.lst (nsV (mnsB b.ms b.ads))] 0,.sl ((lend m).length+1) (r.length+1),.lst (nuV (ordB b.ads)),.int .i64 (ordB b.ads).length,.int .i64 k]) (fun k=>[.dead,.cells .own 3 1 (nsV (swK b (a::r) k))]) 2 (fun k=>k≤(ordB b.ads).length) (fun k=>(ordB b.ads).length - k) 0 (Nat.zero_le _) tv_ rfl (fun _=>rfl) (by intro s s' _ _;simp [conB,conS,V.keeps,V.plain,Blk.flat,flatL,plainL,V.flat]) (fun s s' _ _=>⟨.inr rfl,.inl (by have:=nsV_plain (swK b (a::r) s');unfold Blk.flat;simp [nsV,plainL,V.plain]),trivial⟩) ?_
    rintro k hk1 K hK
    simp only [zipT]
    clear FX hga hgb hgc hnr hcl
    have hsk:=swK_ok hst k hk1
    have hskl:=hsk.1
    have hcl:=hlk
    rcases Nat.lt_or_ge k (ordB b.ads).length with hk|hk
    · have hga:=nuV_get hk
      have hil:=ordB_lt hk
      have hsu:swK b (a::r) (k+1)=stepS b ((ordB b.ads).getD k 0) (swK b (a::r) k):=rfl
      generalize (ordB b.ads).getD k 0=i at *
      generalize swK b (a::r) k=l at *
      have hgb:=nsV_get (l:=mnsB b.ms b.ads) (i:=i) (by rw [mnsB_length];exact hil)
      rw [mnsB_get hil] at hgb
      have hgc:=nsV_get (l:=l) (i:=i) (by omega)
      have hll:=nsV_length (l:=l)
      have hgc:(nsV l)[i]?=some [V.int .i64 (l.getD i 0)]∧(nsV l).length=b.ads.length:=⟨hgc,by rw [hll];exact hskl⟩
      have hmb:=mainL_bd b.ms (b.ads.getD i adz).effs
      have hrw:r.length+1=l.length:=by omega
      have hss:stepS b i l=if 0≤mainL b.ms (b.ads.getD i adz).effs then l.set i (l.getD i 0+nearP b l i (mainL b.ms (b.ads.getD i adz).effs).toNat) else l:=rfl
      have hbl: -1000≤l.getD i 0∧l.getD i 0≤1000:=steps_bd hb hsk.2 i hil
      rw [hrw]
      by_cases h0:0≤mainL b.ms (b.ads.getD i adz).effs
      · rw [if_pos h0] at hss
        obtain⟨j,hj⟩:∃ j:Nat,mainL b.ms (b.ads.getD i adz).effs=(j:Int):=⟨(mainL b.ms (b.ads.getD i adz).effs).toNat,by omega⟩
        have hnb:=nearP_ok (j:=j) (hsk.2 i hil)
        have hnb2:=hb.le i hil
        have hnb3:=hb.mo i hil
        have hnr:=fun(m:Mem) (k:Nat) (st:Sta) (h:m[k]?=some (.cells st 3 1 (nsV l)))=>gnear_s b hb l hsk i j hil (by omega) hj m k h
        rw [hbx] at hnr
        rw [hj] at hgb hss
        rw [Int.toNat_natCast] at hss
        generalize nearP b l i j=nr at *
        (have FX:=And.intro hlk (And.intro hlo (And.intro hga (And.intro hgb hgc)));repeat'(first|(refine sx ?_ ?_<;>intro h<;>first|(exfalso;omega)|skip)|(refine g_op ?_;refine g_call ?_;refine g_args ?_;(first|refine s_fn (hnr _ ((lend m).length+1) _ ev_) ?_|refine s_fnO (hcl _) ?_)<;>try first|omega|assumption)|refine ny ?_|refine WA_block ?_|(refine uB19_63_6 ?_;refine⟨by kernel_rfl,?_⟩)|((first|refine grp_cons (fun _=>hnr _ ((lend m).length+1) _ ev_) ?_)<;>try first|omega|assumption)|(refine g_d ?_;refine d_args ?_;(first|refine d_fn (hnr _ ((lend m).length+1) _ ev_) ?_|refine d_fnQ (fun _=>hnr _ ((lend m).length+1) _ ev_) ?_)<;>try first|omega|assumption)|(refine g_d ?_;(first|refine d_fnY (hnr _ ((lend m).length+1) _ ev_) ?_)<;>try first|omega|assumption)))
        all_goals(try(exfalso;omega))
        all_goals(refine nextL_ hK (k+1) hk (by omega) (ht:=by simp only [←hrw];exact tv_) (hm:=by rw [hsu,hss,nsV_set];rfl))
      · rw [if_neg h0] at hss
        have hnr:=hlk
        generalize mainL b.ms (b.ads.getD i adz).effs=mj at *
        (have FX:=And.intro hlk (And.intro hlo (And.intro hga (And.intro hgb hgc)));repeat'(first|(refine sx ?_ ?_<;>intro h<;>first|(exfalso;omega)|skip)|(refine g_op ?_;refine g_call ?_;refine g_args ?_;(first|refine s_fn (hnr _ ((lend m).length+1) _ ev_) ?_|refine s_fnO (hcl _) ?_)<;>try first|omega|assumption)|refine ny ?_|refine WA_block ?_|(refine uB19_63_6 ?_;refine⟨by kernel_rfl,?_⟩)|((first|refine grp_cons (fun _=>hnr _ ((lend m).length+1) _ ev_) ?_)<;>try first|omega|assumption)|(refine g_d ?_;refine d_args ?_;(first|refine d_fn (hnr _ ((lend m).length+1) _ ev_) ?_|refine d_fnQ (fun _=>hnr _ ((lend m).length+1) _ ev_) ?_)<;>try first|omega|assumption)|(refine g_d ?_;(first|refine d_fnY (hnr _ ((lend m).length+1) _ ev_) ?_)<;>try first|omega|assumption)))
        all_goals(try(exfalso;omega))
        all_goals(refine nextL_ hK (k+1) hk (by omega) (ht:=by simp only [←hrw];exact tv_) (hm:=by rw [hsu,hss];rfl))
    · obtain rfl:k=(ordB b.ads).length:=by omega
      have hga:=hlk
      have hgb:=hlk
      have hgc:=hlk
      have hnr:=hlk
      have hsl:(nsV (swK b (a::r) (ordB b.ads).length)).length=r.length+1:=by rw [nsV_length];omega
      have hsp:sweepP b (a::r)=swK b (a::r) (ordB b.ads).length:=rfl
      rw [hsp] at hQ
      have hpl:=nsV_plain (swK b (a::r) (ordB b.ads).length)
      (have FX:=And.intro hlk (And.intro hlo (And.intro hga (And.intro hgb hgc)));repeat'(first|(refine sx ?_ ?_<;>intro h<;>first|(exfalso;omega)|skip)|(refine g_op ?_;refine g_call ?_;refine g_args ?_;(first|refine s_fn (hnr _ ((lend m).length+1) _ ev_) ?_|refine s_fnO (hcl _) ?_)<;>try first|omega|assumption)|refine ny ?_|refine WA_block ?_|(refine uB19_63_6 ?_;refine⟨by kernel_rfl,?_⟩)|((first|refine grp_cons (fun _=>hnr _ ((lend m).length+1) _ ev_) ?_)<;>try first|omega|assumption)|(refine g_d ?_;refine d_args ?_;(first|refine d_fn (hnr _ ((lend m).length+1) _ ev_) ?_|refine d_fnQ (fun _=>hnr _ ((lend m).length+1) _ ev_) ?_)<;>try first|omega|assumption)|(refine g_d ?_;(first|refine d_fnY (hnr _ ((lend m).length+1) _ ev_) ?_)<;>try first|omega|assumption)))
      all_goals(try(exfalso;omega))
      all_goals(refine r_esA hQ (fin_sl (D:=[]) (B:=lend m) (j:=1) (by simp) rfl (by rw [hsl];exact Nat.le_refl _) (by rw [List.take_of_length_le (by rw [hsl];exact Nat.le_refl _)];exact hpl) ⟨by rw [List.take_of_length_le (by rw [hsl];exact Nat.le_refl _)],rfl⟩))
end Go.Proofs.YtookikhphobnlaaGreatDoor
namespace Go.Proofs.YtookikhphobnlaaGreatDoor
open Go.RowKit
attribute [local irreducible] WA WOs WDs WAn qThen qBlock tput
set_option maxHeartbeats 1000000
set_option maxRecDepth 20000
set_option linter.unusedSimpArgs false
set_option linter.unusedVariables false
set_option maxHeartbeats 4000000
/-- what is known of adjustments that are right -/
structure Aln(ads:List AdR):Prop where
  fa:ads.length≤12
  nw:∀ i,i<ads.length→¬ 0≤fdx (isA (ads.getD i adz).name) (ads.take i)
  af:∀ i,i<ads.length→(ads.getD i adz).after.length≤12∧∀ k,k<(ads.getD i adz).after.length→0≤fdx (isA ((ads.getD i adz).after.getD k [])) ads
theorem aln_of{mm:List MsR}{ads:List AdR}(h0:ads.length≤12)(h:∀ i,i<ads.length→adErr mm ads i=0):Aln ads where
  fa:=h0
  nw:=fun i hi=>(ad_ok (h i hi)).nw
  af:=fun i hi=>by
    have h1:=(ad_ok (h i hi)).af
    unfold afErr at h1
    split at h1
    · simp at h1
    · refine⟨by omega,fun k hk=>?_⟩
      have h2:=fE_zero.1 h1 k hk
      unfold afErrAt at h2
      split at h2
      · simp at h2
      · omega
theorem fdx_name{ads:List AdR}(h:Aln ads){i:Nat}(hi:i<ads.length):fdx (isA (ads.getD i adz).name) ads=i:=by
  refine fdx_at hi (fun j hj=>?_) (decide_eq_true rfl)
  cases hc:isA (ads.getD i adz).name (ads.getD j adz) with
  |false=>rfl
  | true=>
    have h1:=(fdx_in (f:=isA (ads.getD i adz).name) (l:=ads.take i) (d:=adz) (i:=j) (by rw [List.length_take];omega) (by rw [getD_take hj];exact hc)).1
    exact absurd h1 (h.nw i hi)
/-- a name is among those of some just if its adjustment is among them -/
theorem hasT_iff{ads:List AdR}(h:Aln ads){out:List Nat}(ho:∀ x∈out,x<ads.length){s:Txt}{i:Nat}(hs:fdx (isA s) ads=(i:Int)):hasT (outN ads out) s=decide (i∈out):=by
  rcases fdx_cases (isA s) ads adz with ⟨h1,_⟩|⟨k,hk,h1,h2,_⟩
  · omega
  · obtain rfl:k=i:=by omega
    have hn:(ads.getD k adz).name=s:=of_decide_eq_true h2
    by_cases hm:k∈out
    · rw [decide_eq_true hm]
      unfold hasT outN
      rw [List.any_eq_true]
      exact⟨_,List.mem_map.2 ⟨k,hm,rfl⟩,decide_eq_true hn⟩
    · rw [decide_eq_false hm]
      unfold hasT outN
      rw [List.any_eq_false]
      intro t ht
      obtain⟨x,hx,rfl⟩:=List.mem_map.1 ht
      intro hc
      have hc:(ads.getD x adz).name=s:=of_decide_eq_true hc
      have h3:=fdx_name h (ho x hx)
      rw [hc] at h3
      have:x=k:=by omega
      exact hm (this ▸ hx)
/-- .. as the reference asks it -/
def rdyI(ads:List AdR)(out:List Nat)(i:Nat):Bool:=!decide (i∈out) && (List.range (ads.getD i adz).after.length).all fun k=>decide ((fdx (isA ((ads.getD i adz).after.getD k [])) ads).toNat∈out)
theorem rdyI_eq{ads:List AdR}(h:Aln ads){out:List Nat}(ho:∀ x∈out,x<ads.length){i:Nat}(hi:i<ads.length):rdyA (outN ads out) (ads.getD i adz)=rdyI ads out i:=by
  unfold rdyA rdyI
  rw [hasT_iff h ho (fdx_name h hi)]
  congr 1
  have key:∀ k,k<(ads.getD i adz).after.length→hasT (outN ads out) ((ads.getD i adz).after.getD k [])=decide ((fdx (isA ((ads.getD i adz).after.getD k [])) ads).toNat∈out):=fun k hk=>by
    have:=(h.af i hi).2 k hk
    exact hasT_iff h ho (by omega)
  generalize (ads.getD i adz).after=L at *
  rw [Bool.eq_iff_iff,List.all_eq_true,List.all_eq_true]
  constructor
  · intro h1 k hk
    rw [←key k (List.mem_range.1 hk)]
    exact h1 _ (by rw [List.getD_eq_getElem?_getD,List.getElem?_eq_getElem (List.mem_range.1 hk)];exact List.getElem_mem _)
  · intro h1 s hs
    obtain⟨k,hk,rfl⟩:=List.getElem_of_mem hs
    have h2:=key k hk
    rw [List.getD_eq_getElem?_getD,List.getElem?_eq_getElem hk] at h2
    have h3:=h1 k (List.mem_range.2 hk)
    rw [List.getD_eq_getElem?_getD,List.getElem?_eq_getElem hk] at h3
    exact h2.trans h3

theorem bhas_nil(n:Int)(m:Mem):Gives Tryz.prog 52 [.nilsl,.int .i64 n] m (.bool false):=by
  have FX:=n
  refine Gives_in Tryz.func52 rfl Tryz.ntmps52 Tryz.results52 (by kernel_rfl) (by simp) rfl fun Q hQ=>?_
  (repeat'(first|(refine sx ?_ ?_<;>intro h<;>first|(exfalso;omega)|skip)|refine ny ?_|refine WA_block ?_))
  refine WA_rounds 1 ?_
  (repeat'(first|(refine sx ?_ ?_<;>intro h<;>first|(exfalso;omega)|skip)|refine ny ?_|refine WA_block ?_))
  all_goals(try(exfalso;omega))
  all_goals((refine r_es hQ ?_;try with_reducible rfl))
theorem fz_nuV{k:Nat}{l:List Nat}:frzV k (nuV l) (.sl k l.length)= .lst (nuV l):=by
  unfold frzV
  simp only []
  rw [if_pos ⟨trivial,by rw [nuV_length];exact Nat.le_refl _⟩,List.take_of_length_le (by rw [nuV_length];exact Nat.le_refl _)]
theorem bhas_s(l:List Nat)(n:Nat)(hl:l.length≤1000)(q:Nat)(hq:q=l.length)(m:Mem)(k:Nat){st:Sta}(hk:m[k]?=some (.cells st 3 1 (nuV l)):=by first|exact ev_|fail):Gives Tryz.prog 52 [.sl k q,.int .i64 n] m (.bool (decide (n∈l))):=by
  subst hq
  refine Gives_fz hk (by simp [V.flat]) ?_
  show Gives _ _ [frzV k (nuV l) (.sl k l.length),.int .i64 n] _ _
  rw [fz_nuV]
  exact bhas_c l n hl _
end Go.Proofs.YtookikhphobnlaaGreatDoor
