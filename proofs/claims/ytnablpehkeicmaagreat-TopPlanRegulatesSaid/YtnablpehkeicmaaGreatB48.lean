/- contract: the plan of steps -/
import Derived.Test.YtnablpehkeicmaaGreatB46
set_option linter.unusedSimpArgs false
set_option linter.unusedVariables false
namespace Go.Proofs.YtnablpehkeicmaaGreat
open Go.RowKit
attribute [local irreducible] WA WOs WDs WAn qThen qBlock tput
set_option maxHeartbeats 1000000
set_option maxRecDepth 20000
set_option linter.unusedSimpArgs false
set_option linter.unusedVariables false
set_option maxHeartbeats 8000000

theorem gPlanOf_cons (b:BnR) (hb:Bl b) (a:Int) (r0:List Int) (hm:mkE b (a::r0)=0) (m:Mem):Gives Tryz.prog 10 [.agg (bnV b),.lst (nsV (a::r0))] m (.tup [.lst (plV (plO b (a::r0) (pasK b.ads (a::r0) b.ads.length).toNat)),.int .i64 0]):=by
  obtain⟨h0,h2,hst,hp1,hp2⟩:=mk_ok hm
  have hk:=bn_ok h0
  have hbd:=bnd_ok hk
  have hfa:=hbd.fa
  have hlq:=hst.1
  have hsb:=steps_bd hbd hst.2
  have hlm:=mssV_length (l:=b.ms)
  have hla:=adsV_length (l:=b.ads)
  have hlo:=nuV_length (l:=ordB b.ads)
  have hol:=ordB_len b.ads
  have him:=imn
  have hix:=imx
  have hmf:=fun k es=>mssV_frz k es b.ms
  have haf:=fun k es=>adsV_frz k es b.ads
  have hpn:=fun m=>gplanned_ok b hb (a::r0) hm m
  have hrl:r0.length+1=b.ads.length:=hst.1
  have hcl:=fun m=>gclone_o a r0 (by omega) m
  rw [hrl] at hcl
  generalize hl:a::r0=l at*
  obtain⟨N,hN⟩:∃ N:Nat,pasK b.ads l b.ads.length=(N:Int):=⟨(pasK b.ads l b.ads.length).toNat,by omega⟩
  rw [hN] at hpn hp1 hp2 ⊢
  rw [Int.toNat_natCast]
  have hl0:nsV l=nsV (lftN b l 0):=by rw [lftN_zero]
  have hga:=hla
  have hgb:=hla
  have hgc:=hla
  have hcq:=hla
  have hll:=hla
  have hlt:=hla
  have hpl:=hla
  have hpt:=hla
  have hlz:=hla
  suffices key:CallA Tryz.prog 10 [.agg (bnV b),.lst (nsV l)] m (fun v mo=>mo=none∧WkV v (.tup [.lst (plV (plO b l N)),.int .i64 0])) from Gives_of key fun v mo h=>h
  unfold bnV at hpn ⊢
  refine CallA_in Tryz.func10 rfl Tryz.ntmps10 Tryz.results10 (by kernel_rfl) (by simp) fun Q hQ=>?_
  (have FX:=fx14 hlm hla hlo him hix hga hgb hgc hcq hll hlt hpl hpt hlz;repeat'(first|(refine sx ?_ ?_<;>intro h<;>first|(exfalso;omega)|skip)|(refine na ?_;(first|refine nb hpn ?_|refine s_fnO (hcl _) ?_)<;>try first|omega|assumption)|refine ny ?_|refine WA_block ?_))
  all_goals(try(exfalso;omega))
  rw [hl0]
  refine WA_whileJ (σ:=Nat) (L:=lend m) (X:=[.cells .own 25 2 [[.lst (mssV b.ms),.lst (adsV b.ads)]],.dead,.cells .own 3 1 (nsV (lftN b l 0))]) [2,9,10,6,28,29] (fun i=>[.ptr 0 0 0,.sl 1 b.ads.length,outSt i,.v (.bp (bxC b) 0),.v (.int .i64 N),.v (.int .i64 ((i:Nat):Int))]) (fun i=>gpE b l i (lftN b l i)) (fun i=>i≤N) (fun i=>N - i) 0 [0,2] (Nat.zero_le _) ?_ (by simp only [gpE,outE,benT,lefT,List.map_cons,List.map_nil,TB.inst,TV.inst,tv_map];rfl) rfl (by decide) (by decide) (fun i _=>gpS_ok (l1:=[.bp (bxC b) 0,.int .i64 N,.int .i64 ((i:Nat):Int)])) (fun _ _=>gpE_ok) ?_
  · first|exact tv_|(simp only [Int.natCast_zero,Int.sub_zero];exact tv_)
  rintro i hi1 B ⟨D,hB⟩ K hK
  clear FX hga hgb hgc hcq hll hlt hpl hpt hlz
  have hlf:=lftN_length b l i
  rcases Nat.lt_or_ge i N with hi|hi
  · obtain ⟨pq,pr,hpp⟩:=pas_ne hk hst.1 (i:=i) (by omega)
    have hnx:=hK (i+1)
    have hnxt:=lftN_next hk hst.1 i
    have hsn:=plO_succ b l i
    rw [hpp] at hsn
    have hab:∀ j,j<b.ads.length→ -1000≤(lftN b l i).getD j 0∧(lftN b l i).getD j 0≤1000:=fun j hj=>by
      rw [lftN_get (by omega)]
      have h1:=hsb j hj
      have h2:0≤(i:Int)*passI b j:=Int.mul_nonneg (by omega) (by have:=hbd.pa j hj;unfold passI;omega)
      unfold clp
      omega
    generalize hlft:lftN b l i=lf at*
    cases i with
    | zero=>
      have hll:=hla
      have hlt:=hla
      have hga:=hla
      have hgb:=hla
      have hgc:=hla
      have hcq:=hla
      have hpl:=hla
      have hpt:=hla
      have hlz:=hla
      simp only [gpE,outE,benT,lefT,outSt]
      simp only [List.map_cons,List.map_nil,TB.inst,TV.inst,tv_map,zipT,List.cons_append,List.nil_append,Nat.add_zero]
      simp only [bxC]
      (have FX:=fx14 hlm hla hlo him hix hga hgb hgc hcq hll hlt hpl hpt hlz;repeat'(first|(refine sx ?_ ?_<;>intro h<;>first|(exfalso;omega)|skip)|(refine na ?_;(first|refine nb hpn ?_|refine s_fnO (hcl _) ?_)<;>try first|omega|assumption)|refine ny ?_|refine WA_block ?_))
      all_goals(try(exfalso;omega))
      refine WA_whileJ (σ:=Nat) (L:=B) (X:=[.cells .own 25 2 [[.lst (mssV b.ms),.lst (adsV b.ads)]],.cells .own 3 1 (nsV lf)]) [2,9,10,11,6,28,29,34,35,36] (fun k=>[.ptr 0 0 0,.sl 1 b.ads.length,outSt 0,pasSt (pasJ 0) (pasP b lf k),.v (.bp (bxC b) 0),.v (.int .i64 N),.v (.int .i64 ((0:Nat):Int)),.v (.lst (nuV (ordB b.ads))),.v (.int .i64 (ordB b.ads).length),.v (.int .i64 k)]) (fun k=>gqE b l 0 (lefP b lf k) (pasP b lf k)) (fun k=>k≤(ordB b.ads).length) (fun k=>(ordB b.ads).length - k) 0 [0,1] (Nat.zero_le _) ?_ (by rw [lefP_zero,pasP_zero];simp only [gqE,outE,pasE,benT,lefT,List.nil_append,List.append_nil,List.cons_append,List.map_cons,List.map_nil,TB.inst,TV.inst,tv_map];rfl) rfl (by decide) (by decide) (fun k _=>gqS_ok (l1:=[.bp (bxC b) 0,.int .i64 N,.int .i64 ((0:Nat):Int),.lst (nuV (ordB b.ads)),.int .i64 (ordB b.ads).length,.int .i64 k])) (fun _ _=>gqE_ok) ?_
      · exact tv_
      rintro k hk1 B2 ⟨D2,hB2⟩ K2 hK2
      clear FX hga hgb hgc hcq hpl hpt hlz
      have hlz:(nsV (lefP b lf k)).length=b.ads.length:=by rw [nsV_length,lefP_length,hlf];exact hst.1
      rcases Nat.lt_or_ge k (ordB b.ads).length with hk2|hk2
      · have hga:=nuV_get hk2
        have hog:=ordB_lt hk2
        have hla1:=lefP_at (left:=lf) hk2 (by rw [hlf,hst.1];exact hog)
        have hls:=lefP_succ (left:=lf) hk2 (by rw [hlf,hst.1];exact hog)
        have hlz2:=fun h=>lefP_same (left:=lf) hk2 (by rw [hlf,hst.1];exact hog) h
        have hps:=pasP_succ (left:=lf) hk2
        have hny:=fun(_:Unit)=>hK2 (k+1)
        clear hK2
        generalize (ordB b.ads).getD k 0=o at*
        have hgb:=adsV_get hog
        have hpa:=hbd.pa o hog
        have hpi:passI b o=(b.ads.getD o adz).pass:=rfl
        have hgc:=nsV_get (l:=lefP b lf k) (i:=o) (by rw [lefP_length,hlf,hst.1];exact hog)
        rw [hla1] at hgc
        have habo:=hab o hog
        unfold stpF at hps
        generalize passI b o=pz at*
        generalize b.ads.getD o adz=y at*
        obtain⟨yn,ye,yl,ym,yp,ya⟩:=y
        unfold adV at hgb
        dsimp only at hgb hpa hpi
        subst hpi
        have hcq:clp pz (lf.getD o 0)=min (max (lf.getD o 0) (-pz)) pz:=rfl
        have hcr:clp pz (lf.getD o 0)=max (-pz) (min pz (lf.getD o 0)):=by unfold clp;omega
        have hcb: -1000≤clp pz (lf.getD o 0)∧clp pz (lf.getD o 0)≤1000:=by unfold clp;omega
        generalize clp pz (lf.getD o 0)=c at*
        generalize lf.getD o 0=x at*
        have hcq:=hcq.symm
        have hp0:c=0→pasP b lf (k+1)=pasP b lf k:=fun h=>by rw [hps,if_neg (by omega)];simp
        have hp1:c≠0→pasP b lf (k+1)=pasP b lf k++[⟨o,c⟩]:=fun h=>by rw [hps,if_pos h];rfl
        clear hps
        have hpb:(pasP b lf k).length≤12:=by
          have h1:(pasP b lf k).length≤((ordB b.ads).take k).length:=List.length_filterMap_le _ _
          rw [List.length_take] at h1
          omega
        generalize hPP:pasP b lf k=PP at*
        generalize hLP:lefP b lf k=LP at*
        cases PP with
        | nil=>
          have hpl:=hla
          have hpt:=hla
          have hpc:stsV [⟨(o:Int),c⟩]=[[V.int .i64 o,V.int .i64 c]]:=rfl
          simp only [gqE,outE,pasE,benT,lefT,outSt,pasSt,pasJ,List.nil_append,List.cons_append]
          simp only [List.map_cons,List.map_nil,TB.inst,TV.inst,tv_map,zipT,List.cons_append,List.nil_append,Nat.add_zero]
          (have FX:=fx14 hlm hla hlo him hix hga hgb hgc hcq hll hlt hpl hpt hlz;repeat'(first|(refine sx ?_ ?_<;>intro h<;>first|(exfalso;omega)|skip)|(refine na ?_;(first|refine nb hpn ?_|refine s_fnO (hcl _) ?_)<;>try first|omega|assumption)|refine ny ?_|refine WA_block ?_))
          all_goals(try(exfalso;omega))
          all_goals first
            | (have h2:=hp1 (by assumption)
               rw [h2,hls] at hny
               (refine nextU_ hny (()) [0,1,3] (by omega) (by omega) ?_ (ht:=?_);(focus (simp only [gqE,outE,pasE,benT,lefT,nsV_set,hpc,List.nil_append,List.cons_append,List.map_cons,List.map_nil,TB.inst,TV.inst,tv_map,List.cons_append,List.nil_append];first|rfl|(simp [ptsV,ptV];done)|(simp [hpsV,hpV];done)|(simp [frsV,frV];done)|(simp [txV];done)|(simp [prtsV,prtV];done)));(simp only [outSt,pasSt,pasJ,List.cons_append,List.nil_append,List.length_append,List.length_cons,List.length_nil,Nat.zero_add,List.map_cons,List.map_nil,TV.inst,List.getD_cons_zero,List.getD_cons_succ];exact tv_))
               done)
            | (have h2:=hp0 (by omega)
               rw [h2,hlz2 (by omega)] at hny
               (refine nextU_ hny (()) [0,1] (by omega) (by omega) ?_ (ht:=?_);(focus (simp only [gqE,outE,pasE,benT,lefT,List.nil_append,List.cons_append,List.map_cons,List.map_nil,TB.inst,TV.inst,tv_map,List.cons_append,List.nil_append];first|rfl|(simp [ptsV,ptV];done)|(simp [hpsV,hpV];done)|(simp [frsV,frV];done)|(simp [txV];done)|(simp [prtsV,prtV];done)));(simp only [outSt,pasSt,pasJ,List.map_cons,List.map_nil,TV.inst,List.getD_cons_zero,List.getD_cons_succ];exact tv_))
               done)
            |trace_state
        | cons q r=>
          have hrl:r.length+1≤12:=by simpa using hpb
          have hpl:(stsV (q::r)).length=r.length+1:=stsV_length
          have hpt:(stsV (q::r)).take (r.length+1)=stsV (q::r):=List.take_of_length_le (by rw [hpl];exact Nat.le_refl _)
          have hpc:stsV (q::(r++[⟨o,c⟩]))=stsV (q::r)++[[V.int .i64 o,V.int .i64 c]]:=by simp [stsV,stV]
          simp only [gqE,outE,pasE,benT,lefT,outSt,pasSt,pasJ,List.nil_append,List.cons_append]
          simp only [List.map_cons,List.map_nil,TB.inst,TV.inst,tv_map,zipT,List.cons_append,List.nil_append,Nat.add_zero]
          (have FX:=fx14 hlm hla hlo him hix hga hgb hgc hcq hll hlt hpl hpt hlz;repeat'(first|(refine sx ?_ ?_<;>intro h<;>first|(exfalso;omega)|skip)|(refine na ?_;(first|refine nb hpn ?_|refine s_fnO (hcl _) ?_)<;>try first|omega|assumption)|refine ny ?_|refine WA_block ?_))
          all_goals(try(exfalso;omega))
          all_goals first
            | (have h2:=hp1 (by assumption)
               rw [h2,hls] at hny
               (refine nextU_ hny (()) [0,1,4] (by omega) (by omega) ?_ (ht:=?_);(focus (simp only [gqE,outE,pasE,benT,lefT,nsV_set,hpc,List.nil_append,List.cons_append,List.map_cons,List.map_nil,TB.inst,TV.inst,tv_map,List.cons_append,List.nil_append];first|rfl|(simp [ptsV,ptV];done)|(simp [hpsV,hpV];done)|(simp [frsV,frV];done)|(simp [txV];done)|(simp [prtsV,prtV];done)));(simp only [outSt,pasSt,pasJ,List.cons_append,List.nil_append,List.length_append,List.length_cons,List.length_nil,Nat.zero_add,List.map_cons,List.map_nil,TV.inst,List.getD_cons_zero,List.getD_cons_succ];exact tv_))
               done)
            | (have h2:=hp0 (by omega)
               rw [h2,hlz2 (by omega)] at hny
               (refine nextU_ hny (()) [0,1,2] (by omega) (by omega) ?_ (ht:=?_);(focus (simp only [gqE,outE,pasE,benT,lefT,List.nil_append,List.cons_append,List.map_cons,List.map_nil,TB.inst,TV.inst,tv_map,List.cons_append,List.nil_append];first|rfl|(simp [ptsV,ptV];done)|(simp [hpsV,hpV];done)|(simp [frsV,frV];done)|(simp [txV];done)|(simp [prtsV,prtV];done)));(simp only [outSt,pasSt,pasJ,List.map_cons,List.map_nil,TV.inst,List.getD_cons_zero,List.getD_cons_succ];exact tv_))
               done)
            |trace_state
      · obtain rfl:k=(ordB b.ads).length:=by omega
        subst hB2
        have hnz:=fun js t m h=>hnx _ t m (RoundEndT_up (D:=D2) (js:=js) h (gpS_ok (l1:=[.bp (bxC b) 0,.int .i64 N,.int .i64 ((0+1:Nat):Int)])) gpE_ok)
        have hny:=fun(_:Unit)=>hnz
        clear hnz hnx hK2 hK
        rw [hpp] at*
        rw [hnxt] at*
        have hpl:(stsV (pq::pr)).length=pr.length+1:=stsV_length
        have hpt:(stsV (pq::pr)).take (pr.length+1)=stsV (pq::pr):=List.take_of_length_le (by rw [hpl];exact Nat.le_refl _)
        have hpv:plV (plO b l (0+1))=[[V.lst (stsV (pq::pr))]]:=by rw [hsn,plV_snoc];rfl
        have hne:∀ (a c d:Nat),(a+c=a+d)=(c=d):=fun a c d=>by simp
        have hga:=hla
        have hgb:=hla
        have hgc:=hla
        have hcq:=hla
        generalize B++D2=B3 at*
        simp only [gqE,outE,pasE,benT,lefT,outSt,pasSt,pasJ,List.nil_append,List.cons_append]
        simp only [List.map_cons,List.map_nil,TB.inst,TV.inst,tv_map,zipT,List.cons_append,List.nil_append,Nat.add_zero]
        refine WA_fzM (j:=2) rfl ?_
        simp (decide:=true) only [List.map_cons,List.map_nil,List.map_append,frzV,frzC,List.set_cons_succ,List.set_cons_zero,hne,Nat.reduceEqDiff,false_and,true_and,if_false,if_true,hpl,Nat.le_refl,hpt,stsV_frz,plV_frz,nsV_frz,hmf,haf]
        (have FX:=fx14 hlm hla hlo him hix hga hgb hgc hcq hll hlt hpl hpt hlz;repeat'(first|(refine sx ?_ ?_<;>intro h<;>first|(exfalso;omega)|skip)|(refine na ?_;(first|refine nb hpn ?_|refine s_fnO (hcl _) ?_)<;>try first|omega|assumption)|refine ny ?_|refine WA_block ?_))
        all_goals(try(exfalso;omega))
        all_goals((refine nextU_ hny (()) [0,1,4] (hi) (by omega) ?_ (ht:=?_);(focus (simp only [gpE,outE,benT,lefT,hpv,List.nil_append,List.cons_append,List.map_cons,List.map_nil,TB.inst,TV.inst,tv_map,List.cons_append,List.nil_append];first|rfl|(simp [ptsV,ptV];done)|(simp [hpsV,hpV];done)|(simp [frsV,frV];done)|(simp [txV];done)|(simp [prtsV,prtV];done)));(simp only [outSt,List.map_cons,List.map_nil,TV.inst,List.getD_cons_zero,List.getD_cons_succ];exact tv_)))
    | succ i=>
      have hll:(plV (plO b l (i+1))).length=i+1:=by rw [plV_length,plO_length]
      have hlt:(plV (plO b l (i+1))).take (i+1)=plV (plO b l (i+1)):=List.take_of_length_le (by rw [hll];exact Nat.le_refl _)
      have hga:=hla
      have hgb:=hla
      have hgc:=hla
      have hcq:=hla
      have hpl:=hla
      have hpt:=hla
      have hlz:=hla
      simp only [gpE,outE,benT,lefT,outSt]
      simp only [List.map_cons,List.map_nil,TB.inst,TV.inst,tv_map,zipT,List.cons_append,List.nil_append,Nat.add_zero]
      simp only [bxC]
      (have FX:=fx14 hlm hla hlo him hix hga hgb hgc hcq hll hlt hpl hpt hlz;repeat'(first|(refine sx ?_ ?_<;>intro h<;>first|(exfalso;omega)|skip)|(refine na ?_;(first|refine nb hpn ?_|refine s_fnO (hcl _) ?_)<;>try first|omega|assumption)|refine ny ?_|refine WA_block ?_))
      all_goals(try(exfalso;omega))
      refine WA_whileJ (σ:=Nat) (L:=B) (X:=[.cells .own 25 2 [[.lst (mssV b.ms),.lst (adsV b.ads)]],.cells .own 3 1 (nsV lf),.cells .own 66 1 (plV (plO b l (i+1)))]) [2,9,10,11,6,28,29,34,35,36] (fun k=>[.ptr 0 0 0,.sl 1 b.ads.length,outSt (i+1),pasSt (pasJ (i+1)) (pasP b lf k),.v (.bp (bxC b) 0),.v (.int .i64 N),.v (.int .i64 ((i+1:Nat):Int)),.v (.lst (nuV (ordB b.ads))),.v (.int .i64 (ordB b.ads).length),.v (.int .i64 k)]) (fun k=>gqE b l (i+1) (lefP b lf k) (pasP b lf k)) (fun k=>k≤(ordB b.ads).length) (fun k=>(ordB b.ads).length - k) 0 [0,1,2] (Nat.zero_le _) ?_ (by rw [lefP_zero,pasP_zero];simp only [gqE,outE,pasE,benT,lefT,List.nil_append,List.append_nil,List.cons_append,List.map_cons,List.map_nil,TB.inst,TV.inst,tv_map];rfl) rfl (by decide) (by decide) (fun k _=>gqS_ok (l1:=[.bp (bxC b) 0,.int .i64 N,.int .i64 ((i+1:Nat):Int),.lst (nuV (ordB b.ads)),.int .i64 (ordB b.ads).length,.int .i64 k])) (fun _ _=>gqE_ok) ?_
      · exact tv_
      rintro k hk1 B2 ⟨D2,hB2⟩ K2 hK2
      clear FX hga hgb hgc hcq hpl hpt hlz
      have hlz:(nsV (lefP b lf k)).length=b.ads.length:=by rw [nsV_length,lefP_length,hlf];exact hst.1
      rcases Nat.lt_or_ge k (ordB b.ads).length with hk2|hk2
      · have hga:=nuV_get hk2
        have hog:=ordB_lt hk2
        have hla1:=lefP_at (left:=lf) hk2 (by rw [hlf,hst.1];exact hog)
        have hls:=lefP_succ (left:=lf) hk2 (by rw [hlf,hst.1];exact hog)
        have hlz2:=fun h=>lefP_same (left:=lf) hk2 (by rw [hlf,hst.1];exact hog) h
        have hps:=pasP_succ (left:=lf) hk2
        have hny:=fun(_:Unit)=>hK2 (k+1)
        clear hK2
        generalize (ordB b.ads).getD k 0=o at*
        have hgb:=adsV_get hog
        have hpa:=hbd.pa o hog
        have hpi:passI b o=(b.ads.getD o adz).pass:=rfl
        have hgc:=nsV_get (l:=lefP b lf k) (i:=o) (by rw [lefP_length,hlf,hst.1];exact hog)
        rw [hla1] at hgc
        have habo:=hab o hog
        unfold stpF at hps
        generalize passI b o=pz at*
        generalize b.ads.getD o adz=y at*
        obtain⟨yn,ye,yl,ym,yp,ya⟩:=y
        unfold adV at hgb
        dsimp only at hgb hpa hpi
        subst hpi
        have hcq:clp pz (lf.getD o 0)=min (max (lf.getD o 0) (-pz)) pz:=rfl
        have hcr:clp pz (lf.getD o 0)=max (-pz) (min pz (lf.getD o 0)):=by unfold clp;omega
        have hcb: -1000≤clp pz (lf.getD o 0)∧clp pz (lf.getD o 0)≤1000:=by unfold clp;omega
        generalize clp pz (lf.getD o 0)=c at*
        generalize lf.getD o 0=x at*
        have hcq:=hcq.symm
        have hp0:c=0→pasP b lf (k+1)=pasP b lf k:=fun h=>by rw [hps,if_neg (by omega)];simp
        have hp1:c≠0→pasP b lf (k+1)=pasP b lf k++[⟨o,c⟩]:=fun h=>by rw [hps,if_pos h];rfl
        clear hps
        have hpb:(pasP b lf k).length≤12:=by
          have h1:(pasP b lf k).length≤((ordB b.ads).take k).length:=List.length_filterMap_le _ _
          rw [List.length_take] at h1
          omega
        generalize hPP:pasP b lf k=PP at*
        generalize hLP:lefP b lf k=LP at*
        cases PP with
        | nil=>
          have hpl:=hla
          have hpt:=hla
          have hpc:stsV [⟨(o:Int),c⟩]=[[V.int .i64 o,V.int .i64 c]]:=rfl
          simp only [gqE,outE,pasE,benT,lefT,outSt,pasSt,pasJ,List.nil_append,List.cons_append]
          simp only [List.map_cons,List.map_nil,TB.inst,TV.inst,tv_map,zipT,List.cons_append,List.nil_append,Nat.add_zero]
          (have FX:=fx14 hlm hla hlo him hix hga hgb hgc hcq hll hlt hpl hpt hlz;repeat'(first|(refine sx ?_ ?_<;>intro h<;>first|(exfalso;omega)|skip)|(refine na ?_;(first|refine nb hpn ?_|refine s_fnO (hcl _) ?_)<;>try first|omega|assumption)|refine ny ?_|refine WA_block ?_))
          all_goals(try(exfalso;omega))
          all_goals first
            | (have h2:=hp1 (by assumption)
               rw [h2,hls] at hny
               (refine nextU_ hny (()) [0,1,2,4] (by omega) (by omega) ?_ (ht:=?_);(focus (simp only [gqE,outE,pasE,benT,lefT,nsV_set,hpc,List.nil_append,List.cons_append,List.map_cons,List.map_nil,TB.inst,TV.inst,tv_map,List.cons_append,List.nil_append];first|rfl|(simp [ptsV,ptV];done)|(simp [hpsV,hpV];done)|(simp [frsV,frV];done)|(simp [txV];done)|(simp [prtsV,prtV];done)));(simp only [outSt,pasSt,pasJ,List.cons_append,List.nil_append,List.length_append,List.length_cons,List.length_nil,Nat.zero_add,List.map_cons,List.map_nil,TV.inst,List.getD_cons_zero,List.getD_cons_succ];exact tv_))
               done)
            | (have h2:=hp0 (by omega)
               rw [h2,hlz2 (by omega)] at hny
               (refine nextU_ hny (()) [0,1,2] (by omega) (by omega) ?_ (ht:=?_);(focus (simp only [gqE,outE,pasE,benT,lefT,List.nil_append,List.cons_append,List.map_cons,List.map_nil,TB.inst,TV.inst,tv_map,List.cons_append,List.nil_append];first|rfl|(simp [ptsV,ptV];done)|(simp [hpsV,hpV];done)|(simp [frsV,frV];done)|(simp [txV];done)|(simp [prtsV,prtV];done)));(simp only [outSt,pasSt,pasJ,List.map_cons,List.map_nil,TV.inst,List.getD_cons_zero,List.getD_cons_succ];exact tv_))
               done)
            |trace_state
        | cons q r=>
          have hrl:r.length+1≤12:=by simpa using hpb
          have hpl:(stsV (q::r)).length=r.length+1:=stsV_length
          have hpt:(stsV (q::r)).take (r.length+1)=stsV (q::r):=List.take_of_length_le (by rw [hpl];exact Nat.le_refl _)
          have hpc:stsV (q::(r++[⟨o,c⟩]))=stsV (q::r)++[[V.int .i64 o,V.int .i64 c]]:=by simp [stsV,stV]
          simp only [gqE,outE,pasE,benT,lefT,outSt,pasSt,pasJ,List.nil_append,List.cons_append]
          simp only [List.map_cons,List.map_nil,TB.inst,TV.inst,tv_map,zipT,List.cons_append,List.nil_append,Nat.add_zero]
          (have FX:=fx14 hlm hla hlo him hix hga hgb hgc hcq hll hlt hpl hpt hlz;repeat'(first|(refine sx ?_ ?_<;>intro h<;>first|(exfalso;omega)|skip)|(refine na ?_;(first|refine nb hpn ?_|refine s_fnO (hcl _) ?_)<;>try first|omega|assumption)|refine ny ?_|refine WA_block ?_))
          all_goals(try(exfalso;omega))
          all_goals first
            | (have h2:=hp1 (by assumption)
               rw [h2,hls] at hny
               (refine nextU_ hny (()) [0,1,2,5] (by omega) (by omega) ?_ (ht:=?_);(focus (simp only [gqE,outE,pasE,benT,lefT,nsV_set,hpc,List.nil_append,List.cons_append,List.map_cons,List.map_nil,TB.inst,TV.inst,tv_map,List.cons_append,List.nil_append];first|rfl|(simp [ptsV,ptV];done)|(simp [hpsV,hpV];done)|(simp [frsV,frV];done)|(simp [txV];done)|(simp [prtsV,prtV];done)));(simp only [outSt,pasSt,pasJ,List.cons_append,List.nil_append,List.length_append,List.length_cons,List.length_nil,Nat.zero_add,List.map_cons,List.map_nil,TV.inst,List.getD_cons_zero,List.getD_cons_succ];exact tv_))
               done)
            | (have h2:=hp0 (by omega)
               rw [h2,hlz2 (by omega)] at hny
               (refine nextU_ hny (()) [0,1,2,3] (by omega) (by omega) ?_ (ht:=?_);(focus (simp only [gqE,outE,pasE,benT,lefT,List.nil_append,List.cons_append,List.map_cons,List.map_nil,TB.inst,TV.inst,tv_map,List.cons_append,List.nil_append];first|rfl|(simp [ptsV,ptV];done)|(simp [hpsV,hpV];done)|(simp [frsV,frV];done)|(simp [txV];done)|(simp [prtsV,prtV];done)));(simp only [outSt,pasSt,pasJ,List.map_cons,List.map_nil,TV.inst,List.getD_cons_zero,List.getD_cons_succ];exact tv_))
               done)
            |trace_state
      · obtain rfl:k=(ordB b.ads).length:=by omega
        subst hB2
        have hnz:=fun js t m h=>hnx _ t m (RoundEndT_up (D:=D2) (js:=js) h (gpS_ok (l1:=[.bp (bxC b) 0,.int .i64 N,.int .i64 ((i+1+1:Nat):Int)])) gpE_ok)
        have hny:=fun(_:Unit)=>hnz
        clear hnz hnx hK2 hK
        rw [hpp] at*
        rw [hnxt] at*
        have hpl:(stsV (pq::pr)).length=pr.length+1:=stsV_length
        have hpt:(stsV (pq::pr)).take (pr.length+1)=stsV (pq::pr):=List.take_of_length_le (by rw [hpl];exact Nat.le_refl _)
        have hpv:plV (plO b l (i+1+1))=plV (plO b l (i+1))++[[V.lst (stsV (pq::pr))]]:=by rw [hsn,plV_snoc]
        have hne:∀ (a c d:Nat),(a+c=a+d)=(c=d):=fun a c d=>by simp
        have hga:=hla
        have hgb:=hla
        have hgc:=hla
        have hcq:=hla
        generalize B++D2=B3 at*
        simp only [gqE,outE,pasE,benT,lefT,outSt,pasSt,pasJ,List.nil_append,List.cons_append]
        simp only [List.map_cons,List.map_nil,TB.inst,TV.inst,tv_map,zipT,List.cons_append,List.nil_append,Nat.add_zero]
        refine WA_fzM (j:=3) rfl ?_
        simp (decide:=true) only [List.map_cons,List.map_nil,List.map_append,frzV,frzC,List.set_cons_succ,List.set_cons_zero,hne,Nat.reduceEqDiff,false_and,true_and,if_false,if_true,hpl,Nat.le_refl,hpt,stsV_frz,plV_frz,nsV_frz,hmf,haf]
        (have FX:=fx14 hlm hla hlo him hix hga hgb hgc hcq hll hlt hpl hpt hlz;repeat'(first|(refine sx ?_ ?_<;>intro h<;>first|(exfalso;omega)|skip)|(refine na ?_;(first|refine nb hpn ?_|refine s_fnO (hcl _) ?_)<;>try first|omega|assumption)|refine ny ?_|refine WA_block ?_))
        all_goals(try(exfalso;omega))
        all_goals((refine nextU_ hny (()) [0,1,5] (hi) (by omega) ?_ (ht:=?_);(focus (simp only [gpE,outE,benT,lefT,hpv,List.nil_append,List.cons_append,List.map_cons,List.map_nil,TB.inst,TV.inst,tv_map,List.cons_append,List.nil_append];first|rfl|(simp [ptsV,ptV];done)|(simp [hpsV,hpV];done)|(simp [frsV,frV];done)|(simp [txV];done)|(simp [prtsV,prtV];done)));(simp only [outSt,List.map_cons,List.map_nil,TV.inst,List.getD_cons_zero,List.getD_cons_succ];exact tv_)))
  · obtain rfl:i=N:=by omega
    clear hK
    have hga:=hla
    have hgb:=hla
    have hgc:=hla
    have hcq:=hla
    have hpl:=hla
    have hpt:=hla
    have hlz:=hla
    cases hN0:i with
    | zero=>
      have hll:=hla
      have hlt:=hla
      subst hN0
      simp only [gpE,outE,benT,lefT,outSt]
      simp only [List.map_cons,List.map_nil,TB.inst,TV.inst,tv_map,zipT,List.cons_append,List.nil_append,Nat.add_zero]
      (have FX:=fx14 hlm hla hlo him hix hga hgb hgc hcq hll hlt hpl hpt hlz;repeat'(first|(refine sx ?_ ?_<;>intro h<;>first|(exfalso;omega)|skip)|(refine na ?_;(first|refine nb hpn ?_|refine s_fnO (hcl _) ?_)<;>try first|omega|assumption)|refine ny ?_|refine WA_block ?_))
      all_goals(try(exfalso;omega))
      refine r_esA hQ (.inl ⟨rfl,rfl,?_⟩)
      exact wk_tup ⟨wk_nil,WkV.refl _,trivial⟩
    | succ i2=>
      have hll:=hla
      have hlt:=hla
      subst hN0
      simp only [gpE,outE,benT,lefT,outSt]
      simp only [List.map_cons,List.map_nil,TB.inst,TV.inst,tv_map,zipT,List.cons_append,List.nil_append,Nat.add_zero]
      (have FX:=fx14 hlm hla hlo him hix hga hgb hgc hcq hll hlt hpl hpt hlz;repeat'(first|(refine sx ?_ ?_<;>intro h<;>first|(exfalso;omega)|skip)|(refine na ?_;(first|refine nb hpn ?_|refine s_fnO (hcl _) ?_)<;>try first|omega|assumption)|refine ny ?_|refine WA_block ?_))
      all_goals(try(exfalso;omega))
      have hl1:(plV (plO b l (i2+1))).length=i2+1:=by rw [plV_length,plO_length]
      refine r_esA hQ (fin_sli2 (j:=2) (k:=i2+1) hB rfl hl1 (plV_plain _) ⟨rfl,WkV.refl _⟩)
end Go.Proofs.YtnablpehkeicmaaGreat
