/- contracts: all steps, told to one who looks for the best -/
import Derived.Test.YtookikhphobnlaaGreatDoorGAL
set_option linter.unusedSimpArgs false
set_option linter.unusedVariables false
namespace Go.Proofs.YtookikhphobnlaaGreatDoor
open Go.RowKit
attribute [local irreducible] WA WOs WDs WAn qThen qBlock tput
set_option maxHeartbeats 1000000
set_option maxRecDepth 20000
set_option linter.unusedSimpArgs false
set_option linter.unusedVariables false
set_option maxHeartbeats 4000000
def b10(s:Bst):Blk:= .cells .own 43 1 [[if s.f=true then .lst (nsV s.l) else .nilsl]]
def b11(s:Bst):Blk:= .cells .own 117 2 [[.int .i64 s.p,.int .i64 s.q]]
def b12(s:Bst):Blk:= .cells .own 4 1 [[.bool s.f]]
def cI(l:List Int):Blk:= .cells .own 3 1 (nsV l)
theorem b10_flat(s:Bst):(b10 s).flat=true:=by
  unfold b10
  split<;>simp [Blk.flat,plainL,V.plain,nsV_plain]
theorem b11_flat(s:Bst):(b11 s).flat=true:=by simp [b11,Blk.flat,plainL,V.plain]
theorem b12_flat(s:Bst):(b12 s).flat=true:=by simp [b12,Blk.flat,plainL,V.plain]
theorem cI_flat(l:List Int):(cI l).flat=true:=by
  unfold cI
  simp only [Blk.flat,List.all_eq_true]
  intro e he
  obtain⟨n,_,rfl⟩:=List.mem_map.1 he
  rfl
theorem fz_nsV{k:Nat}{l:List Int}:frzV k (nsV l) (.sl k l.length)= .lst (nsV l):=by
  unfold frzV
  simp only []
  rw [if_pos ⟨trivial,by rw [nsV_length];exact Nat.le_refl _⟩,List.take_of_length_le (by rw [nsV_length];exact Nat.le_refl _)]
theorem geffort_s(b:BnR)(hb:Bnd b)(l:List Int)(hl:l.length=b.ads.length)(hs:∀ k,k<b.ads.length→ -1000≤l.getD k 0∧l.getD k 0≤1000)(m:Mem)(k:Nat){st:Sta}(hk:m[k]?=some (.cells st 3 1 (nsV l)):=by first|exact ev_|fail):Gives Tryz.prog 58 [.bp (bxC b) 0,.sl k l.length] m (.agg [.int .i64 (pasK b.ads l b.ads.length),.int .i64 (sumA l b.ads.length)]):=by
  refine Gives_fz hk (by simp [V.flat,flatL]) ?_
  show Gives _ _ [.bp (bxC b) 0,frzV k (nsV l) (.sl k l.length)] _ _
  rw [fz_nsV]
  exact geffort_c b hb l hl hs _
theorem gholds_s(b:BnR)(hb:Bnd b)(l:List Int)(hl:l.length=b.ads.length)(hs:∀ k,k<b.ads.length→ -1000≤l.getD k 0∧l.getD k 0≤1000)(m:Mem)(k:Nat){st:Sta}(hk:m[k]?=some (.cells st 3 1 (nsV l)):=by first|exact ev_|fail):Gives Tryz.prog 61 [.bp (bxC b) 0,.sl k l.length] m (.bool (decide (brkP b l b.ms.length=[]))):=by
  refine Gives_fz hk (by simp [V.flat]) ?_
  show Gives _ _ [.bp (bxC b) 0,frzV k (nsV l) (.sl k l.length)] _ _
  rw [fz_nsV]
  exact gholds_c b hb l hl hs _
theorem uB16_57_8{N:Nat}{l:List Oper}{t:List (Nat×V)}{m:Mem}{Q:Exit→List (Nat×V)→Mem→Prop}(h:RgN Tryz.prog N l t m Q (fun i=>if i==6 || i==11 || i==15 then .q else .p) [.one 0,.one 1,.one 2,.one 3,.one 4,.one 5,.one 6,.one 7,.one 8,.one 9,.one 10,.one 11,.one 12,.one 13,.one 14,.one 15,.one 16,.one 17]):WA Tryz.prog N (.region 8 l.toArray true) t m Q:=d_rgN h
theorem gall_c (b:BnR) (hb:Bnd b) (hw:∀ i,i<b.ads.length→(b.ads.getD i adz).least≤(b.ads.getD i adz).most) (lp:Nat) (M:Mem) (LB:Blk) (s0:Bst)
    (hy:∀ (s:Bst) (l:List Int),stOk b.ads l→∀ R:V→Option Mem→Prop,(∀ ext:Mem,R (.bool true) (some (M++(b10 (updB b l s)::b11 (updB b l s)::b12 (updB b l s)::LB::cI l::ext))))→YieldA Tryz.prog lp [.sl (M.length+4) l.length] (M++[b10 s,b11 s,b12 s,LB,cI l]) R):
    CallA Tryz.prog 57 [.bp (bxC b) 0,.clo (.yield lp) [] []] (M++[b10 s0,b11 s0,b12 s0,LB]) (fun _ mo=>∃ ext,mo=some (M++(b10 (fwF b (rkK b.ads (lstL b.ads) b.ads.length+1) (lstL b.ads) s0)::b11 (fwF b (rkK b.ads (lstL b.ads) b.ads.length+1) (lstL b.ads) s0)::b12 (fwF b (rkK b.ads (lstL b.ads) b.ads.length+1) (lstL b.ads) s0)::LB::ext))):=by
  have hla:=adsV_length (l:=b.ads)
  have hn1:∀ n,n=b.ads.length→List.replicate n [V.int .i64 0]=nsV (filL b.ads 0):=fun n h=>by rw [h,filL_zero]
  have hga:=hla
  have hgb:=hla
  have hfa:=hb.fa
  have hbx:bxC b=[.lst (mssV b.ms),.lst (adsV b.ads),.lst (nuV (ordB b.ads)),.lst (rwV (rowsB b.ms b.ads)),.lst (nsV (mnsB b.ms b.ads))]:=rfl
  rw [hbx]
  generalize nuV (ordB b.ads)=O at *
  generalize rwV (rowsB b.ms b.ads)=RW at *
  generalize nsV (mnsB b.ms b.ads)=MN at *
  generalize hF:fwF b (rkK b.ads (lstL b.ads) b.ads.length+1) (lstL b.ads) s0=sF
  refine CallA_inD Tryz.func57 rfl Tryz.ntmps57 Tryz.results57 (by kernel_rfl) (by simp) fun Q hQ=>?_
  (have FX:=And.intro hla (And.intro hn1 (And.intro hga hgb));repeat'(first|(refine sx ?_ ?_<;>intro h<;>first|(exfalso;omega)|skip)|refine ny ?_|refine WA_block ?_|(refine uB16_57_8 ?_;refine⟨by kernel_rfl,?_⟩)))
  all_goals(try(exfalso;omega))
  refine WA_whileP (σ:=Nat) (M:=M) [0,1,4,19,20,21] (fun i=>[.bp [.lst (mssV b.ms),.lst (adsV b.ads),.lst O,.lst RW,.lst MN] 0,.clo (.yield lp) [] [],.sl (M.length+4) b.ads.length,.lst (adsV b.ads),.int .i64 b.ads.length,.int .i64 i]) (fun i=>[b10 s0,b11 s0,b12 s0,LB,cI (filL b.ads i)]) 5 (fun i=>i≤b.ads.length) (fun i=>b.ads.length - i) 0 (Nat.zero_le _) tv_ rfl (fun _=>rfl) (by intro s s' _ _;simp [conB,conS,V.keeps,V.plain,Blk.flat,flatL,plainL,V.flat]) (fun _ _ _ _=>⟨.inr rfl,.inr rfl,.inr rfl,.inr rfl,.inl (cI_flat _),trivial⟩) ?_
  · intro i hi1 K hK
    simp only [zipT,cI]
    clear FX hga hgb hn1
    rcases Nat.lt_or_ge i b.ads.length with hi|hi
    · have hga:=adsV_get hi
      have hgb:(nsV (filL b.ads i)).length=b.ads.length:=by rw [nsV_length,filL_length]
      have hn1:=hla
      have hsu:nsV (filL b.ads (i+1))=(nsV (filL b.ads i)).set i [V.int .i64 (b.ads.getD i adz).least]:=by rw [filL_succ hi,nsV_set]
      have hgc:=nsV_get (l:=filL b.ads i) (i:=i) (by rw [filL_length];exact hi)
      have hgb:(nsV (filL b.ads i))[i]?=some [V.int .i64 ((filL b.ads i).getD i 0)]∧(nsV (filL b.ads i)).length=b.ads.length:=⟨hgc,hgb⟩
      clear hgc
      generalize b.ads.getD i adz=x at *
      obtain⟨nm,ef,le,mo,pa,af⟩:=x
      unfold adV at hga
      dsimp only at hga hsu
      (have FX:=And.intro hla (And.intro hn1 (And.intro hga hgb));repeat'(first|(refine sx ?_ ?_<;>intro h<;>first|(exfalso;omega)|skip)|refine ny ?_|refine WA_block ?_|(refine uB16_57_8 ?_;refine⟨by kernel_rfl,?_⟩)))
      all_goals(try(exfalso;omega))
      all_goals(refine nextP_ hK (i+1) hi (by omega) (hm:=by simp only [cI,hsu];rfl))
    · obtain rfl:i=b.ads.length:=by omega
      have hga:=hla
      have hgb:=hla
      have hn1:=hla
      rw [filL_all]
      have hll:(lstL b.ads).length=b.ads.length:=by simp [lstL]
      (have FX:=And.intro hla (And.intro hn1 (And.intro hga hgb));repeat'(first|(refine sx ?_ ?_<;>intro h<;>first|(exfalso;omega)|skip)|refine ny ?_|refine WA_block ?_|(refine uB16_57_8 ?_;refine⟨by kernel_rfl,?_⟩)))
      all_goals(try(exfalso;omega))
      refine WA_whileP (σ:=Nat×List Int×Bst) (M:=M) [0,1,4] (fun _=>[.bp [.lst (mssV b.ms),.lst (adsV b.ads),.lst O,.lst RW,.lst MN] 0,.clo (.yield lp) [] [],.sl (M.length+4) b.ads.length]) (fun s=>[b10 s.2.2,b11 s.2.2,b12 s.2.2,LB,cI s.2.1]) 5 (fun s=>fwF b s.1 s.2.1 s.2.2=sF∧rkK b.ads s.2.1 b.ads.length<s.1∧stOk b.ads s.2.1) (fun s=>s.1) (rkK b.ads (lstL b.ads) b.ads.length+1,lstL b.ads,s0) ⟨hF,Nat.lt_succ_self _,lstL_ok hw⟩ tv_ rfl (fun _=>rfl) (by intro s s' _ _;simp [conB,conS,V.keeps,V.plain,Blk.flat,flatL,plainL,V.flat]) (fun _ _ _ _=>⟨.inl (b10_flat _),.inl (b11_flat _),.inl (b12_flat _),.inr rfl,.inl (cI_flat _),trivial⟩) ?_
      rintro⟨f,l,s⟩ ⟨hf,hrk,hok⟩ K2 hK2
      dsimp only at hf hrk hok
      dsimp only
      obtain⟨f,rfl⟩:∃ f',f=f'+1:=⟨f - 1,by omega⟩
      have hys:=fun R h=>hy s l hok R h
      rw [hok.1] at hys
      have hna:nxA b.ads l=(match crL b.ads b.ads.length l with|(l',some k)=>some (l'.set k (l'.getD k 0+1))|(_,none)=>none):=rfl
      have hnk:∀ l2,nxA b.ads l=some l2→stOk b.ads l2∧rkK b.ads l2 b.ads.length<f:=fun l2 h=>⟨nxA_ok hok hw h,by have:=nxA_rank hok hw h;omega⟩
      unfold fwF at hf
      clear hy hK
      generalize updB b l s=s' at *
      simp only [zipT]
      clear FX hga hgb hn1
      have hga:=hla
      have hgb:=hla
      have hn1:=hla
      (have FX:=And.intro hla (And.intro hn1 (And.intro hga hgb));repeat'(first|(refine sx ?_ ?_<;>intro h<;>first|(exfalso;omega)|skip)|refine ny ?_|refine WA_block ?_|(refine uB16_57_8 ?_;refine⟨by kernel_rfl,?_⟩)))
      refine s_yld (hys _ fun ext=>?_)
      simp only [Option.getD_some]
      (have FX:=And.intro hla (And.intro hn1 (And.intro hga hgb));repeat'(first|(refine sx ?_ ?_<;>intro h<;>first|(exfalso;omega)|skip)|refine ny ?_|refine WA_block ?_|(refine uB16_57_8 ?_;refine⟨by kernel_rfl,?_⟩)))
      all_goals(try(exfalso;omega))
      refine WA_whileP (σ:=Nat×List Int) (M:=M) [0,1,4,7] (fun p=>[.bp [.lst (mssV b.ms),.lst (adsV b.ads),.lst O,.lst RW,.lst MN] 0,.clo (.yield lp) [] [],.sl (M.length+4) b.ads.length,.int .i64 ((p.1:Int) - 1)]) (fun p=>b10 s'::b11 s'::b12 s'::LB::cI p.2::ext) (ext.length+5) (fun p=>p.1≤b.ads.length∧p.2.length=b.ads.length∧crL b.ads p.1 p.2=crL b.ads b.ads.length l) (fun p=>p.1) (b.ads.length,l) ⟨Nat.le_refl _,hok.1,rfl⟩ tv_ rfl (fun _=>rfl) (by intro s s' _ _;simp [conB,conS,V.keeps,V.plain,Blk.flat,flatL,plainL,V.flat]) (fun _ _ _ _=>⟨.inr rfl,.inr rfl,.inr rfl,.inr rfl,.inl (cI_flat _),conB_refl _⟩) ?_
      rintro⟨k,l'⟩ ⟨hk1,hl',hcr⟩ K3 hK3
      dsimp only at hk1 hl' hcr
      dsimp only
      clear FX hga hgb hn1 hys
      cases k with
      | zero=>
        have hnn:nxA b.ads l=none:=by rw [hna,←hcr];rfl
        rw [hnn] at hf
        dsimp only at hf
        subst hf
        have e0:((0:Nat):Int) - 1= -1:=by omega
        simp only [zipT,e0]
        have hga:=hla
        have hgb:=hla
        have hn1:=hla
        (have FX:=And.intro hla (And.intro hn1 (And.intro hga hgb));repeat'(first|(refine sx ?_ ?_<;>intro h<;>first|(exfalso;omega)|skip)|refine ny ?_|refine WA_block ?_|(refine uB16_57_8 ?_;refine⟨by kernel_rfl,?_⟩)))
        all_goals(try(exfalso;omega))
        all_goals(exact hQ _ _ _ (by first|exact .inl rfl|exact .inr rfl) _ rfl ⟨_,rfl⟩)
      | succ k=>
        have hk:k<b.ads.length:=by omega
        have e1:((k+1:Nat):Int) - 1=(k:Int):=by omega
        simp only [zipT,e1,cI]
        have hga:=adsV_get hk
        have hgc:=nsV_get (l:=l') (i:=k) (by omega)
        have hgb:(nsV l')[k]?=some [V.int .i64 (l'.getD k 0)]∧(nsV l').length=b.ads.length:=⟨hgc,by rw [nsV_length];exact hl'⟩
        clear hgc
        have hn1:=hla
        have hbm:=hb.mo k hk
        have hbl:=hb.le k hk
        rw [crL_succ] at hcr
        generalize hx:b.ads.getD k adz=x at *
        obtain⟨nm,ef,le,mo,pa,af⟩:=x
        unfold adV at hga
        dsimp only at hga hcr hbm hbl
        by_cases hm:l'.getD k 0=mo
        · rw [if_pos hm] at hcr
          (have FX:=And.intro hla (And.intro hn1 (And.intro hga hgb));repeat'(first|(refine sx ?_ ?_<;>intro h<;>first|(exfalso;omega)|skip)|refine ny ?_|refine WA_block ?_|(refine uB16_57_8 ?_;refine⟨by kernel_rfl,?_⟩)))
          all_goals(try(exfalso;omega))
          all_goals(refine nextP_ hK3 (k,l'.set k le) ⟨by omega,by simp [hl'],hcr⟩ (Nat.lt_succ_self _) (ext:=[]) (hm:=by simp only [cI,nsV_set,List.append_nil]))
        · rw [if_neg hm] at hcr
          have hnn:nxA b.ads l=some (l'.set k (l'.getD k 0+1)):=by rw [hna,←hcr]
          obtain⟨n1,n2⟩:=hnk _ hnn
          rw [hnn] at hf
          dsimp only at hf
          have hlb: -1000≤l'.getD k 0+1∧l'.getD k 0+1≤1000:=by
            have h1:=n1.2 k hk
            rw [getD_set,if_pos ⟨rfl,by omega⟩,hx] at h1
            dsimp only at h1
            omega
          clear hna hnn hnk
          generalize l'.getD k 0=lk at *
          (have FX:=And.intro hla (And.intro hn1 (And.intro hga hgb));repeat'(first|(refine sx ?_ ?_<;>intro h<;>first|(exfalso;omega)|skip)|refine ny ?_|refine WA_block ?_|(refine uB16_57_8 ?_;refine⟨by kernel_rfl,?_⟩)))
          all_goals(try(exfalso;omega))
          all_goals(refine nextP_ hK2 (f,l'.set k (lk+1),s') ⟨hf,n2,n1⟩ (Nat.lt_succ_self _) (hm:=by simp only [cI,nsV_set];rfl))
end Go.Proofs.YtookikhphobnlaaGreatDoor
