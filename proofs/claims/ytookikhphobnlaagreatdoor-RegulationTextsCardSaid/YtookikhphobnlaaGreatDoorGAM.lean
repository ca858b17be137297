import Derived.Test.YtookikhphobnlaaGreatDoorGAK
import Derived.Test.YtookikhphobnlaaGreatDoorGAL
set_option linter.unusedSimpArgs false
set_option linter.unusedVariables false
/- contracts: effort -/
namespace Go.Proofs.YtookikhphobnlaaGreatDoor
open Go.RowKit
attribute [local irreducible] WA WOs WDs WAn qThen qBlock tput
set_option maxHeartbeats 1000000
set_option maxRecDepth 20000
set_option linter.unusedSimpArgs false
set_option linter.unusedVariables false

theorem cor_c(a b:Int)(m:Mem)(k:Nat){st:Sta}(hk:m[k]?=some (.cells st 3 1 [[.int .i64 a],[.int .i64 b]]):=by first|exact ev_|fail):Gives Tryz.prog 59 [.sl k 2] m (.int .i64 (if a≠0 then a else b)):=by
  have hkl:=lend_get2 hk
  refine Gives_in Tryz.func59 rfl Tryz.ntmps59 Tryz.results59 (by kernel_rfl) (by simp) rfl fun Q hQ=>?_
  (have FX:=hkl;repeat'(first|(refine sx ?_ ?_<;>intro h<;>first|(exfalso;omega)|skip)|refine ny ?_|refine WA_block ?_))
  refine WA_rounds 3 ?_
  (have FX:=hkl;repeat'(first|(refine sx ?_ ?_<;>intro h<;>first|(exfalso;omega)|skip)|refine ny ?_|refine WA_block ?_))
  all_goals(try(exfalso;omega))
  all_goals((refine r_es hQ ?_;try with_reducible rfl))
  all_goals(refine congrArg (V.int .i64) ?_;first|(rw [if_pos (by omega)];done)|(rw [if_neg (by omega)];done)|(rw [if_neg (by omega)];omega))
theorem uB15_58_5{N:Nat}{l:List Oper}{t:List (Nat×V)}{m:Mem}{Q:Exit→List (Nat×V)→Mem→Prop}(h:RgN Tryz.prog N l t m Q (fun i=>if i==6 then .w else if i==1 || i==3 then .q else .p) [.one 0,.one 1,.one 2,.one 3,.one 4,.one 5,.one 6]):WA Tryz.prog N (.region 5 l.toArray true) t m Q:=d_rgN h
theorem geffort_c(b:BnR)(hb:Bnd b)(l:List Int)(hl:l.length=b.ads.length)(hs:∀ k,k<b.ads.length→ -1000≤l.getD k 0∧l.getD k 0≤1000)(m:Mem):Gives Tryz.prog 58 [.bp (bxC b) 0,.lst (nsV l)] m (.agg [.int .i64 (pasK b.ads l b.ads.length),.int .i64 (sumA l b.ads.length)]):=by
  have hln:=nsV_length (l:=l)
  have hga:=hln
  have hsz:=hln
  have hfa:=hb.fa
  refine Gives_in Tryz.func58 rfl Tryz.ntmps58 Tryz.results58 (by kernel_rfl) (by simp) rfl fun Q hQ=>?_
  (have FX:=And.intro hln hga;repeat'(first|(refine sx ?_ ?_<;>intro h<;>first|(exfalso;omega)|skip)|(refine g_op ?_;refine g_call ?_;refine g_args ?_;(first|refine s_fn (gpasses_c b hb l hl hs _) ?_|refine s_fn (hsz _) ?_)<;>try first|omega|assumption)|refine ny ?_|refine WA_block ?_|(refine uB15_58_5 ?_;refine⟨by kernel_rfl,?_⟩)|((first|refine grp_cons (fun _=>gpasses_c b hb l hl hs _) ?_|refine grp_cons (fun _=>hsz _) ?_)<;>try first|omega|assumption)|(refine g_d ?_;refine d_args ?_;(first|refine d_fn (gpasses_c b hb l hl hs _) ?_|refine d_fn (hsz _) ?_|refine d_fnQ (fun _=>gpasses_c b hb l hl hs _) ?_|refine d_fnQ (fun _=>hsz _) ?_)<;>try first|omega|assumption)|(refine g_d ?_;(first|refine d_fnY (gpasses_c b hb l hl hs _) ?_|refine d_fnY (hsz _) ?_)<;>try first|omega|assumption)))
  refine WA_whileK (σ:=Nat) (L:=m) [4,5,12,13,14] (fun k=>[.ptr (lend m).length 0 0,.ptr ((lend m).length+1) 0 0,.lst (nsV l),.int .i64 l.length,.int .i64 k]) (fun k=>[.cells .own 117 2 [[.int .i64 0,.int .i64 0]],.cells .own 117 2 [[.int .i64 (pasK b.ads l b.ads.length),.int .i64 (sumA l k)]]]) 2 (fun k=>k≤b.ads.length) (fun k=>b.ads.length - k) 0 (Nat.zero_le _) tv_ rfl (fun _=>rfl) (by intro s s' _ _;simp [conB,conS,V.keeps,V.plain,Blk.flat,flatL,plainL,V.flat]) (by intro s s' _ _;simp [conB,conS,V.keeps,V.plain,Blk.flat,flatL,plainL,V.flat]) ?_
  rintro k hk1 K hK
  simp only [zipT]
  clear FX hga hsz
  have hbd:=sumA_bd hs k hk1
  rcases Nat.lt_or_ge k b.ads.length with hk|hk
  · have hga:=nsV_get (l:=l) (i:=k) (by omega)
    have hsk:=hs k hk
    have hsz:=fun m=>gsize_c (l.getD k 0) (by omega) (by omega) m
    have hsu:sumA l (k+1)=sumA l k+((l.getD k 0).natAbs:Int):=rfl
    generalize l.getD k 0=s at *
    generalize sumA l k=sk at *
    (have FX:=And.intro hln hga;repeat'(first|(refine sx ?_ ?_<;>intro h<;>first|(exfalso;omega)|skip)|(refine g_op ?_;refine g_call ?_;refine g_args ?_;(first|refine s_fn (gpasses_c b hb l hl hs _) ?_|refine s_fn (hsz _) ?_)<;>try first|omega|assumption)|refine ny ?_|refine WA_block ?_|(refine uB15_58_5 ?_;refine⟨by kernel_rfl,?_⟩)|((first|refine grp_cons (fun _=>gpasses_c b hb l hl hs _) ?_|refine grp_cons (fun _=>hsz _) ?_)<;>try first|omega|assumption)|(refine g_d ?_;refine d_args ?_;(first|refine d_fn (gpasses_c b hb l hl hs _) ?_|refine d_fn (hsz _) ?_|refine d_fnQ (fun _=>gpasses_c b hb l hl hs _) ?_|refine d_fnQ (fun _=>hsz _) ?_)<;>try first|omega|assumption)|(refine g_d ?_;(first|refine d_fnY (gpasses_c b hb l hl hs _) ?_|refine d_fnY (hsz _) ?_)<;>try first|omega|assumption)))
    all_goals(try(exfalso;omega))
    all_goals(refine nextL_ hK (k+1) hk (by omega) (hm:=by rw [hsu];rfl))
  · obtain rfl:k=b.ads.length:=by omega
    have hga:=hln
    have hsz:=hln
    (have FX:=And.intro hln hga;repeat'(first|(refine sx ?_ ?_<;>intro h<;>first|(exfalso;omega)|skip)|(refine g_op ?_;refine g_call ?_;refine g_args ?_;(first|refine s_fn (gpasses_c b hb l hl hs _) ?_|refine s_fn (hsz _) ?_)<;>try first|omega|assumption)|refine ny ?_|refine WA_block ?_|(refine uB15_58_5 ?_;refine⟨by kernel_rfl,?_⟩)|((first|refine grp_cons (fun _=>gpasses_c b hb l hl hs _) ?_|refine grp_cons (fun _=>hsz _) ?_)<;>try first|omega|assumption)|(refine g_d ?_;refine d_args ?_;(first|refine d_fn (gpasses_c b hb l hl hs _) ?_|refine d_fn (hsz _) ?_|refine d_fnQ (fun _=>gpasses_c b hb l hl hs _) ?_|refine d_fnQ (fun _=>hsz _) ?_)<;>try first|omega|assumption)|(refine g_d ?_;(first|refine d_fnY (gpasses_c b hb l hl hs _) ?_|refine d_fnY (hsz _) ?_)<;>try first|omega|assumption)))
    all_goals(try(exfalso;omega))
    all_goals((refine r_es hQ ?_;try with_reducible rfl))
end Go.Proofs.YtookikhphobnlaaGreatDoor
namespace Go.Proofs.YtookikhphobnlaaGreatDoor
open Go.RowKit
attribute [local irreducible] WA WOs WDs WAn qThen qBlock tput
set_option maxHeartbeats 1000000
set_option maxRecDepth 20000
set_option linter.unusedSimpArgs false
set_option linter.unusedVariables false
set_option maxHeartbeats 4000000
def b10(s:Bst):Blk:= .cells .own 43 1 [[if s.f=true then .lst (nsV s.l) else .nilsl]]
def b11(s:Bst):Blk:= .cells .own 117 2 [[.int .i64 s.p,.int .i64 s.q]]
def b12(s:Bst):Blk:= .cells .own 4 1 [[.bool s.f]]
def cI(l:List Int):Blk:= .cells .own 3 1 (nsV l)
theorem b10_flat(s:Bst):(b10 s).flat=true:=by
  unfold b10
  split<;>simp [Blk.flat,plainL,V.plain,nsV_plain]
theorem b11_flat(s:Bst):(b11 s).flat=true:=by simp [b11,Blk.flat,plainL,V.plain]
theorem b12_flat(s:Bst):(b12 s).flat=true:=by simp [b12,Blk.flat,plainL,V.plain]
theorem cI_flat(l:List Int):(cI l).flat=true:=by
  unfold cI
  simp only [Blk.flat,List.all_eq_true]
  intro e he
  obtain⟨n,_,rfl⟩:=List.mem_map.1 he
  rfl
theorem fz_nsV{k:Nat}{l:List Int}:frzV k (nsV l) (.sl k l.length)= .lst (nsV l):=by
  unfold frzV
  simp only []
  rw [if_pos ⟨trivial,by rw [nsV_length];exact Nat.le_refl _⟩,List.take_of_length_le (by rw [nsV_length];exact Nat.le_refl _)]
theorem geffort_s(b:BnR)(hb:Bnd b)(l:List Int)(hl:l.length=b.ads.length)(hs:∀ k,k<b.ads.length→ -1000≤l.getD k 0∧l.getD k 0≤1000)(m:Mem)(k:Nat){st:Sta}(hk:m[k]?=some (.cells st 3 1 (nsV l)):=by first|exact ev_|fail):Gives Tryz.prog 58 [.bp (bxC b) 0,.sl k l.length] m (.agg [.int .i64 (pasK b.ads l b.ads.length),.int .i64 (sumA l b.ads.length)]):=by
  refine Gives_fz hk (by simp [V.flat,flatL]) ?_
  show Gives _ _ [.bp (bxC b) 0,frzV k (nsV l) (.sl k l.length)] _ _
  rw [fz_nsV]
  exact geffort_c b hb l hl hs _
theorem gholds_s(b:BnR)(hb:Bnd b)(l:List Int)(hl:l.length=b.ads.length)(hs:∀ k,k<b.ads.length→ -1000≤l.getD k 0∧l.getD k 0≤1000)(m:Mem)(k:Nat){st:Sta}(hk:m[k]?=some (.cells st 3 1 (nsV l)):=by first|exact ev_|fail):Gives Tryz.prog 61 [.bp (bxC b) 0,.sl k l.length] m (.bool (decide (brkP b l b.ms.length=[]))):=by
  refine Gives_fz hk (by simp [V.flat]) ?_
  show Gives _ _ [.bp (bxC b) 0,frzV k (nsV l) (.sl k l.length)] _ _
  rw [fz_nsV]
  exact gholds_c b hb l hl hs _
theorem uB16_57_8{N:Nat}{l:List Oper}{t:List (Nat×V)}{m:Mem}{Q:Exit→List (Nat×V)→Mem→Prop}(h:RgN Tryz.prog N l t m Q (fun i=>if i==6 || i==11 || i==15 then .q else .p) [.one 0,.one 1,.one 2,.one 3,.one 4,.one 5,.one 6,.one 7,.one 8,.one 9,.one 10,.one 11,.one 12,.one 13,.one 14,.one 15,.one 16,.one 17]):WA Tryz.prog N (.region 8 l.toArray true) t m Q:=d_rgN h
theorem gall_c (b:BnR) (hb:Bnd b) (hw:∀ i,i<b.ads.length→(b.ads.getD i adz).least≤(b.ads.getD i adz).most) (lp:Nat) (M:Mem) (LB:Blk) (s0:Bst)
    (hy:∀ (s:Bst) (l:List Int),stOk b.ads l→∀ R:V→Option Mem→Prop,(∀ ext:Mem,R (.bool true) (some (M++(b10 (updB b l s)::b11 (updB b l s)::b12 (updB b l s)::LB::cI l::ext))))→YieldA Tryz.prog lp [.sl (M.length+4) l.length] (M++[b10 s,b11 s,b12 s,LB,cI l]) R):
    CallA Tryz.prog 57 [.bp (bxC b) 0,.clo (.yield lp) [] []] (M++[b10 s0,b11 s0,b12 s0,LB]) (fun _ mo=>∃ ext,mo=some (M++(b10 (fwF b (rkK b.ads (lstL b.ads) b.ads.length+1) (lstL b.ads) s0)::b11 (fwF b (rkK b.ads (lstL b.ads) b.ads.length+1) (lstL b.ads) s0)::b12 (fwF b (rkK b.ads (lstL b.ads) b.ads.length+1) (lstL b.ads) s0)::LB::ext))):=by
  have hla:=adsV_length (l:=b.ads)
  have hn1:∀ n,n=b.ads.length→List.replicate n [V.int .i64 0]=nsV (filL b.ads 0):=fun n h=>by rw [h,filL_zero]
  have hga:=hla
  have hgb:=hla
  have hfa:=hb.fa
  have hbx:bxC b=[.lst (mssV b.ms),.lst (adsV b.ads),.lst (nuV (ordB b.ads)),.lst (rwV (rowsB b.ms b.ads)),.lst (nsV (mnsB b.ms b.ads))]:=rfl
  rw [hbx]
  generalize nuV (ordB b.ads)=O at *
  generalize rwV (rowsB b.ms b.ads)=RW at *
  generalize nsV (mnsB b.ms b.ads)=MN at *
  generalize hF:fwF b (rkK b.ads (lstL b.ads) b.ads.length+1) (lstL b.ads) s0=sF
  refine CallA_inD Tryz.func57 rfl Tryz.ntmps57 Tryz.results57 (by kernel_rfl) (by simp) fun Q hQ=>?_
  (have FX:=And.intro hla (And.intro hn1 (And.intro hga hgb));repeat'(first|(refine sx ?_ ?_<;>intro h<;>first|(exfalso;omega)|skip)|refine ny ?_|refine WA_block ?_|(refine uB16_57_8 ?_;refine⟨by kernel_rfl,?_⟩)))
  all_goals(try(exfalso;omega))
  refine WA_whileP (σ:=Nat) (M:=M) [0,1,4,19,20,21] (fun i=>[.bp [.lst (mssV b.ms),.lst (adsV b.ads),.lst O,.lst RW,.lst MN] 0,.clo (.yield lp) [] [],.sl (M.length+4) b.ads.length,.lst (adsV b.ads),.int .i64 b.ads.length,.int .i64 i]) (fun i=>[b10 s0,b11 s0,b12 s0,LB,cI (filL b.ads i)]) 5 (fun i=>i≤b.ads.length) (fun i=>b.ads.length - i) 0 (Nat.zero_le _) tv_ rfl (fun _=>rfl) (by intro s s' _ _;simp [conB,conS,V.keeps,V.plain,Blk.flat,flatL,plainL,V.flat]) (fun _ _ _ _=>⟨.inr rfl,.inr rfl,.inr rfl,.inr rfl,.inl (cI_flat _),trivial⟩) ?_
  · intro i hi1 K hK
    simp only [zipT,cI]
    clear FX hga hgb hn1
    rcases Nat.lt_or_ge i b.ads.length with hi|hi
    · have hga:=adsV_get hi
      have hgb:(nsV (filL b.ads i)).length=b.ads.length:=by rw [nsV_length,filL_length]
      have hn1:=hla
      have hsu:nsV (filL b.ads (i+1))=(nsV (filL b.ads i)).set i [V.int .i64 (b.ads.getD i adz).least]:=by rw [filL_succ hi,nsV_set]
      have hgc:=nsV_get (l:=filL b.ads i) (i:=i) (by rw [filL_length];exact hi)
      have hgb:(nsV (filL b.ads i))[i]?=some [V.int .i64 ((filL b.ads i).getD i 0)]∧(nsV (filL b.ads i)).length=b.ads.length:=⟨hgc,hgb⟩
      clear hgc
      generalize b.ads.getD i adz=x at *
      obtain⟨nm,ef,le,mo,pa,af⟩:=x
      unfold adV at hga
      dsimp only at hga hsu
      (have FX:=And.intro hla (And.intro hn1 (And.intro hga hgb));repeat'(first|(refine sx ?_ ?_<;>intro h<;>first|(exfalso;omega)|skip)|refine ny ?_|refine WA_block ?_|(refine uB16_57_8 ?_;refine⟨by kernel_rfl,?_⟩)))
      all_goals(try(exfalso;omega))
      all_goals(refine nextP_ hK (i+1) hi (by omega) (hm:=by simp only [cI,hsu];rfl))
    · obtain rfl:i=b.ads.length:=by omega
      have hga:=hla
      have hgb:=hla
      have hn1:=hla
      rw [filL_all]
      have hll:(lstL b.ads).length=b.ads.length:=by simp [lstL]
      (have FX:=And.intro hla (And.intro hn1 (And.intro hga hgb));repeat'(first|(refine sx ?_ ?_<;>intro h<;>first|(exfalso;omega)|skip)|refine ny ?_|refine WA_block ?_|(refine uB16_57_8 ?_;refine⟨by kernel_rfl,?_⟩)))
      all_goals(try(exfalso;omega))
      refine WA_whileP (σ:=Nat×List Int×Bst) (M:=M) [0,1,4] (fun _=>[.bp [.lst (mssV b.ms),.lst (adsV b.ads),.lst O,.lst RW,.lst MN] 0,.clo (.yield lp) [] [],.sl (M.length+4) b.ads.length]) (fun s=>[b10 s.2.2,b11 s.2.2,b12 s.2.2,LB,cI s.2.1]) 5 (fun s=>fwF b s.1 s.2.1 s.2.2=sF∧rkK b.ads s.2.1 b.ads.length<s.1∧stOk b.ads s.2.1) (fun s=>s.1) (rkK b.ads (lstL b.ads) b.ads.length+1,lstL b.ads,s0) ⟨hF,Nat.lt_succ_self _,lstL_ok hw⟩ tv_ rfl (fun _=>rfl) (by intro s s' _ _;simp [conB,conS,V.keeps,V.plain,Blk.flat,flatL,plainL,V.flat]) (fun _ _ _ _=>⟨.inl (b10_flat _),.inl (b11_flat _),.inl (b12_flat _),.inr rfl,.inl (cI_flat _),trivial⟩) ?_
      rintro⟨f,l,s⟩ ⟨hf,hrk,hok⟩ K2 hK2
      dsimp only at hf hrk hok
      dsimp only
      obtain⟨f,rfl⟩:∃ f',f=f'+1:=⟨f - 1,by omega⟩
      have hys:=fun R h=>hy s l hok R h
      rw [hok.1] at hys
      have hna:nxA b.ads l=(match crL b.ads b.ads.length l with|(l',some k)=>some (l'.set k (l'.getD k 0+1))|(_,none)=>none):=rfl
      have hnk:∀ l2,nxA b.ads l=some l2→stOk b.ads l2∧rkK b.ads l2 b.ads.length<f:=fun l2 h=>⟨nxA_ok hok hw h,by have:=nxA_rank hok hw h;omega⟩
      unfold fwF at hf
      clear hy hK
      generalize updB b l s=s' at *
      simp only [zipT]
      clear FX hga hgb hn1
      have hga:=hla
      have hgb:=hla
      have hn1:=hla
      (have FX:=And.intro hla (And.intro hn1 (And.intro hga hgb));repeat'(first|(refine sx ?_ ?_<;>intro h<;>first|(exfalso;omega)|skip)|refine ny ?_|refine WA_block ?_|(refine uB16_57_8 ?_;refine⟨by kernel_rfl,?_⟩)))
      refine s_yld (hys _ fun ext=>?_)
      simp only [Option.getD_some]
      (have FX:=And.intro hla (And.intro hn1 (And.intro hga hgb));repeat'(first|(refine sx ?_ ?_<;>intro h<;>first|(exfalso;omega)|skip)|refine ny ?_|refine WA_block ?_|(refine uB16_57_8 ?_;refine⟨by kernel_rfl,?_⟩)))
      all_goals(try(exfalso;omega))
      refine WA_whileP (σ:=Nat×List Int) (M:=M) [0,1,4,7] (fun p=>[.bp [.lst (mssV b.ms),.lst (adsV b.ads),.lst O,.lst RW,.lst MN] 0,.clo (.yield lp) [] [],.sl (M.length+4) b.ads.length,.int .i64 ((p.1:Int) - 1)]) (fun p=>b10 s'::b11 s'::b12 s'::LB::cI p.2::ext) (ext.length+5) (fun p=>p.1≤b.ads.length∧p.2.length=b.ads.length∧crL b.ads p.1 p.2=crL b.ads b.ads.length l) (fun p=>p.1) (b.ads.length,l) ⟨Nat.le_refl _,hok.1,rfl⟩ tv_ rfl (fun _=>rfl) (by intro s s' _ _;simp [conB,conS,V.keeps,V.plain,Blk.flat,flatL,plainL,V.flat]) (fun _ _ _ _=>⟨.inr rfl,.inr rfl,.inr rfl,.inr rfl,.inl (cI_flat _),conB_refl _⟩) ?_
      rintro⟨k,l'⟩ ⟨hk1,hl',hcr⟩ K3 hK3
      dsimp only at hk1 hl' hcr
      dsimp only
      clear FX hga hgb hn1 hys
      cases k with
      | zero=>
        have hnn:nxA b.ads l=none:=by rw [hna,←hcr];rfl
        rw [hnn] at hf
        dsimp only at hf
        subst hf
        have e0:((0:Nat):Int) - 1= -1:=by omega
        simp only [zipT,e0]
        have hga:=hla
        have hgb:=hla
        have hn1:=hla
        (have FX:=And.intro hla (And.intro hn1 (And.intro hga hgb));repeat'(first|(refine sx ?_ ?_<;>intro h<;>first|(exfalso;omega)|skip)|refine ny ?_|refine WA_block ?_|(refine uB16_57_8 ?_;refine⟨by kernel_rfl,?_⟩)))
        all_goals(try(exfalso;omega))
        all_goals(exact hQ _ _ _ (by first|exact .inl rfl|exact .inr rfl) _ rfl ⟨_,rfl⟩)
      | succ k=>
        have hk:k<b.ads.length:=by omega
        have e1:((k+1:Nat):Int) - 1=(k:Int):=by omega
        simp only [zipT,e1,cI]
        have hga:=adsV_get hk
        have hgc:=nsV_get (l:=l') (i:=k) (by omega)
        have hgb:(nsV l')[k]?=some [V.int .i64 (l'.getD k 0)]∧(nsV l').length=b.ads.length:=⟨hgc,by rw [nsV_length];exact hl'⟩
        clear hgc
        have hn1:=hla
        have hbm:=hb.mo k hk
        have hbl:=hb.le k hk
        rw [crL_succ] at hcr
        generalize hx:b.ads.getD k adz=x at *
        obtain⟨nm,ef,le,mo,pa,af⟩:=x
        unfold adV at hga
        dsimp only at hga hcr hbm hbl
        by_cases hm:l'.getD k 0=mo
        · rw [if_pos hm] at hcr
          (have FX:=And.intro hla (And.intro hn1 (And.intro hga hgb));repeat'(first|(refine sx ?_ ?_<;>intro h<;>first|(exfalso;omega)|skip)|refine ny ?_|refine WA_block ?_|(refine uB16_57_8 ?_;refine⟨by kernel_rfl,?_⟩)))
          all_goals(try(exfalso;omega))
          all_goals(refine nextP_ hK3 (k,l'.set k le) ⟨by omega,by simp [hl'],hcr⟩ (Nat.lt_succ_self _) (ext:=[]) (hm:=by simp only [cI,nsV_set,List.append_nil]))
        · rw [if_neg hm] at hcr
          have hnn:nxA b.ads l=some (l'.set k (l'.getD k 0+1)):=by rw [hna,←hcr]
          obtain⟨n1,n2⟩:=hnk _ hnn
          rw [hnn] at hf
          dsimp only at hf
          have hlb: -1000≤l'.getD k 0+1∧l'.getD k 0+1≤1000:=by
            have h1:=n1.2 k hk
            rw [getD_set,if_pos ⟨rfl,by omega⟩,hx] at h1
            dsimp only at h1
            omega
          clear hna hnn hnk
          generalize l'.getD k 0=lk at *
          (have FX:=And.intro hla (And.intro hn1 (And.intro hga hgb));repeat'(first|(refine sx ?_ ?_<;>intro h<;>first|(exfalso;omega)|skip)|refine ny ?_|refine WA_block ?_|(refine uB16_57_8 ?_;refine⟨by kernel_rfl,?_⟩)))
          all_goals(try(exfalso;omega))
          all_goals(refine nextP_ hK2 (f,l'.set k (lk+1),s') ⟨hf,n2,n1⟩ (Nat.lt_succ_self _) (hm:=by simp only [cI,nsV_set];rfl))
/-- how far a measure is from the middle, doubled -/
def farP(va by_ lo hi s:Int):Int:=((2 * (va+by_ * s) - lo - hi).natAbs:Int)
def stepN(ok:Int→Bool)(far:Int→Int)(s:Int)(p:Int×Bool):Int×Bool:=if ok s=true then (if p.2=false∨far s<far p.1 then (s,true) else p) else p
def nrK(ok:Int→Bool)(far:Int→Int):Nat→Int×Bool
  |0=>(0,false)
  |n+1=>stepN ok far n (stepN ok far (-(n:Int)) (nrK ok far n))
theorem stepN_bd{ok:Int→Bool}{far:Int→Int}{s:Int}{p:Int×Bool}{c:Int}(hs: -c≤s∧s≤c)(hp: -c≤p.1∧p.1≤c): -c≤(stepN ok far s p).1∧(stepN ok far s p).1≤c:=by
  unfold stepN
  split
  · split
    · exact hs
    · exact hp
  · exact hp
theorem nrK_bd(ok:Int→Bool)(far:Int→Int):∀ n:Nat, -(n:Int)≤(nrK ok far n).1∧(nrK ok far n).1≤n
  |0=>by simp [nrK]
  | n+1=>by
    have ih:=nrK_bd ok far n
    exact stepN_bd (by omega) (stepN_bd (by omega) (by omega))
def okS(a:AdR)(x s:Int):Bool:=decide (a.least≤x+s∧x+s≤a.most)
/-- how many more steps bring a measure nearest to its middle -/
def nearP(b:BnR)(l:List Int)(i j:Nat):Int:=(nrK (okS (b.ads.getD i adz) (l.getD i 0)) (farP (valP b l j) (byN b i j) (b.ms.getD j msz).low (b.ms.getD j msz).high) ((b.ads.getD i adz).pass.toNat+1)).1
def nrJ(ok:Int→Bool)(far:Int→Int)(n:Nat)(p:Int×Bool):Nat→Int×Bool
  |0=>p
  |1=>stepN ok far (-(n:Int)) p
  |_+2=>stepN ok far n (stepN ok far (-(n:Int)) p)
theorem stepN_e1{ok:Int→Bool}{far:Int→Int}{s:Int}{p:Int×Bool}(h:ok s=false):stepN ok far s p=p:=by unfold stepN;rw [if_neg (by rw [h];decide)]
theorem stepN_e2{ok:Int→Bool}{far:Int→Int}{s:Int}{p:Int×Bool}(h:ok s=true)(h2:p.2=false∨far s<far p.1):stepN ok far s p=(s,true):=by unfold stepN;rw [if_pos h,if_pos h2]
theorem stepN_e3{ok:Int→Bool}{far:Int→Int}{s:Int}{p:Int×Bool}(h1:p.2=true)(h2:¬ far s<far p.1):stepN ok far s p=p:=by
  unfold stepN
  split
  · rw [if_neg (by rw [h1];rintro(h|h);cases h;exact h2 h)]
  · rfl

theorem gnear1_c(va by_ yv lo hi s:Int)(nm:Txt)(h1: -13000000≤va∧va≤13000000)(h2: -1000≤by_∧by_≤1000)(h3: -1000≤s∧s≤1000)(h4: -100000≤lo∧lo≤100000)(h5: -100000≤hi∧hi≤100000)(M:Mem)(k9 k10 k8:Nat){s9 s10 s8:Sta}
    (h9:M[k9]?=some (.cells s9 3 1 [[.int .i64 va]]):=by first|exact ev_|fail) (h10:M[k10]?=some (.cells s10 3 1 [[.int .i64 by_]]):=by first|exact ev_|fail) (h8:M[k8]?=some (.cells s8 75 4 [[.str nm,.int .i64 yv,.int .i64 lo,.int .i64 hi]]):=by first|exact ev_|fail):
    Gives Tryz.prog 116 [.int .i64 s,.ptr k9 0 0,.ptr k10 0 0,.ptr k8 0 0] M (.int .i64 (farP va by_ lo hi s)):=by
  have h9:=lend_get2 h9
  have h10:=lend_get2 h10
  have h8:=lend_get2 h8
  have hmb:=mul_bd (a:=1000) (c:=1000) (by decide) h2 h3
  unfold farP
  refine Gives_in Tryz.func116 rfl Tryz.ntmps116 Tryz.results116 (by kernel_rfl) (by simp) rfl fun Q hQ=>?_
  (have FX:=And.intro h9 (And.intro h10 h8);repeat'(first|(refine sx ?_ ?_<;>intro h<;>first|(exfalso;omega)|skip)|(refine g_op ?_;refine g_call ?_;refine g_args ?_;(first|refine s_fn (gsize_c _ (by omega) (by omega) _) ?_)<;>try first|omega|assumption)|refine ny ?_|refine WA_block ?_))
  all_goals((refine r_es hQ ?_;try with_reducible rfl))
theorem uB18_97_1{N:Nat}{l:List Oper}{t:List (Nat×V)}{m:Mem}{Q:Exit→List (Nat×V)→Mem→Prop}(h:RgN Tryz.prog N l t m Q (fun i=>if i==24 || i==25 then .f else if i==22 || i==23 then .a else if i==4 || i==7 || i==12 || i==16 || i==19 || i==21 then .q else .p) [.one 0,.one 1,.one 2,.one 3,.one 4,.one 5,.one 6,.one 7,.one 8,.one 9,.one 10,.one 11,.one 12,.one 13,.one 14,.one 15,.one 16,.one 17,.one 18,.one 19,.one 20,.one 21,.grp true [] [22,23],.one 24,.one 25]):WA Tryz.prog N (.region 1 l.toArray true) t m Q:=d_rgN h
theorem uB18_97_2{N:Nat}{l:List Oper}{t:List (Nat×V)}{m:Mem}{Q:Exit→List (Nat×V)→Mem→Prop}(h:RgN Tryz.prog N l t m Q (fun i=>if i==28 || i==29 then .f else if i==26 || i==27 then .a else if i==4 || i==7 || i==9 || i==13 || i==16 || i==20 || i==23 || i==25 then .q else .p) [.one 0,.one 1,.one 2,.one 3,.one 4,.one 5,.one 6,.one 7,.one 8,.one 9,.one 10,.one 11,.one 12,.one 13,.one 14,.one 15,.one 16,.one 17,.one 18,.one 19,.one 20,.one 21,.one 22,.one 23,.one 24,.one 25,.grp true [] [26,27],.one 28,.one 29]):WA Tryz.prog N (.region 2 l.toArray true) t m Q:=d_rgN h
theorem uB18_97_10{N:Nat}{l:List Oper}{t:List (Nat×V)}{m:Mem}{Q:Exit→List (Nat×V)→Mem→Prop}(h:RgN Tryz.prog N l t m Q (fun i=>if i==3 || i==7 || i==9 || i==10 || i==11 then .q else .p) [.one 0,.one 1,.one 2,.one 3,.one 4,.one 5,.one 6,.one 7,.one 8,.one 9,.one 10,.one 11]):WA Tryz.prog N (.region 10 l.toArray true) t m Q:=d_rgN h
theorem gnear_c (b:BnR) (hb:Bnd b) (l:List Int) (hst:stOk b.ads l) (i j:Nat) (hi:i<b.ads.length) (hj:j<b.ms.length) (hmj:mainL b.ms (b.ads.getD i adz).effs=(j:Int)) (m:Mem):Gives Tryz.prog 97 [.bp (bxC b) 0,.int .i64 i,.lst (nsV l)] m (.int .i64 (nearP b l i j)):=by
  have hln:=nsV_length (l:=l)
  have hla:=adsV_length (l:=b.ads)
  have hlm:=mssV_length (l:=b.ms)
  have hlw:(rwV (rowsB b.ms b.ads)).length=b.ads.length:=by rw [rwV_length,rowsB_length]
  have hlk:(nsV (mnsB b.ms b.ads)).length=b.ads.length:=by rw [nsV_length,mnsB_length]
  have hll:=hst.1
  have hls:=steps_bd hb hst.2
  have hval:=fun m=>gvalue_c b hb l hll hls j hj m
  have hvb:=valP_bd hb hj hls
  have hga:=adsV_get hi
  have hgm:=mssV_get hj
  have hgn:=nsV_get (l:=mnsB b.ms b.ads) (i:=i) (by rw [mnsB_length];exact hi)
  rw [mnsB_get hi,hmj] at hgn
  have hgw:=rwV_get (l:=rowsB b.ms b.ads) (i:=i) (by rw [rowsB_length];exact hi)
  rw [rowsB_get hi] at hgw
  have hgl:=nsV_get (l:=l) (i:=i) (by omega)
  have hlr:(nsV (rowL b.ms (b.ads.getD i adz).effs)).length=b.ms.length:=by rw [nsV_length,rowL_length]
  have hgr:(nsV (rowL b.ms (b.ads.getD i adz).effs))[j]?=some [V.int .i64 (byN b i j)]∧(nsV (rowL b.ms (b.ads.getD i adz).effs)).length=b.ms.length:=⟨by
    have h:=nsV_get (l:=rowL b.ms (b.ads.getD i adz).effs) (i:=j) (by rw [rowL_length];exact hj)
    rw [rowL_get hj] at h
    exact h,hlr⟩
  have hby:=hb.by_ i j
  obtain⟨_,hlo,hhi⟩:=hb.va j hj
  have hlo: -100000≤(b.ms.getD j msz).low∧(b.ms.getD j msz).low≤100000:=by omega
  have hhi: -100000≤(b.ms.getD j msz).high∧(b.ms.getD j msz).high≤100000:=by omega
  have hpa:=hb.pa i hi
  have hst2:=hst.2 i hi
  have hle:=hb.le i hi
  have hmo:=hb.mo i hi
  have hms:=hb.fm
  have has:=hb.fa
  have hrl:=hlr
  clear hlr hmj
  unfold nearP okS bxC at *
  generalize nsV (rowL b.ms (b.ads.getD i adz).effs)=RL at *
  generalize rwV (rowsB b.ms b.ads)=RW at *
  generalize nsV (mnsB b.ms b.ads)=MN at *
  generalize nuV (ordB b.ads)=O at *
  generalize byN b i j=byj at *
  generalize valP b l j=vj at *
  generalize l.getD i 0=li at *
  generalize b.ms.getD j msz=y at *
  obtain⟨ynm,yv,lo,hi'⟩:=y
  generalize b.ads.getD i adz=x at *
  obtain⟨nm,ef,le,mo,pa,af⟩:=x
  unfold msV at hgm
  unfold adV at hga
  dsimp only at hgm hga hpa hst2 hle hmo hlo hhi ⊢
  obtain⟨p,rfl⟩:∃ p:Nat,pa=(p:Int):=⟨pa.toNat,by omega⟩
  have hpt:((p:Int)).toNat+1=p+1:=by omega
  rw [hpt]
  refine Gives_in Tryz.func97 rfl Tryz.ntmps97 Tryz.results97 (by kernel_rfl) (by simp) rfl fun Q hQ=>?_
  (have FX:=And.intro hln (And.intro hla (And.intro hlm (And.intro hlw (And.intro hlk (And.intro hga (And.intro hgm (And.intro hgn (And.intro hgw (And.intro hgr hgl)))))))));repeat'(first|(refine sx ?_ ?_<;>intro h<;>first|(exfalso;omega)|skip)|(refine g_op ?_;refine g_call ?_;refine g_args ?_;(first|refine s_fn (hval _) ?_|refine s_fn (gwithin_c _ _ _ _) ?_)<;>try first|omega|assumption)|(refine g_op ?_;refine g_dyn ?_;refine g_dargs ?_;first|(refine s_fn (gnear1_c vj byj yv lo hi' _ ynm hvb hby (by omega) hlo hhi _ ((lend m).length+6) ((lend m).length+7) ((lend m).length+3)) ?_<;>try first|omega|assumption))|refine ny ?_|refine WA_block ?_|(refine uB18_97_1 ?_;refine⟨by kernel_rfl,?_⟩)|(refine uB18_97_2 ?_;refine⟨by kernel_rfl,?_⟩)|(refine uB18_97_10 ?_;refine⟨by kernel_rfl,?_⟩)|((first|refine grp_cons (fun _=>hval _) ?_|refine grp_cons (fun _=>gwithin_c _ _ _ _) ?_)<;>try first|omega|assumption)|(refine g_d ?_;refine d_args ?_;(first|refine d_fn (hval _) ?_|refine d_fn (gwithin_c _ _ _ _) ?_|refine d_fnQ (fun _=>hval _) ?_|refine d_fnQ (fun _=>gwithin_c _ _ _ _) ?_)<;>try first|omega|assumption)|(refine g_d ?_;(first|refine d_fnY (hval _) ?_|refine d_fnY (gwithin_c _ _ _ _) ?_)<;>try first|omega|assumption)|(refine g_d ?_;first|(refine d_dyn (gnear1_c vj byj yv lo hi' _ ynm hvb hby (by omega) hlo hhi _ ((lend m).length+6) ((lend m).length+7) ((lend m).length+3)) ?_<;>try first|omega|assumption)|(refine d_dynY (gnear1_c vj byj yv lo hi' _ ynm hvb hby (by omega) hlo hhi _ ((lend m).length+6) ((lend m).length+7) ((lend m).length+3)) ?_<;>try first|omega|assumption))))
  all_goals(try(exfalso;omega))
  have hokd:∀ s,(fun s=>decide (le≤li+s∧li+s≤mo)) s=decide (le≤li+s∧li+s≤mo):=fun _=>rfl
  generalize (fun s=>decide (le≤li+s∧li+s≤mo))=ok at *
  refine WA_while (σ:=Nat) [1,2,7,8,9,10,11,12,67,68] (fun n=>[.int .i64 i,.lst (nsV l),.ptr ((lend m).length+2) 0 0,.ptr ((lend m).length+3) 0 0,.ptr ((lend m).length+6) 0 0,.ptr ((lend m).length+7) 0 0,.int .i64 (nrK ok (farP vj byj lo hi') n).1,.bool (nrK ok (farP vj byj lo hi') n).2,.int .i64 ((p:Int)+1),.int .i64 n]) (fun _=>lend m++[.dead,.dead,.cells .own 78 6 [[.str nm,.lst (efsV ef),.int .i64 le,.int .i64 mo,.int .i64 p,.lst (tsV af)]],.cells .own 75 4 [[.str ynm,.int .i64 yv,.int .i64 lo,.int .i64 hi']],.dead,.dead,.cells .own 3 1 [[.int .i64 vj]],.cells .own 3 1 [[.int .i64 byj]]]) (fun n=>n≤p+1) (fun n=>p+1 - n) 0 (Nat.zero_le _) tv_ rfl ?_
  rintro n hn L hL
  simp only [zipT]
  have hgl00:=hgl
  clear FX hga hgm hgn hgw hgr hgl hval
  have hga:=hla;have hgm:=hla;have hgn:=hla;have hgw:=hla;have hgr:=hla;have hval:=hla
  have hgl0:=hgl00
  have hgl:=hla
  rcases Nat.lt_or_ge n (p+1) with hlt|hge
  · have hnb:=nrK_bd ok (farP vj byj lo hi') n
    have hsu:nrK ok (farP vj byj lo hi') (n+1)=stepN ok (farP vj byj lo hi') n (stepN ok (farP vj byj lo hi') (-(n:Int)) (nrK ok (farP vj byj lo hi') n)):=rfl
    generalize nrK ok (farP vj byj lo hi') n=p0 at *
    (have FX:=And.intro hln (And.intro hla (And.intro hlm (And.intro hlw (And.intro hlk (And.intro hga (And.intro hgm (And.intro hgn (And.intro hgw (And.intro hgr hgl)))))))));repeat'(first|(refine sx ?_ ?_<;>intro h<;>first|(exfalso;omega)|skip)|(refine g_op ?_;refine g_call ?_;refine g_args ?_;(first|refine s_fn (hval _) ?_|refine s_fn (gwithin_c _ _ _ _) ?_)<;>try first|omega|assumption)|(refine g_op ?_;refine g_dyn ?_;refine g_dargs ?_;first|(refine s_fn (gnear1_c vj byj yv lo hi' _ ynm hvb hby (by omega) hlo hhi _ ((lend m).length+6) ((lend m).length+7) ((lend m).length+3)) ?_<;>try first|omega|assumption))|refine ny ?_|refine WA_block ?_|(refine uB18_97_1 ?_;refine⟨by kernel_rfl,?_⟩)|(refine uB18_97_2 ?_;refine⟨by kernel_rfl,?_⟩)|(refine uB18_97_10 ?_;refine⟨by kernel_rfl,?_⟩)|((first|refine grp_cons (fun _=>hval _) ?_|refine grp_cons (fun _=>gwithin_c _ _ _ _) ?_)<;>try first|omega|assumption)|(refine g_d ?_;refine d_args ?_;(first|refine d_fn (hval _) ?_|refine d_fn (gwithin_c _ _ _ _) ?_|refine d_fnQ (fun _=>hval _) ?_|refine d_fnQ (fun _=>gwithin_c _ _ _ _) ?_)<;>try first|omega|assumption)|(refine g_d ?_;(first|refine d_fnY (hval _) ?_|refine d_fnY (gwithin_c _ _ _ _) ?_)<;>try first|omega|assumption)|(refine g_d ?_;first|(refine d_dyn (gnear1_c vj byj yv lo hi' _ ynm hvb hby (by omega) hlo hhi _ ((lend m).length+6) ((lend m).length+7) ((lend m).length+3)) ?_<;>try first|omega|assumption)|(refine d_dynY (gnear1_c vj byj yv lo hi' _ ynm hvb hby (by omega) hlo hhi _ ((lend m).length+6) ((lend m).length+7) ((lend m).length+3)) ?_<;>try first|omega|assumption))))
    all_goals(try(exfalso;omega))
    refine WA_while (σ:=Nat) [1,2,7,8,9,10,11,12,67,68,74,75] (fun j=>[.int .i64 i,.lst (nsV l),.ptr ((lend m).length+2) 0 0,.ptr ((lend m).length+3) 0 0,.ptr ((lend m).length+6) 0 0,.ptr ((lend m).length+7) 0 0,.int .i64 (nrJ ok (farP vj byj lo hi') n p0 j).1,.bool (nrJ ok (farP vj byj lo hi') n p0 j).2,.int .i64 ((p:Int)+1),.int .i64 n,.agg [.int .i64 (-(n:Int)),.int .i64 n],.int .i64 j]) (fun _=>lend m++[.dead,.dead,.cells .own 78 6 [[.str nm,.lst (efsV ef),.int .i64 le,.int .i64 mo,.int .i64 p,.lst (tsV af)]],.cells .own 75 4 [[.str ynm,.int .i64 yv,.int .i64 lo,.int .i64 hi']],.dead,.dead,.cells .own 3 1 [[.int .i64 vj]],.cells .own 3 1 [[.int .i64 byj]]]) (fun j=>j≤2) (fun j=>2 - j) 0 (Nat.zero_le _) tv_ rfl ?_
    rintro q hq L2 hL2
    simp only [zipT]
    clear FX hgl
    rcases q with _|_|_|q
    · have hgl:=hgl0
      have hsn:nrJ ok (farP vj byj lo hi') n p0 1=stepN ok (farP vj byj lo hi') (-(n:Int)) p0:=rfl
      have hs0:nrJ ok (farP vj byj lo hi') n p0 0=p0:=rfl
      have hokn:=hokd (-(n:Int))
      rw [hs0]
      have e2:=fun h=>stepN_e2 (far:=farP vj byj lo hi') (p:=p0) (h:ok (-(n:Int))=true)
      have e1:=fun h=>stepN_e1 (far:=farP vj byj lo hi') (p:=p0) (h:ok (-(n:Int))=false)
      have e3:=stepN_e3 (ok:=ok) (far:=farP vj byj lo hi') (s:= -(n:Int)) (p:=p0)
      cases hp2:p0.2
      all_goals
        (have FX:=And.intro hln (And.intro hla (And.intro hlm (And.intro hlw (And.intro hlk (And.intro hga (And.intro hgm (And.intro hgn (And.intro hgw (And.intro hgr hgl)))))))));repeat'(first|(refine sx ?_ ?_<;>intro h<;>first|(exfalso;omega)|skip)|(refine g_op ?_;refine g_call ?_;refine g_args ?_;(first|refine s_fn (hval _) ?_|refine s_fn (gwithin_c _ _ _ _) ?_)<;>try first|omega|assumption)|(refine g_op ?_;refine g_dyn ?_;refine g_dargs ?_;first|(refine s_fn (gnear1_c vj byj yv lo hi' _ ynm hvb hby (by omega) hlo hhi _ ((lend m).length+6) ((lend m).length+7) ((lend m).length+3)) ?_<;>try first|omega|assumption))|refine ny ?_|refine WA_block ?_|(refine uB18_97_1 ?_;refine⟨by kernel_rfl,?_⟩)|(refine uB18_97_2 ?_;refine⟨by kernel_rfl,?_⟩)|(refine uB18_97_10 ?_;refine⟨by kernel_rfl,?_⟩)|((first|refine grp_cons (fun _=>hval _) ?_|refine grp_cons (fun _=>gwithin_c _ _ _ _) ?_)<;>try first|omega|assumption)|(refine g_d ?_;refine d_args ?_;(first|refine d_fn (hval _) ?_|refine d_fn (gwithin_c _ _ _ _) ?_|refine d_fnQ (fun _=>hval _) ?_|refine d_fnQ (fun _=>gwithin_c _ _ _ _) ?_)<;>try first|omega|assumption)|(refine g_d ?_;(first|refine d_fnY (hval _) ?_|refine d_fnY (gwithin_c _ _ _ _) ?_)<;>try first|omega|assumption)|(refine g_d ?_;first|(refine d_dyn (gnear1_c vj byj yv lo hi' _ ynm hvb hby (by omega) hlo hhi _ ((lend m).length+6) ((lend m).length+7) ((lend m).length+3)) ?_<;>try first|omega|assumption)|(refine d_dynY (gnear1_c vj byj yv lo hi' _ ynm hvb hby (by omega) hlo hhi _ ((lend m).length+6) ((lend m).length+7) ((lend m).length+3)) ?_<;>try first|omega|assumption))))
        all_goals(try(exfalso;first|omega|contradiction))
        all_goals first
          |(refine next_ hL2 1 (by omega) (by omega) (by rw [hsn,e2 (by rw [hokn];exact decide_eq_true (by assumption)) (by first|exact .inl hp2|exact .inr (by assumption))];exact tv_);done)
          |(refine next_ hL2 1 (by omega) (by omega) (by rw [hsn,e1 (by rw [hokn];exact decide_eq_false (by assumption))];simp only [hp2];exact tv_);done)
          |(refine next_ hL2 1 (by omega) (by omega) (by rw [hsn,e3 hp2 (by assumption)];simp only [hp2];exact tv_);done)
    · have hgl:=hgl0
      have hsn:nrJ ok (farP vj byj lo hi') n p0 2=stepN ok (farP vj byj lo hi') n (nrJ ok (farP vj byj lo hi') n p0 1):=rfl
      have hbd1: -(n:Int)≤(nrJ ok (farP vj byj lo hi') n p0 1).1∧(nrJ ok (farP vj byj lo hi') n p0 1).1≤n:=stepN_bd (by omega) hnb
      have hokn:=hokd (n:Int)
      have e2:=fun h=>stepN_e2 (far:=farP vj byj lo hi') (p:=nrJ ok (farP vj byj lo hi') n p0 1) (h:ok (n:Int)=true)
      have e1:=fun h=>stepN_e1 (far:=farP vj byj lo hi') (p:=nrJ ok (farP vj byj lo hi') n p0 1) (h:ok (n:Int)=false)
      have e3:=stepN_e3 (ok:=ok) (far:=farP vj byj lo hi') (s:=(n:Int)) (p:=nrJ ok (farP vj byj lo hi') n p0 1)
      generalize nrJ ok (farP vj byj lo hi') n p0 1=p1 at *
      cases hp2:p1.2
      all_goals
        (have FX:=And.intro hln (And.intro hla (And.intro hlm (And.intro hlw (And.intro hlk (And.intro hga (And.intro hgm (And.intro hgn (And.intro hgw (And.intro hgr hgl)))))))));repeat'(first|(refine sx ?_ ?_<;>intro h<;>first|(exfalso;omega)|skip)|(refine g_op ?_;refine g_call ?_;refine g_args ?_;(first|refine s_fn (hval _) ?_|refine s_fn (gwithin_c _ _ _ _) ?_)<;>try first|omega|assumption)|(refine g_op ?_;refine g_dyn ?_;refine g_dargs ?_;first|(refine s_fn (gnear1_c vj byj yv lo hi' _ ynm hvb hby (by omega) hlo hhi _ ((lend m).length+6) ((lend m).length+7) ((lend m).length+3)) ?_<;>try first|omega|assumption))|refine ny ?_|refine WA_block ?_|(refine uB18_97_1 ?_;refine⟨by kernel_rfl,?_⟩)|(refine uB18_97_2 ?_;refine⟨by kernel_rfl,?_⟩)|(refine uB18_97_10 ?_;refine⟨by kernel_rfl,?_⟩)|((first|refine grp_cons (fun _=>hval _) ?_|refine grp_cons (fun _=>gwithin_c _ _ _ _) ?_)<;>try first|omega|assumption)|(refine g_d ?_;refine d_args ?_;(first|refine d_fn (hval _) ?_|refine d_fn (gwithin_c _ _ _ _) ?_|refine d_fnQ (fun _=>hval _) ?_|refine d_fnQ (fun _=>gwithin_c _ _ _ _) ?_)<;>try first|omega|assumption)|(refine g_d ?_;(first|refine d_fnY (hval _) ?_|refine d_fnY (gwithin_c _ _ _ _) ?_)<;>try first|omega|assumption)|(refine g_d ?_;first|(refine d_dyn (gnear1_c vj byj yv lo hi' _ ynm hvb hby (by omega) hlo hhi _ ((lend m).length+6) ((lend m).length+7) ((lend m).length+3)) ?_<;>try first|omega|assumption)|(refine d_dynY (gnear1_c vj byj yv lo hi' _ ynm hvb hby (by omega) hlo hhi _ ((lend m).length+6) ((lend m).length+7) ((lend m).length+3)) ?_<;>try first|omega|assumption))))
        all_goals(try(exfalso;first|omega|contradiction))
        all_goals first
          |(refine next_ hL2 2 (by omega) (by omega) (by rw [hsn,e2 (by rw [hokn];exact decide_eq_true (by assumption)) (by first|exact .inl hp2|exact .inr (by assumption))];exact tv_);done)
          |(refine next_ hL2 2 (by omega) (by omega) (by rw [hsn,e1 (by rw [hokn];exact decide_eq_false (by assumption))];simp only [hp2];exact tv_);done)
          |(refine next_ hL2 2 (by omega) (by omega) (by rw [hsn,e3 hp2 (by assumption)];simp only [hp2];exact tv_);done)
    · have hgl:=hgl0
      rw [show nrJ ok (farP vj byj lo hi') n p0 2=stepN ok (farP vj byj lo hi') n (stepN ok (farP vj byj lo hi') (-(n:Int)) p0) from rfl]
      (have FX:=And.intro hln (And.intro hla (And.intro hlm (And.intro hlw (And.intro hlk (And.intro hga (And.intro hgm (And.intro hgn (And.intro hgw (And.intro hgr hgl)))))))));repeat'(first|(refine sx ?_ ?_<;>intro h<;>first|(exfalso;omega)|skip)|(refine g_op ?_;refine g_call ?_;refine g_args ?_;(first|refine s_fn (hval _) ?_|refine s_fn (gwithin_c _ _ _ _) ?_)<;>try first|omega|assumption)|(refine g_op ?_;refine g_dyn ?_;refine g_dargs ?_;first|(refine s_fn (gnear1_c vj byj yv lo hi' _ ynm hvb hby (by omega) hlo hhi _ ((lend m).length+6) ((lend m).length+7) ((lend m).length+3)) ?_<;>try first|omega|assumption))|refine ny ?_|refine WA_block ?_|(refine uB18_97_1 ?_;refine⟨by kernel_rfl,?_⟩)|(refine uB18_97_2 ?_;refine⟨by kernel_rfl,?_⟩)|(refine uB18_97_10 ?_;refine⟨by kernel_rfl,?_⟩)|((first|refine grp_cons (fun _=>hval _) ?_|refine grp_cons (fun _=>gwithin_c _ _ _ _) ?_)<;>try first|omega|assumption)|(refine g_d ?_;refine d_args ?_;(first|refine d_fn (hval _) ?_|refine d_fn (gwithin_c _ _ _ _) ?_|refine d_fnQ (fun _=>hval _) ?_|refine d_fnQ (fun _=>gwithin_c _ _ _ _) ?_)<;>try first|omega|assumption)|(refine g_d ?_;(first|refine d_fnY (hval _) ?_|refine d_fnY (gwithin_c _ _ _ _) ?_)<;>try first|omega|assumption)|(refine g_d ?_;first|(refine d_dyn (gnear1_c vj byj yv lo hi' _ ynm hvb hby (by omega) hlo hhi _ ((lend m).length+6) ((lend m).length+7) ((lend m).length+3)) ?_<;>try first|omega|assumption)|(refine d_dynY (gnear1_c vj byj yv lo hi' _ ynm hvb hby (by omega) hlo hhi _ ((lend m).length+6) ((lend m).length+7) ((lend m).length+3)) ?_<;>try first|omega|assumption))))
      all_goals(try(exfalso;omega))
      all_goals(refine next_ hL (n+1) (by omega) (by omega) (by rw [hsu];exact tv_))
    · omega
  · obtain rfl:n=p+1:=by omega
    (have FX:=And.intro hln (And.intro hla (And.intro hlm (And.intro hlw (And.intro hlk (And.intro hga (And.intro hgm (And.intro hgn (And.intro hgw (And.intro hgr hgl)))))))));repeat'(first|(refine sx ?_ ?_<;>intro h<;>first|(exfalso;omega)|skip)|(refine g_op ?_;refine g_call ?_;refine g_args ?_;(first|refine s_fn (hval _) ?_|refine s_fn (gwithin_c _ _ _ _) ?_)<;>try first|omega|assumption)|(refine g_op ?_;refine g_dyn ?_;refine g_dargs ?_;first|(refine s_fn (gnear1_c vj byj yv lo hi' _ ynm hvb hby (by omega) hlo hhi _ ((lend m).length+6) ((lend m).length+7) ((lend m).length+3)) ?_<;>try first|omega|assumption))|refine ny ?_|refine WA_block ?_|(refine uB18_97_1 ?_;refine⟨by kernel_rfl,?_⟩)|(refine uB18_97_2 ?_;refine⟨by kernel_rfl,?_⟩)|(refine uB18_97_10 ?_;refine⟨by kernel_rfl,?_⟩)|((first|refine grp_cons (fun _=>hval _) ?_|refine grp_cons (fun _=>gwithin_c _ _ _ _) ?_)<;>try first|omega|assumption)|(refine g_d ?_;refine d_args ?_;(first|refine d_fn (hval _) ?_|refine d_fn (gwithin_c _ _ _ _) ?_|refine d_fnQ (fun _=>hval _) ?_|refine d_fnQ (fun _=>gwithin_c _ _ _ _) ?_)<;>try first|omega|assumption)|(refine g_d ?_;(first|refine d_fnY (hval _) ?_|refine d_fnY (gwithin_c _ _ _ _) ?_)<;>try first|omega|assumption)|(refine g_d ?_;first|(refine d_dyn (gnear1_c vj byj yv lo hi' _ ynm hvb hby (by omega) hlo hhi _ ((lend m).length+6) ((lend m).length+7) ((lend m).length+3)) ?_<;>try first|omega|assumption)|(refine d_dynY (gnear1_c vj byj yv lo hi' _ ynm hvb hby (by omega) hlo hhi _ ((lend m).length+6) ((lend m).length+7) ((lend m).length+3)) ?_<;>try first|omega|assumption))))
    all_goals(try(exfalso;omega))
    all_goals((refine r_es hQ ?_;try with_reducible rfl))
end Go.Proofs.YtookikhphobnlaaGreatDoor
