/- contract: the order of adjustments, in the reference -/
import Derived.Test.YtookikhphobnlaaGreatDoorGAM
set_option linter.unusedSimpArgs false
set_option linter.unusedVariables false
namespace Go.Proofs.YtookikhphobnlaaGreatDoor
open Go.RowKit
attribute [local irreducible] WA WOs WDs WAn qThen qBlock tput
set_option maxHeartbeats 1000000
set_option maxRecDepth 20000
set_option linter.unusedSimpArgs false
set_option linter.unusedVariables false
set_option maxHeartbeats 8000000
def roE(mm:List MsR)(ads:List AdR)(out:List Nat):List TB:= .cells .own 28 2 [[.v (.lst (mssV mm)),.v (.lst (adsV ads))]]::nuE out
theorem roE_ok{mm:List MsR}{ads:List AdR}{out:List Nat}:(roE mm ads out).all (TB.ok (roE mm ads out).length)=true:=by
  unfold roE
  cases out with
  |nil=>simp [TB.ok,TV.okT,nuE]
  |cons p r=>simp only [nuE,List.all_cons,TB.ok,TV.okT,List.all_nil,Bool.and_true,Bool.and_self,tvs_ok,List.length_cons,List.length_nil]
theorem roS_ok{mm:List MsR}{ads:List AdR}{out:List Nat}{l:List V}:(.ptr 0 0 0::nuSt 1 out::l.map TV.v).all (TV.okT (roE mm ads out).length)=true:=by
  have h:∀ n,(l.map TV.v).all (TV.okT n)=true:=fun n=>by simp [TV.okT]
  cases out with
  |nil=>simp only [roE,nuSt,nuE,List.all_cons,TV.okT,h,Bool.and_true,List.length_cons,List.length_nil];decide
  |cons p r=>simp only [roE,nuSt,nuE,List.all_cons,TV.okT,h,Bool.and_true,List.length_cons,List.length_nil];decide
def o2(out:List Nat)(n:Nat)(g:Bool):List Nat:=if g=true then out++[n] else out
/-- the first names of an adjustment that are chosen -/
def allK(ads:List AdR)(out:List Nat)(i:Nat)(k:Nat):Bool:=(List.range k).all fun k=>decide ((fdx (isA ((ads.getD i adz).after.getD k [])) ads).toNat∈out)
theorem allK_succ(ads:List AdR)(out:List Nat)(i k:Nat):allK ads out i (k+1)=(allK ads out i k && decide ((fdx (isA ((ads.getD i adz).after.getD k [])) ads).toNat∈out)):=by
  unfold allK;rw [List.range_succ,List.all_append];simp
theorem uB24_21_13{N:Nat}{l:List Oper}{t:List (Nat×V)}{m:Mem}{Q:Exit→List (Nat×V)→Mem→Prop}(h:RgN Tryz.prog N l t m Q (fun i=>if i==4 || i==6 || i==10 || i==13 || i==14 || i==15 then .q else .p) [.one 0,.one 1,.one 2,.one 3,.one 4,.one 5,.one 6,.one 7,.one 8,.one 9,.one 10,.one 11,.one 12,.one 13,.one 14,.one 15,.one 16,.one 17]):WA Tryz.prog N (.region 13 l.toArray true) t m Q:=d_rgN h
theorem rorder_c (mm:List MsR) (ads:List AdR) (h:Aln ads) (m:Mem):Gives Tryz.prog 21 [.agg [.lst (mssV mm),.lst (adsV ads)]] m (.lst (nuV (ordB ads))):=by
  have hla:=adsV_length (l:=ads)
  have hga:=hla
  have hgb:=hla
  have hll:=hla
  have hlt:=hla
  have hfa:=h.fa
  suffices key:CallA Tryz.prog 21 [.agg [.lst (mssV mm),.lst (adsV ads)]] m (fun v' mo=>v'=oV (nuV (ordB ads))∧mo=none) from Gives_weak key (wk_oV _)
  refine CallA_in Tryz.func21 rfl Tryz.ntmps21 Tryz.results21 (by kernel_rfl) (by simp) fun Q hQ=>?_
  (have FX:=And.intro hla (And.intro hga (And.intro hgb (And.intro hll hlt)));repeat'(first|(refine sx ?_ ?_<;>intro h<;>first|(exfalso;omega)|skip)|refine ny ?_|refine WA_block ?_|(refine uB24_21_13 ?_;refine⟨by kernel_rfl,?_⟩)))
  refine WA_whileJ (σ:=Nat×List Nat×Bool) (L:=lend m) (X:=[.cells .own 28 2 [[.lst (mssV mm),.lst (adsV ads)]]]) [1,3,4] (fun s=>[.ptr 0 0 0,nuSt 1 s.2.1,.v (.bool s.2.2)]) (fun s=>roE mm ads s.2.1) (fun s=>(∀ x∈s.2.1,x<ads.length)∧s.2.1.length≤ads.length∧(s.2.2=true→ordF ads s.1 s.2.1=ordB ads∧leftN ads s.2.1<s.1∧s.2.1.length+leftN ads s.2.1≤ads.length)∧(s.2.2=false→s.2.1=ordB ads)) (fun s=>if s.2.2=true then s.1+1 else 0) (ads.length+1,[],true) [0] ⟨(fun x hx=>by cases hx),by simp,(fun _=>⟨rfl,by have:=leftN_le ads [];dsimp only;omega,by have:=leftN_le ads [];dsimp only [List.length_nil];omega⟩),(fun hx=>by cases hx)⟩ ?_ rfl rfl (by decide) (by decide) (fun s _=>roS_ok (l:=[.bool s.2.2])) (fun _ _=>roE_ok) ?_
  · exact tv_
  rintro⟨f,out,g⟩ ⟨ho,hol0,hg1,hg2⟩ B ⟨D,hB⟩ K hK
  dsimp only at ho hol0 hg1 hg2
  dsimp only
  clear FX hga hgb hll hlt
  have hga:=hla
  have hgb:=hla
  cases g with
  | false=>
    have hf:=hg2 rfl
    rw [←hf] at hQ
    clear hK hg1 hg2 hf
    cases out with
    | nil=>
      have hll:=hla
      have hlt:=hla
      have e0:oV (nuV [])=V.nilsl:=rfl
      rw [e0] at hQ
      simp only [roE,nuSt,nuE]
      simp only [List.map_cons,List.map_nil,TB.inst,TV.inst,tv_map,zipT,List.cons_append,List.nil_append,Nat.add_zero]
      (have FX:=And.intro hla (And.intro hga (And.intro hgb (And.intro hll hlt)));repeat'(first|(refine sx ?_ ?_<;>intro h<;>first|(exfalso;omega)|skip)|refine ny ?_|refine WA_block ?_|(refine uB24_21_13 ?_;refine⟨by kernel_rfl,?_⟩)))
      all_goals(try(exfalso;omega))
      all_goals(refine r_esA hQ (.inl ⟨rfl,rfl,rfl⟩))
    | cons p r=>
      have hll:(nuV (p::r)).length=r.length+1:=nuV_length
      have hlt:=hla
      have e0:oV (nuV (p::r))= .lst (nuV (p::r)):=rfl
      rw [e0] at hQ
      simp only [roE,nuSt,nuE]
      simp only [List.map_cons,List.map_nil,TB.inst,TV.inst,tv_map,zipT,List.cons_append,List.nil_append,Nat.add_zero]
      (have FX:=And.intro hla (And.intro hga (And.intro hgb (And.intro hll hlt)));repeat'(first|(refine sx ?_ ?_<;>intro h<;>first|(exfalso;omega)|skip)|refine ny ?_|refine WA_block ?_|(refine uB24_21_13 ?_;refine⟨by kernel_rfl,?_⟩)))
      all_goals(try(exfalso;omega))
      all_goals(refine r_esA hQ ?_)
      all_goals(refine fin_sl (D:=D) (j:=1) hB rfl (by rw [hll];exact Nat.le_refl _) (by rw [List.take_of_length_le (by rw [hll];exact Nat.le_refl _)];exact nuV_plain _) ⟨?_,rfl⟩)
      all_goals(rw [List.take_of_length_le (by rw [hll];exact Nat.le_refl _)])
  | true=>
    obtain⟨hf,hlf,hol⟩:=hg1 rfl
    clear hg1 hg2
    obtain⟨f,rfl⟩:∃ f',f=f'+1:=⟨f - 1,by omega⟩
    have hn0:nxtI ads out=fdx (rdyA (outN ads out)) ads:=rfl
    unfold ordF at hf
    have hrd:∀ i,i<ads.length→rdyA (outN ads out) (ads.getD i adz)=rdyI ads out i:=fun i hi=>rdyI_eq h ho hi
    have hyes:∀ i,i<ads.length→(∀ j,j<i→rdyI ads out j=false)→rdyI ads out i=true→nxtI ads out=(i:Int)∧leftN ads (out++[i])<leftN ads out:=fun i hi h0 h1=>by
      refine⟨fdx_at hi (fun j hj=>?_) ((hrd i hi).trans h1),leftN_lt hi ((hrd i hi).trans h1)⟩
      rw [hrd j (by omega)];exact h0 j hj
    have hnot:(∀ j,j<ads.length→rdyI ads out j=false)→nxtI ads out= -1:=fun h0=>fdx_no fun j hj=>by rw [hrd j hj];exact h0 j hj
    have hmem:∀ i,i∈out→rdyI ads out i=false:=fun i hi=>by unfold rdyI;rw [decide_eq_true hi];rfl
    have hall:∀ i,i ∉ out→rdyI ads out i=allK ads out i (ads.getD i adz).after.length:=fun i hi=>by unfold rdyI;rw [decide_eq_false hi];rfl
    have hnx:=hK
    clear hK
    cases out with
    | nil =>
      have hll:=hla
      have hlt:=hla
      have e0:nuSt 1 []= .v .nilsl:=rfl
      simp only [roE,nuSt,nuE]
      simp only [List.map_cons,List.map_nil,TB.inst,TV.inst,tv_map,zipT,List.cons_append,List.nil_append,Nat.add_zero]
      (have FX:=And.intro hla (And.intro hga (And.intro hgb (And.intro hll hlt)));repeat'(first|(refine sx ?_ ?_<;>intro h<;>first|(exfalso;omega)|skip)|refine ny ?_|refine WA_block ?_|(refine uB24_21_13 ?_;refine⟨by kernel_rfl,?_⟩)))
      all_goals(try(exfalso;omega))
      refine WA_whileJ (σ:=Nat×Bool) (L:=B) (X:=[.cells .own 28 2 [[.lst (mssV mm),.lst (adsV ads)]]]) [1,3,4,5] (fun s=>[.ptr 0 0 0,nuSt 1 (o2 [] (nxtI ads []).toNat s.2),.v (.bool s.2),.v (.int .i64 s.1)]) (fun s=>roE mm ads (o2 [] (nxtI ads []).toNat s.2)) (fun s=>s.1≤ads.length∧(s.2=false→∀ j,j<s.1→rdyI ads [] j=false)∧(s.2=true→0≤nxtI ads []∧nxtI ads []<ads.length∧leftN ads ([]++[(nxtI ads []).toNat])<leftN ads [])) (fun s=>if s.2=true then 0 else ads.length - s.1+1) (0,false) [0] ⟨Nat.zero_le _,(fun _ j hj=>absurd hj (Nat.not_lt_zero _)),(fun hx=>by cases hx)⟩ ?_ ?_ rfl (by decide) (by decide) (fun s _=>roS_ok (l:=[.bool s.2,.int .i64 s.1])) (fun _ _=>roE_ok) ?_
      · exact tv_
      · simp only [o2,roE,nuE,List.map_cons,List.map_nil,TB.inst,TV.inst,tv_map,Bool.false_eq_true,if_false];rfl
      rintro⟨i,g2⟩ ⟨hi1,hi2,hi3⟩ B2 ⟨D2,hB2⟩ K2 hK2
      dsimp only at hi1 hi2 hi3
      dsimp only
      clear FX hga hgb hll hlt
      have hll:=hla
      have hlt:=hla
      have hga:=hla
      have hgb:=hla
      cases g2 with
      | true=>
        obtain⟨h0,h1,h2⟩:=hi3 rfl
        rw [if_neg (by omega)] at hf
        obtain⟨n1,hn1⟩:∃ n1:Nat,nxtI ads []=(n1:Int):=⟨(nxtI ads []).toNat,by omega⟩
        rw [hn1,Int.toNat_natCast] at hf h2 ⊢
        have hn1l:n1<ads.length:=by omega
        clear hi2 hi3 hyes hnot hmem hall hrd hK2
        subst hB2
        have hnz:=fun js t m h=>hnx (f,[]++[n1],true) _ t m (RoundEndT_up (D:=D2) (js:=js) h (roS_ok (l:=[.bool true])) roE_ok)
        have hny:=fun(_:Unit)=>hnz
        generalize B++D2=B3 at *
        have e1:o2 [] n1 true=[n1]:=rfl
        simp only [e1,roE,nuSt,nuE,List.length_nil,Nat.zero_add]
        simp only [List.map_cons,List.map_nil,TB.inst,TV.inst,tv_map,zipT,List.cons_append,List.nil_append,Nat.add_zero]
        (have FX:=And.intro hla (And.intro hga (And.intro hgb (And.intro hll hlt)));repeat'(first|(refine sx ?_ ?_<;>intro h<;>first|(exfalso;omega)|skip)|refine ny ?_|refine WA_block ?_|(refine uB24_21_13 ?_;refine⟨by kernel_rfl,?_⟩)))
        all_goals(try(exfalso;first|omega|contradiction))
        all_goals((refine nextU_ hny (()) [0,1] (⟨(fun x hx=>by rcases List.mem_append.1 hx with hx|hx;exact ho x hx;rw [List.mem_singleton.1 hx];exact hn1l),by simp only [List.length_append,List.length_cons,List.length_nil] at hol ⊢;omega,(fun _=>⟨hf,by dsimp only;omega,by simp only [List.length_append,List.length_cons,List.length_nil] at hol ⊢;omega⟩),(fun hx=>by cases hx)⟩) ((by simp)) ?_ (ht:=?_);(focus (simp only [roE,nuE,List.cons_append,List.nil_append,List.map_cons,List.map_nil,TB.inst,TV.inst,tv_map,List.cons_append,List.nil_append];first|rfl|(simp [ptsV,ptV];done)|(simp [hpsV,hpV];done)|(simp [frsV,frV];done)|(simp [txV];done)|(simp [prtsV,prtV];done)));(simp only [nuSt,List.cons_append,List.nil_append,List.map_cons,List.map_nil,TV.inst,List.getD_cons_zero,List.getD_cons_succ];exact tv_)))
      | false =>
        have hi2:=hi2 rfl
        clear hi3
        have e1:o2 [] (nxtI ads []).toNat false=[]:=rfl
        rw [e1]
        rcases Nat.lt_or_ge i ads.length with hi|hi
        · have hga:=adsV_get hi
          have hat:=(h.af i hi)
          have hlf:=tsV_length (l:=(ads.getD i adz).after)
          have hnm:=hmem i
          have hna:=hall i
          have hny1:=hyes i hi hi2
          have hup:=fun h=>up_false hi2 (h:rdyI ads [] i=false)
          have hnyF:=fun(_:Unit)=>hK2 (i+1,false)
          have hnyT:nxtI ads []=(i:Int)→∀ (_:Unit) (js:List Nat) (t:List (Nat×V)) (m:Mem),RoundEndT B2 [1,3,4,5] [.ptr 0 0 0,nuSt 1 ([]++[i]),.v (.bool true),.v (.int .i64 ((i+1:Nat):Int))] (roE mm ads ([]++[i])) js t m→(0:Int)≤nxtI ads []∧nxtI ads []<ads.length∧leftN ads ([]++[(nxtI ads []).toNat])<leftN ads []→True→K2 t m:=fun hni _ js t m h1 h2 _=>hK2 (i+1,true) js t m (by dsimp only;rw [hni,Int.toNat_natCast];exact h1) ⟨hi,(fun hx=>by cases hx),fun _=>h2⟩ (by simp)
          clear hK2
          unfold adV at hga
          simp only [roE,nuSt,nuE]
          simp only [List.map_cons,List.map_nil,TB.inst,TV.inst,tv_map,zipT,List.cons_append,List.nil_append,Nat.add_zero]
          have hadj:=hla
          (have FX:=And.intro hla (And.intro hga (And.intro hgb (And.intro hll hlt)));repeat'(first|(refine sx ?_ ?_<;>intro h<;>first|(exfalso;omega)|skip)|(refine g_op ?_;refine g_call ?_;refine g_args ?_;(first|refine s_fn (bhas_nil _ _) ?_|refine s_fn (hadj _) ?_)<;>try first|omega|assumption)|refine ny ?_|refine WA_block ?_|(refine uB24_21_13 ?_;refine⟨by kernel_rfl,?_⟩)|((first|refine grp_cons (fun _=>bhas_nil _ _) ?_|refine grp_cons (fun _=>hadj _) ?_)<;>try first|omega|assumption)|(refine g_d ?_;refine d_args ?_;(first|refine d_fn (bhas_nil _ _) ?_|refine d_fn (hadj _) ?_|refine d_fnQ (fun _=>bhas_nil _ _) ?_|refine d_fnQ (fun _=>hadj _) ?_)<;>try first|omega|assumption)|(refine g_d ?_;(first|refine d_fnY (bhas_nil _ _) ?_|refine d_fnY (hadj _) ?_)<;>try first|omega|assumption)))
          all_goals(try(exfalso;first|omega|contradiction))
          have hno:i ∉ ([]:List Nat):=by simp
          have hna:=hna hno
          generalize hLL:(ads.getD i adz).after=LL at *
          refine WA_while (σ:=Nat) [1,3,4,5,6,7] (fun k=>[.ptr B2.length 0 0,.nilsl,.bool false,.int .i64 i,.bool (allK ads [] i k),.int .i64 k]) (fun _=>B2++[.cells .own 28 2 [[.lst (mssV mm),.lst (adsV ads)]]]) (fun k=>k≤LL.length) (fun k=>LL.length - k) 0 (Nat.zero_le _) tv_ rfl ?_
          rintro k hk1 K3 hK3
          simp only [zipT]
          clear FX hgb hadj
          rcases Nat.lt_or_ge k LL.length with hk|hk
          · have hgb:=tsV_get hk
            have hq0:=hat.2 k hk
            obtain⟨q,hq⟩:∃ q:Nat,fdx (isA (LL.getD k [])) ads=(q:Int):=⟨(fdx (isA (LL.getD k [])) ads).toNat,by omega⟩
            have hadj:∀ m,Gives Tryz.prog 53 [.lst (adsV ads),.str (LL.getD k [])] m (.int .i64 (q:Int)):=fun m=>by have h1:=radjustmentat_c ads (LL.getD k []) (by omega) m;rw [hq] at h1;exact h1
            have hsu:=allK_succ ads [] i k
            rw [hLL,hq,Int.toNat_natCast] at hsu
            generalize LL.getD k []=s at *
            have hqn:decide (q∈([]:List Nat))=false:=by simp
            rw [hqn] at hsu
            cases hak:allK ads [] i k with
            | false=>
              rw [hak,Bool.false_and] at hsu
              (have FX:=And.intro hla (And.intro hga (And.intro hgb (And.intro hll hlt)));repeat'(first|(refine sx ?_ ?_<;>intro h<;>first|(exfalso;omega)|skip)|(refine g_op ?_;refine g_call ?_;refine g_args ?_;(first|refine s_fn (bhas_nil _ _) ?_|refine s_fn (hadj _) ?_)<;>try first|omega|assumption)|refine ny ?_|refine WA_block ?_|(refine uB24_21_13 ?_;refine⟨by kernel_rfl,?_⟩)|((first|refine grp_cons (fun _=>bhas_nil _ _) ?_|refine grp_cons (fun _=>hadj _) ?_)<;>try first|omega|assumption)|(refine g_d ?_;refine d_args ?_;(first|refine d_fn (bhas_nil _ _) ?_|refine d_fn (hadj _) ?_|refine d_fnQ (fun _=>bhas_nil _ _) ?_|refine d_fnQ (fun _=>hadj _) ?_)<;>try first|omega|assumption)|(refine g_d ?_;(first|refine d_fnY (bhas_nil _ _) ?_|refine d_fnY (hadj _) ?_)<;>try first|omega|assumption)))
              all_goals(try(exfalso;first|omega|contradiction))
              all_goals(refine next_ hK3 (k+1) hk (by omega) (by rw [hsu];exact tv_))
            | true=>
              rw [hak,Bool.true_and] at hsu
              (have FX:=And.intro hla (And.intro hga (And.intro hgb (And.intro hll hlt)));repeat'(first|(refine sx ?_ ?_<;>intro h<;>first|(exfalso;omega)|skip)|(refine g_op ?_;refine g_call ?_;refine g_args ?_;(first|refine s_fn (bhas_nil _ _) ?_|refine s_fn (hadj _) ?_)<;>try first|omega|assumption)|refine ny ?_|refine WA_block ?_|(refine uB24_21_13 ?_;refine⟨by kernel_rfl,?_⟩)|((first|refine grp_cons (fun _=>bhas_nil _ _) ?_|refine grp_cons (fun _=>hadj _) ?_)<;>try first|omega|assumption)|(refine g_d ?_;refine d_args ?_;(first|refine d_fn (bhas_nil _ _) ?_|refine d_fn (hadj _) ?_|refine d_fnQ (fun _=>bhas_nil _ _) ?_|refine d_fnQ (fun _=>hadj _) ?_)<;>try first|omega|assumption)|(refine g_d ?_;(first|refine d_fnY (bhas_nil _ _) ?_|refine d_fnY (hadj _) ?_)<;>try first|omega|assumption)))
              all_goals(try(exfalso;first|omega|contradiction))
              all_goals(refine next_ hK3 (k+1) hk (by omega) (by rw [hsu];first|exact tv_|(rw [decide_eq_true (by assumption)];exact tv_)|(rw [decide_eq_false (by assumption)];exact tv_)))
          · obtain rfl:k=LL.length:=by omega
            have hgb:=hla
            have hadj:=hla
            cases hak:allK ads [] i LL.length with
            | false=>
              rw [hak] at hna
              have hf0:=hup hna
              (have FX:=And.intro hla (And.intro hga (And.intro hgb (And.intro hll hlt)));repeat'(first|(refine sx ?_ ?_<;>intro h<;>first|(exfalso;omega)|skip)|(refine g_op ?_;refine g_call ?_;refine g_args ?_;(first|refine s_fn (bhas_nil _ _) ?_|refine s_fn (hadj _) ?_)<;>try first|omega|assumption)|refine ny ?_|refine WA_block ?_|(refine uB24_21_13 ?_;refine⟨by kernel_rfl,?_⟩)|((first|refine grp_cons (fun _=>bhas_nil _ _) ?_|refine grp_cons (fun _=>hadj _) ?_)<;>try first|omega|assumption)|(refine g_d ?_;refine d_args ?_;(first|refine d_fn (bhas_nil _ _) ?_|refine d_fn (hadj _) ?_|refine d_fnQ (fun _=>bhas_nil _ _) ?_|refine d_fnQ (fun _=>hadj _) ?_)<;>try first|omega|assumption)|(refine g_d ?_;(first|refine d_fnY (bhas_nil _ _) ?_|refine d_fnY (hadj _) ?_)<;>try first|omega|assumption)))
              all_goals(try(exfalso;first|omega|contradiction))
              all_goals((refine nextU_ hnyF (()) [0] (⟨hi,(fun _=>hf0),(fun hx=>by cases hx)⟩) ((by simp;omega)) ?_ (ht:=?_);(focus (simp only [roE,nuE,o2,Bool.false_eq_true,if_false,List.map_cons,List.map_nil,TB.inst,TV.inst,tv_map,List.cons_append,List.nil_append];first|rfl|(simp [ptsV,ptV];done)|(simp [hpsV,hpV];done)|(simp [frsV,frV];done)|(simp [txV];done)|(simp [prtsV,prtV];done)));(simp only [nuSt,o2,Bool.false_eq_true,if_false,List.map_cons,List.map_nil,TV.inst,List.getD_cons_zero,List.getD_cons_succ];exact tv_)))
            | true=>
              rw [hak] at hna
              obtain⟨hni,hlf2⟩:=hny1 hna
              have hnyT:=hnyT hni
              (have FX:=And.intro hla (And.intro hga (And.intro hgb (And.intro hll hlt)));repeat'(first|(refine sx ?_ ?_<;>intro h<;>first|(exfalso;omega)|skip)|(refine g_op ?_;refine g_call ?_;refine g_args ?_;(first|refine s_fn (bhas_nil _ _) ?_|refine s_fn (hadj _) ?_)<;>try first|omega|assumption)|refine ny ?_|refine WA_block ?_|(refine uB24_21_13 ?_;refine⟨by kernel_rfl,?_⟩)|((first|refine grp_cons (fun _=>bhas_nil _ _) ?_|refine grp_cons (fun _=>hadj _) ?_)<;>try first|omega|assumption)|(refine g_d ?_;refine d_args ?_;(first|refine d_fn (bhas_nil _ _) ?_|refine d_fn (hadj _) ?_|refine d_fnQ (fun _=>bhas_nil _ _) ?_|refine d_fnQ (fun _=>hadj _) ?_)<;>try first|omega|assumption)|(refine g_d ?_;(first|refine d_fnY (bhas_nil _ _) ?_|refine d_fnY (hadj _) ?_)<;>try first|omega|assumption)))
              all_goals(try(exfalso;first|omega|contradiction))
              all_goals((refine nextU_ hnyT (()) [0,2] (⟨by omega,by omega,by rw [hni,Int.toNat_natCast];exact hlf2⟩) (trivial) ?_ (ht:=?_);(focus (simp only [roE,nuE,List.cons_append,List.nil_append,List.map_cons,List.map_nil,TB.inst,TV.inst,tv_map,List.cons_append,List.nil_append];first|rfl|(simp [ptsV,ptV];done)|(simp [hpsV,hpV];done)|(simp [frsV,frV];done)|(simp [txV];done)|(simp [prtsV,prtV];done)));(simp only [nuSt,List.cons_append,List.nil_append,List.length_append,List.length_cons,List.length_nil,Nat.zero_add,List.map_cons,List.map_nil,TV.inst,List.getD_cons_zero,List.getD_cons_succ];exact tv_)))
        · obtain rfl:i=ads.length:=by omega
          have hnn:=hnot hi2
          rw [hnn,if_pos (by decide)] at hf
          clear hyes hnot hmem hall hrd hK2 hi2
          subst hB2
          have hnz:=fun js t m h=>hnx (f,[],false) _ t m (RoundEndT_up (D:=D2) (js:=js) h (roS_ok (l:=[.bool false])) roE_ok)
          have hny:=fun(_:Unit)=>hnz
          generalize B++D2=B3 at *
          simp only [roE,nuSt,nuE]
          simp only [List.map_cons,List.map_nil,TB.inst,TV.inst,tv_map,zipT,List.cons_append,List.nil_append,Nat.add_zero]
          (have FX:=And.intro hla (And.intro hga (And.intro hgb (And.intro hll hlt)));repeat'(first|(refine sx ?_ ?_<;>intro h<;>first|(exfalso;omega)|skip)|(refine g_op ?_;refine g_call ?_;refine g_args ?_;(first|refine s_fn (bhas_nil _ _) ?_|refine s_fn (hadj _) ?_)<;>try first|omega|assumption)|refine ny ?_|refine WA_block ?_|(refine uB24_21_13 ?_;refine⟨by kernel_rfl,?_⟩)|((first|refine grp_cons (fun _=>bhas_nil _ _) ?_|refine grp_cons (fun _=>hadj _) ?_)<;>try first|omega|assumption)|(refine g_d ?_;refine d_args ?_;(first|refine d_fn (bhas_nil _ _) ?_|refine d_fn (hadj _) ?_|refine d_fnQ (fun _=>bhas_nil _ _) ?_|refine d_fnQ (fun _=>hadj _) ?_)<;>try first|omega|assumption)|(refine g_d ?_;(first|refine d_fnY (bhas_nil _ _) ?_|refine d_fnY (hadj _) ?_)<;>try first|omega|assumption)))
          all_goals(try(exfalso;first|omega|contradiction))
          all_goals((refine nextU_ hny (()) [0] (⟨ho,by omega,(fun hx=>by cases hx),fun _=>hf⟩) ((by simp)) ?_ (ht:=?_);(focus (simp only [roE,nuE,List.map_cons,List.map_nil,TB.inst,TV.inst,tv_map,List.cons_append,List.nil_append];first|rfl|(simp [ptsV,ptV];done)|(simp [hpsV,hpV];done)|(simp [frsV,frV];done)|(simp [txV];done)|(simp [prtsV,prtV];done)));(simp only [nuSt,List.map_cons,List.map_nil,TV.inst,List.getD_cons_zero,List.getD_cons_succ];exact tv_)))
    | cons p r=>
      have hll:(nuV (p::r)).length=r.length+1:=nuV_length
      have hlt:(nuV (p::r)).take (r.length+1)=nuV (p::r):=by rw [List.take_of_length_le (by rw [hll];exact Nat.le_refl _)]
      simp only [List.length_cons] at hol0
      simp only [roE,nuSt,nuE]
      simp only [List.map_cons,List.map_nil,TB.inst,TV.inst,tv_map,zipT,List.cons_append,List.nil_append,Nat.add_zero]
      (have FX:=And.intro hla (And.intro hga (And.intro hgb (And.intro hll hlt)));repeat'(first|(refine sx ?_ ?_<;>intro h<;>first|(exfalso;omega)|skip)|(refine g_op ?_;refine g_call ?_;refine g_args ?_;(first|refine s_fn (bhas_nil _ _) ?_|refine s_fn (hadj _) ?_)<;>try first|omega|assumption)|refine ny ?_|refine WA_block ?_|(refine uB24_21_13 ?_;refine⟨by kernel_rfl,?_⟩)|((first|refine grp_cons (fun _=>bhas_nil _ _) ?_|refine grp_cons (fun _=>hadj _) ?_)<;>try first|omega|assumption)|(refine g_d ?_;refine d_args ?_;(first|refine d_fn (bhas_nil _ _) ?_|refine d_fn (hadj _) ?_|refine d_fnQ (fun _=>bhas_nil _ _) ?_|refine d_fnQ (fun _=>hadj _) ?_)<;>try first|omega|assumption)|(refine g_d ?_;(first|refine d_fnY (bhas_nil _ _) ?_|refine d_fnY (hadj _) ?_)<;>try first|omega|assumption)))
      all_goals(try(exfalso;omega))
      refine WA_whileJ (σ:=Nat×Bool) (L:=B) (X:=[.cells .own 28 2 [[.lst (mssV mm),.lst (adsV ads)]],.cells .own 3 1 (nuV (p::r))]) [1,3,4,5] (fun s=>[.ptr 0 0 0,nuSt 1 (o2 (p::r) (nxtI ads (p::r)).toNat s.2),.v (.bool s.2),.v (.int .i64 s.1)]) (fun s=>roE mm ads (o2 (p::r) (nxtI ads (p::r)).toNat s.2)) (fun s=>s.1≤ads.length∧(s.2=false→∀ j,j<s.1→rdyI ads (p::r) j=false)∧(s.2=true→0≤nxtI ads (p::r)∧nxtI ads (p::r)<ads.length∧leftN ads ((p::r)++[(nxtI ads (p::r)).toNat])<leftN ads (p::r))) (fun s=>if s.2=true then 0 else ads.length - s.1+1) (0,false) [0,1] ⟨Nat.zero_le _,(fun _ j hj=>absurd hj (Nat.not_lt_zero _)),(fun hx=>by cases hx)⟩ ?_ ?_ rfl (by decide) (by decide) (fun s _=>roS_ok (l:=[.bool s.2,.int .i64 s.1])) (fun _ _=>roE_ok) ?_
      · exact tv_
      · simp only [o2,roE,nuE,List.map_cons,List.map_nil,TB.inst,TV.inst,tv_map,Bool.false_eq_true,if_false];rfl
      rintro⟨i,g2⟩ ⟨hi1,hi2,hi3⟩ B2 ⟨D2,hB2⟩ K2 hK2
      dsimp only at hi1 hi2 hi3
      dsimp only
      clear FX hga hgb hll hlt
      have hll:=hla
      have hlt:=hla
      have hga:=hla
      have hgb:=hla
      cases g2 with
      | true=>
        obtain⟨h0,h1,h2⟩:=hi3 rfl
        rw [if_neg (by omega)] at hf
        obtain⟨n1,hn1⟩:∃ n1:Nat,nxtI ads (p::r)=(n1:Int):=⟨(nxtI ads (p::r)).toNat,by omega⟩
        rw [hn1,Int.toNat_natCast] at hf h2 ⊢
        have hn1l:n1<ads.length:=by omega
        clear hi2 hi3 hyes hnot hmem hall hrd hK2
        subst hB2
        have hnz:=fun js t m h=>hnx (f,(p::r)++[n1],true) _ t m (RoundEndT_up (D:=D2) (js:=js) h (roS_ok (l:=[.bool true])) roE_ok)
        have hny:=fun(_:Unit)=>hnz
        generalize B++D2=B3 at *
        have e1:o2 (p::r) n1 true=p::(r++[n1]):=rfl
        simp only [e1,roE,nuSt,nuE]
        simp only [List.map_cons,List.map_nil,TB.inst,TV.inst,tv_map,zipT,List.cons_append,List.nil_append,Nat.add_zero]
        (have FX:=And.intro hla (And.intro hga (And.intro hgb (And.intro hll hlt)));repeat'(first|(refine sx ?_ ?_<;>intro h<;>first|(exfalso;omega)|skip)|(refine g_op ?_;refine g_call ?_;refine g_args ?_;(first|refine s_fn (bhas_nil _ _) ?_|refine s_fn (hadj _) ?_)<;>try first|omega|assumption)|refine ny ?_|refine WA_block ?_|(refine uB24_21_13 ?_;refine⟨by kernel_rfl,?_⟩)|((first|refine grp_cons (fun _=>bhas_nil _ _) ?_|refine grp_cons (fun _=>hadj _) ?_)<;>try first|omega|assumption)|(refine g_d ?_;refine d_args ?_;(first|refine d_fn (bhas_nil _ _) ?_|refine d_fn (hadj _) ?_|refine d_fnQ (fun _=>bhas_nil _ _) ?_|refine d_fnQ (fun _=>hadj _) ?_)<;>try first|omega|assumption)|(refine g_d ?_;(first|refine d_fnY (bhas_nil _ _) ?_|refine d_fnY (hadj _) ?_)<;>try first|omega|assumption)))
        all_goals(try(exfalso;first|omega|contradiction))
        all_goals((refine nextU_ hny (()) [0,1] (⟨(fun x hx=>by rcases List.mem_append.1 hx with hx|hx;exact ho x hx;rw [List.mem_singleton.1 hx];exact hn1l),by simp only [List.length_append,List.length_cons,List.length_nil] at hol ⊢;omega,(fun _=>⟨hf,by dsimp only;omega,by simp only [List.length_append,List.length_cons,List.length_nil] at hol ⊢;omega⟩),(fun hx=>by cases hx)⟩) ((by simp)) ?_ (ht:=?_);(focus (simp only [roE,nuE,List.cons_append,List.nil_append,List.map_cons,List.map_nil,TB.inst,TV.inst,tv_map,List.cons_append,List.nil_append];first|rfl|(simp [ptsV,ptV];done)|(simp [hpsV,hpV];done)|(simp [frsV,frV];done)|(simp [txV];done)|(simp [prtsV,prtV];done)));(simp only [nuSt,List.cons_append,List.nil_append,List.map_cons,List.map_nil,TV.inst,List.getD_cons_zero,List.getD_cons_succ];exact tv_)))
      | false =>
        have hi2:=hi2 rfl
        clear hi3
        have e1:o2 (p::r) (nxtI ads (p::r)).toNat false=(p::r):=rfl
        rw [e1]
        rcases Nat.lt_or_ge i ads.length with hi|hi
        · have hga:=adsV_get hi
          have hat:=(h.af i hi)
          have hlf:=tsV_length (l:=(ads.getD i adz).after)
          have hnm:=hmem i
          have hna:=hall i
          have hny1:=hyes i hi hi2
          have hup:=fun h=>up_false hi2 (h:rdyI ads (p::r) i=false)
          have hll:(nuV (p::r)).length=r.length+1:=nuV_length
          have hlt:(nuV (p::r)).take (r.length+1)=nuV (p::r):=by rw [List.take_of_length_le (by rw [hll];exact Nat.le_refl _)]
          have hnyF:=fun(_:Unit)=>hK2 (i+1,false)
          have hnyT:nxtI ads (p::r)=(i:Int)→∀ (_:Unit) (js:List Nat) (t:List (Nat×V)) (m:Mem),RoundEndT B2 [1,3,4,5] [.ptr 0 0 0,nuSt 1 ((p::r)++[i]),.v (.bool true),.v (.int .i64 ((i+1:Nat):Int))] (roE mm ads ((p::r)++[i])) js t m→(0:Int)≤nxtI ads (p::r)∧nxtI ads (p::r)<ads.length∧leftN ads ((p::r)++[(nxtI ads (p::r)).toNat])<leftN ads (p::r)→True→K2 t m:=fun hni _ js t m h1 h2 _=>hK2 (i+1,true) js t m (by dsimp only;rw [hni,Int.toNat_natCast];exact h1) ⟨hi,(fun hx=>by cases hx),fun _=>h2⟩ (by simp)
          clear hK2
          unfold adV at hga
          simp only [roE,nuSt,nuE]
          simp only [List.map_cons,List.map_nil,TB.inst,TV.inst,tv_map,zipT,List.cons_append,List.nil_append,Nat.add_zero]
          have hadj:=hla
          (have FX:=And.intro hla (And.intro hga (And.intro hgb (And.intro hll hlt)));repeat'(first|(refine sx ?_ ?_<;>intro h<;>first|(exfalso;omega)|skip)|(refine g_op ?_;refine g_call ?_;refine g_args ?_;(first|refine s_fn (bhas_s (p::r) _ (by simp only [List.length_cons];omega) (r.length+1) rfl _ (B2.length+1)) ?_|refine s_fn (hadj _) ?_)<;>try first|omega|assumption)|refine ny ?_|refine WA_block ?_|(refine uB24_21_13 ?_;refine⟨by kernel_rfl,?_⟩)|((first|refine grp_cons (fun _=>bhas_s (p::r) _ (by simp only [List.length_cons];omega) (r.length+1) rfl _ (B2.length+1)) ?_|refine grp_cons (fun _=>hadj _) ?_)<;>try first|omega|assumption)|(refine g_d ?_;refine d_args ?_;(first|refine d_fn (bhas_s (p::r) _ (by simp only [List.length_cons];omega) (r.length+1) rfl _ (B2.length+1)) ?_|refine d_fn (hadj _) ?_|refine d_fnQ (fun _=>bhas_s (p::r) _ (by simp only [List.length_cons];omega) (r.length+1) rfl _ (B2.length+1)) ?_|refine d_fnQ (fun _=>hadj _) ?_)<;>try first|omega|assumption)|(refine g_d ?_;(first|refine d_fnY (bhas_s (p::r) _ (by simp only [List.length_cons];omega) (r.length+1) rfl _ (B2.length+1)) ?_|refine d_fnY (hadj _) ?_)<;>try first|omega|assumption)))
          all_goals(try(exfalso;first|omega|contradiction))
          · have hf0:=hup (hnm (by assumption))
            ((refine nextU_ hnyF (()) [0,1] (⟨hi,(fun _=>hf0),(fun hx=>by cases hx)⟩) ((by simp;omega)) ?_ (ht:=?_);(focus (simp only [roE,nuE,o2,Bool.false_eq_true,if_false,List.map_cons,List.map_nil,TB.inst,TV.inst,tv_map,List.cons_append,List.nil_append];first|rfl|(simp [ptsV,ptV];done)|(simp [hpsV,hpV];done)|(simp [frsV,frV];done)|(simp [txV];done)|(simp [prtsV,prtV];done)));(simp only [nuSt,o2,Bool.false_eq_true,if_false,List.map_cons,List.map_nil,TV.inst,List.getD_cons_zero,List.getD_cons_succ];exact tv_)))
          · have hno:i ∉ p::r:=by assumption
            have hna:=hna hno
            generalize hLL:(ads.getD i adz).after=LL at *
            refine WA_while (σ:=Nat) [1,3,4,5,6,7] (fun k=>[.ptr B2.length 0 0,.sl (B2.length+1) (r.length+1),.bool false,.int .i64 i,.bool (allK ads (p::r) i k),.int .i64 k]) (fun _=>B2++[.cells .own 28 2 [[.lst (mssV mm),.lst (adsV ads)]],.cells .own 3 1 (nuV (p::r))]) (fun k=>k≤LL.length) (fun k=>LL.length - k) 0 (Nat.zero_le _) tv_ rfl ?_
            rintro k hk1 K3 hK3
            simp only [zipT]
            clear FX hgb hadj
            rcases Nat.lt_or_ge k LL.length with hk|hk
            · have hgb:=tsV_get hk
              have hq0:=hat.2 k hk
              obtain⟨q,hq⟩:∃ q:Nat,fdx (isA (LL.getD k [])) ads=(q:Int):=⟨(fdx (isA (LL.getD k [])) ads).toNat,by omega⟩
              have hadj:∀ m,Gives Tryz.prog 53 [.lst (adsV ads),.str (LL.getD k [])] m (.int .i64 (q:Int)):=fun m=>by have h1:=radjustmentat_c ads (LL.getD k []) (by omega) m;rw [hq] at h1;exact h1
              have hsu:=allK_succ ads (p::r) i k
              rw [hLL,hq,Int.toNat_natCast] at hsu
              generalize LL.getD k []=s at *
              cases hak:allK ads (p::r) i k with
              | false=>
                rw [hak,Bool.false_and] at hsu
                (have FX:=And.intro hla (And.intro hga (And.intro hgb (And.intro hll hlt)));repeat'(first|(refine sx ?_ ?_<;>intro h<;>first|(exfalso;omega)|skip)|(refine g_op ?_;refine g_call ?_;refine g_args ?_;(first|refine s_fn (bhas_s (p::r) _ (by simp only [List.length_cons];omega) (r.length+1) rfl _ (B2.length+1)) ?_|refine s_fn (hadj _) ?_)<;>try first|omega|assumption)|refine ny ?_|refine WA_block ?_|(refine uB24_21_13 ?_;refine⟨by kernel_rfl,?_⟩)|((first|refine grp_cons (fun _=>bhas_s (p::r) _ (by simp only [List.length_cons];omega) (r.length+1) rfl _ (B2.length+1)) ?_|refine grp_cons (fun _=>hadj _) ?_)<;>try first|omega|assumption)|(refine g_d ?_;refine d_args ?_;(first|refine d_fn (bhas_s (p::r) _ (by simp only [List.length_cons];omega) (r.length+1) rfl _ (B2.length+1)) ?_|refine d_fn (hadj _) ?_|refine d_fnQ (fun _=>bhas_s (p::r) _ (by simp only [List.length_cons];omega) (r.length+1) rfl _ (B2.length+1)) ?_|refine d_fnQ (fun _=>hadj _) ?_)<;>try first|omega|assumption)|(refine g_d ?_;(first|refine d_fnY (bhas_s (p::r) _ (by simp only [List.length_cons];omega) (r.length+1) rfl _ (B2.length+1)) ?_|refine d_fnY (hadj _) ?_)<;>try first|omega|assumption)))
                all_goals(try(exfalso;first|omega|contradiction))
                all_goals(refine next_ hK3 (k+1) hk (by omega) (by rw [hsu];exact tv_))
              | true=>
                rw [hak,Bool.true_and] at hsu
                (have FX:=And.intro hla (And.intro hga (And.intro hgb (And.intro hll hlt)));repeat'(first|(refine sx ?_ ?_<;>intro h<;>first|(exfalso;omega)|skip)|(refine g_op ?_;refine g_call ?_;refine g_args ?_;(first|refine s_fn (bhas_s (p::r) _ (by simp only [List.length_cons];omega) (r.length+1) rfl _ (B2.length+1)) ?_|refine s_fn (hadj _) ?_)<;>try first|omega|assumption)|refine ny ?_|refine WA_block ?_|(refine uB24_21_13 ?_;refine⟨by kernel_rfl,?_⟩)|((first|refine grp_cons (fun _=>bhas_s (p::r) _ (by simp only [List.length_cons];omega) (r.length+1) rfl _ (B2.length+1)) ?_|refine grp_cons (fun _=>hadj _) ?_)<;>try first|omega|assumption)|(refine g_d ?_;refine d_args ?_;(first|refine d_fn (bhas_s (p::r) _ (by simp only [List.length_cons];omega) (r.length+1) rfl _ (B2.length+1)) ?_|refine d_fn (hadj _) ?_|refine d_fnQ (fun _=>bhas_s (p::r) _ (by simp only [List.length_cons];omega) (r.length+1) rfl _ (B2.length+1)) ?_|refine d_fnQ (fun _=>hadj _) ?_)<;>try first|omega|assumption)|(refine g_d ?_;(first|refine d_fnY (bhas_s (p::r) _ (by simp only [List.length_cons];omega) (r.length+1) rfl _ (B2.length+1)) ?_|refine d_fnY (hadj _) ?_)<;>try first|omega|assumption)))
                all_goals(try(exfalso;first|omega|contradiction))
                all_goals(refine next_ hK3 (k+1) hk (by omega) (by rw [hsu];first|exact tv_|(rw [decide_eq_true (by assumption)];exact tv_)|(rw [decide_eq_false (by assumption)];exact tv_)))
            · obtain rfl:k=LL.length:=by omega
              have hgb:=hla
              have hadj:=hla
              cases hak:allK ads (p::r) i LL.length with
              | false=>
                rw [hak] at hna
                have hf0:=hup hna
                (have FX:=And.intro hla (And.intro hga (And.intro hgb (And.intro hll hlt)));repeat'(first|(refine sx ?_ ?_<;>intro h<;>first|(exfalso;omega)|skip)|(refine g_op ?_;refine g_call ?_;refine g_args ?_;(first|refine s_fn (bhas_s (p::r) _ (by simp only [List.length_cons];omega) (r.length+1) rfl _ (B2.length+1)) ?_|refine s_fn (hadj _) ?_)<;>try first|omega|assumption)|refine ny ?_|refine WA_block ?_|(refine uB24_21_13 ?_;refine⟨by kernel_rfl,?_⟩)|((first|refine grp_cons (fun _=>bhas_s (p::r) _ (by simp only [List.length_cons];omega) (r.length+1) rfl _ (B2.length+1)) ?_|refine grp_cons (fun _=>hadj _) ?_)<;>try first|omega|assumption)|(refine g_d ?_;refine d_args ?_;(first|refine d_fn (bhas_s (p::r) _ (by simp only [List.length_cons];omega) (r.length+1) rfl _ (B2.length+1)) ?_|refine d_fn (hadj _) ?_|refine d_fnQ (fun _=>bhas_s (p::r) _ (by simp only [List.length_cons];omega) (r.length+1) rfl _ (B2.length+1)) ?_|refine d_fnQ (fun _=>hadj _) ?_)<;>try first|omega|assumption)|(refine g_d ?_;(first|refine d_fnY (bhas_s (p::r) _ (by simp only [List.length_cons];omega) (r.length+1) rfl _ (B2.length+1)) ?_|refine d_fnY (hadj _) ?_)<;>try first|omega|assumption)))
                all_goals(try(exfalso;first|omega|contradiction))
                all_goals((refine nextU_ hnyF (()) [0,1] (⟨hi,(fun _=>hf0),(fun hx=>by cases hx)⟩) ((by simp;omega)) ?_ (ht:=?_);(focus (simp only [roE,nuE,o2,Bool.false_eq_true,if_false,List.map_cons,List.map_nil,TB.inst,TV.inst,tv_map,List.cons_append,List.nil_append];first|rfl|(simp [ptsV,ptV];done)|(simp [hpsV,hpV];done)|(simp [frsV,frV];done)|(simp [txV];done)|(simp [prtsV,prtV];done)));(simp only [nuSt,o2,Bool.false_eq_true,if_false,List.map_cons,List.map_nil,TV.inst,List.getD_cons_zero,List.getD_cons_succ];exact tv_)))
              | true=>
                rw [hak] at hna
                obtain⟨hni,hlf2⟩:=hny1 hna
                have hnyT:=hnyT hni
                have hns:nuV (p::(r++[i]))=nuV (p::r)++[[V.int .i64 (i:Int)]]:=nuV_snoc (p::r) i
                (have FX:=And.intro hla (And.intro hga (And.intro hgb (And.intro hll hlt)));repeat'(first|(refine sx ?_ ?_<;>intro h<;>first|(exfalso;omega)|skip)|(refine g_op ?_;refine g_call ?_;refine g_args ?_;(first|refine s_fn (bhas_s (p::r) _ (by simp only [List.length_cons];omega) (r.length+1) rfl _ (B2.length+1)) ?_|refine s_fn (hadj _) ?_)<;>try first|omega|assumption)|refine ny ?_|refine WA_block ?_|(refine uB24_21_13 ?_;refine⟨by kernel_rfl,?_⟩)|((first|refine grp_cons (fun _=>bhas_s (p::r) _ (by simp only [List.length_cons];omega) (r.length+1) rfl _ (B2.length+1)) ?_|refine grp_cons (fun _=>hadj _) ?_)<;>try first|omega|assumption)|(refine g_d ?_;refine d_args ?_;(first|refine d_fn (bhas_s (p::r) _ (by simp only [List.length_cons];omega) (r.length+1) rfl _ (B2.length+1)) ?_|refine d_fn (hadj _) ?_|refine d_fnQ (fun _=>bhas_s (p::r) _ (by simp only [List.length_cons];omega) (r.length+1) rfl _ (B2.length+1)) ?_|refine d_fnQ (fun _=>hadj _) ?_)<;>try first|omega|assumption)|(refine g_d ?_;(first|refine d_fnY (bhas_s (p::r) _ (by simp only [List.length_cons];omega) (r.length+1) rfl _ (B2.length+1)) ?_|refine d_fnY (hadj _) ?_)<;>try first|omega|assumption)))
                all_goals(try(exfalso;first|omega|contradiction))
                all_goals((refine nextU_ hnyT (()) [0,3] (⟨by omega,by omega,by rw [hni,Int.toNat_natCast];exact hlf2⟩) (trivial) ?_ (ht:=?_);(focus (simp only [roE,nuE,hns,List.cons_append,List.nil_append,List.map_cons,List.map_nil,TB.inst,TV.inst,tv_map,List.cons_append,List.nil_append];first|rfl|(simp [ptsV,ptV];done)|(simp [hpsV,hpV];done)|(simp [frsV,frV];done)|(simp [txV];done)|(simp [prtsV,prtV];done)));(simp only [nuSt,List.cons_append,List.nil_append,List.length_append,List.length_cons,List.length_nil,Nat.zero_add,List.map_cons,List.map_nil,TV.inst,List.getD_cons_zero,List.getD_cons_succ];exact tv_)))
        · obtain rfl:i=ads.length:=by omega
          have hnn:=hnot hi2
          rw [hnn,if_pos (by decide)] at hf
          clear hyes hnot hmem hall hrd hK2 hi2
          subst hB2
          have hnz:=fun js t m h=>hnx (f,(p::r),false) _ t m (RoundEndT_up (D:=D2) (js:=js) h (roS_ok (l:=[.bool false])) roE_ok)
          have hny:=fun(_:Unit)=>hnz
          generalize B++D2=B3 at *
          have hll:(nuV (p::r)).length=r.length+1:=nuV_length
          simp only [roE,nuSt,nuE]
          simp only [List.map_cons,List.map_nil,TB.inst,TV.inst,tv_map,zipT,List.cons_append,List.nil_append,Nat.add_zero]
          (have FX:=And.intro hla (And.intro hga (And.intro hgb (And.intro hll hlt)));repeat'(first|(refine sx ?_ ?_<;>intro h<;>first|(exfalso;omega)|skip)|(refine g_op ?_;refine g_call ?_;refine g_args ?_;(first|refine s_fn (bhas_s (p::r) _ (by simp only [List.length_cons];omega) (r.length+1) rfl _ (B2.length+1)) ?_|refine s_fn (hadj _) ?_)<;>try first|omega|assumption)|refine ny ?_|refine WA_block ?_|(refine uB24_21_13 ?_;refine⟨by kernel_rfl,?_⟩)|((first|refine grp_cons (fun _=>bhas_s (p::r) _ (by simp only [List.length_cons];omega) (r.length+1) rfl _ (B2.length+1)) ?_|refine grp_cons (fun _=>hadj _) ?_)<;>try first|omega|assumption)|(refine g_d ?_;refine d_args ?_;(first|refine d_fn (bhas_s (p::r) _ (by simp only [List.length_cons];omega) (r.length+1) rfl _ (B2.length+1)) ?_|refine d_fn (hadj _) ?_|refine d_fnQ (fun _=>bhas_s (p::r) _ (by simp only [List.length_cons];omega) (r.length+1) rfl _ (B2.length+1)) ?_|refine d_fnQ (fun _=>hadj _) ?_)<;>try first|omega|assumption)|(refine g_d ?_;(first|refine d_fnY (bhas_s (p::r) _ (by simp only [List.length_cons];omega) (r.length+1) rfl _ (B2.length+1)) ?_|refine d_fnY (hadj _) ?_)<;>try first|omega|assumption)))
          all_goals(try(exfalso;first|omega|contradiction))
          all_goals((refine nextU_ hny (()) [0,1] (⟨ho,by simpa using hol0,(fun hx=>by cases hx),fun _=>hf⟩) ((by simp)) ?_ (ht:=?_);(focus (simp only [roE,nuE,List.map_cons,List.map_nil,TB.inst,TV.inst,tv_map,List.cons_append,List.nil_append];first|rfl|(simp [ptsV,ptV];done)|(simp [hpsV,hpV];done)|(simp [frsV,frV];done)|(simp [txV];done)|(simp [prtsV,prtV];done)));(simp only [nuSt,List.map_cons,List.map_nil,TV.inst,List.getD_cons_zero,List.getD_cons_succ];exact tv_)))
end Go.Proofs.YtookikhphobnlaaGreatDoor
