/- contract of Parse for texts of not too many lines that are not too long -/
import Derived.Test.YtookikhphobnlaaGreatDoorGAJ
import Derived.Test.YtookikhphobnlaaGreatDoorB26
import Derived.Test.YtookikhphobnlaaGreatDoorB7
set_option linter.unusedSimpArgs false
set_option linter.unusedVariables false
namespace Go.Proofs.YtookikhphobnlaaGreatDoor
open Go.RowKit
attribute [local irreducible] WA WOs WDs WAn qThen qBlock tput
set_option maxHeartbeats 1000000
set_option maxRecDepth 20000
set_option linter.unusedSimpArgs false
set_option linter.unusedVariables false
set_option maxHeartbeats 4000000
theorem uX18_6_10{N:Nat}{l:List Oper}{t:List (Nat×V)}{m:Mem}{Q:Exit→List (Nat×V)→Mem→Prop}(h:RgT Tryz.prog N l t m Q 28 (fun i=>if i==3 || i==4 then .w else if i==2 then .f else if i==1 then .q else .p) [.one 0,.one 1,.one 2,.one 3,.one 4]):WA Tryz.prog N (.region 10 l.toArray true) t m Q:=d_rgT h
theorem gparse_rows (s0:Txt) (hs:s0.length≤60000) (hrn:(cutP 10 s0).length≤1000) (hrm:∀ r∈cutP 10 s0,r.length≤999) (m:Mem):Gives Tryz.prog 6 [.str s0] m (paV (prsP s0)):=by
  suffices key:CallA Tryz.prog 6 [.str s0] m (fun v mo=>mo=none∧WkV v (paV (prsP s0))) from Gives_ofX key fun v mo h=>h
  refine CallA_in Tryz.func6 rfl Tryz.ntmps6 Tryz.results6 (by kernel_rfl) (by simp) fun Q hQ=>?_
  unfold prsP at hQ
  rw [if_neg (by omega)] at hQ
  (repeat'(first|(refine sx ?_ ?_<;>intro h<;>first|(exfalso;omega)|skip)|refine ny ?_|refine WA_block ?_|(refine uX18_6_10 ?_;refine⟨by kernel_rfl,?_⟩)))
  all_goals(try(exfalso;omega))
  refine g_op ?_;refine g_call ?_;refine g_args ?_;refine s_fnA (xlines_o s0 _) ?_
  rintro v mo ⟨rfl,rfl⟩
  simp only [Option.getD_some]
  (repeat'(first|(refine sx ?_ ?_<;>intro h<;>first|(exfalso;omega)|skip)|refine ny ?_|refine WA_block ?_|(refine uX18_6_10 ?_;refine⟨by kernel_rfl,?_⟩)))
  have hln:∀ a b c d e:Blk,(lend m++[a,b,c,d,e]).length=(lend m).length+5:=by intros;simp
  simp only [hln,List.append_assoc,List.cons_append,List.nil_append]
  refine WA_rfA (fun m'=>∃ b k,rowsP 0 bnz (cutP 10 s0)= .ok b∧BlN k b∧k≤1000∧paI m [] .dead k b m') (fun c m'=>c= .ret∧∃ k,rowsP 0 bnz (cutP 10 s0)= .error k∧paJ m .dead k m') (fun lp LB LL LD hY=>?_) (fun m' hm=>?_) (fun c m' hm=>?_)
  · refine xlines1 lp ((lend m).length+5) _ s0 (by omega) _ (fun s M=>∃ b k,rowsP k b (cutP 10 s)=rowsP 0 bnz (cutP 10 s0)∧BlN k b∧(k+(cutP 10 s).length≤1000∧∀ r∈cutP 10 s,r.length≤999)∧paI m s LB k b M) (fun M=>∃ k,rowsP 0 bnz (cutP 10 s0)= .error k∧paJ m (LD .ret) k M) ⟨bnz,0,rfl,⟨Nat.zero_le _,by simp [bnz],by simp [bnz]⟩,⟨by omega,hrm⟩,⟨.nilsl,.nilsl,[],by simp,.inl ⟨rfl,rfl⟩,.inl ⟨rfl,rfl⟩⟩⟩ ?_ ?_ ?_ ?_
    · rintro s M' ⟨b,k, -, -, -,h4⟩
      exact paI_box h4
    · rintro M' ⟨b,k,h1,h2,⟨h3, -⟩,h4⟩
      refine⟨M',rfl,.inl ⟨?_,b,k,h1.symm,h2,by omega,?_⟩⟩
      · have:=paI_at h4;simpa using this
      · have:=paI_set (LC:= .dead) h4;simpa using this
    · rintro M' ⟨k,h1,h2⟩
      refine⟨M',rfl,.inr ⟨.ret,?_,rfl,k,h1,?_⟩⟩
      · have:=paJ_at h2;simpa using this
      · have:=paJ_set (LC:= .dead) h2;simpa using this
    · rintro s M' hs0 hsl ⟨b,k,h1,h2,⟨h3,h3m⟩,v1,v2,X,rfl,hv1,hv2⟩ R' hR1 hR2
      have hslen:s.length≤60000:=by omega
      have hkb:k≤1000:=by omega
      have hlt:=lnR_lt hs0
      have hsp:∀ z:Blk,(lend m++[Blk.cells .own 28 2 [[.nilsl,.nilsl]],Blk.cells .own 3 1 [[.int .i64 0]],Blk.cells .own 29 1 [[.int .i64 0]]]++(Blk.cells .own 28 2 [[v1,v2]]::Blk.cells .own 3 1 [[.int .i64 k]]::Blk.cells .own 9 1 [[.str s]]::LB::X)).set ((lend m).length+5) z=(lend m++[Blk.cells .own 28 2 [[.nilsl,.nilsl]],Blk.cells .own 3 1 [[.int .i64 0]],Blk.cells .own 29 1 [[.int .i64 0]],Blk.cells .own 28 2 [[v1,v2]],Blk.cells .own 3 1 [[.int .i64 k]],z])++LB::X:=fun z=>by simp
      rw [hsp]
      refine hY _ _ _ R' rfl ?_
      simp only [setPs,List.append_assoc,List.cons_append,List.nil_append]
      (repeat'(first|(refine sx ?_ ?_<;>intro h<;>first|(exfalso;omega)|skip)|refine ny ?_|refine WA_block ?_|(refine uX18_6_10 ?_;refine⟨by kernel_rfl,?_⟩)))
      refine⟨rfl,by simp,?_⟩
      have hn1:=h2.n
      rcases ln_cut hs0 with ⟨p,e1,e2,e3⟩|⟨e1,e2,e3,e4⟩
      · have hcs:=fun m=>xcut_c (p++[10]) [10] (by rw [←e1];have:=ln1_le s;omega) m
        rw [(suf_yes p).1,(suf_yes p).2] at hcs
        rw [e1]
        have hpl:p.length≤999:=h3m p (by rw [e3];exact List.mem_cons_self)
        have h3n:k+1+(cutP 10 (lnR s)).length≤1000:=by rw [e3] at h3;simp only [List.length_cons] at h3;omega
        have h3q:∀ r∈cutP 10 (lnR s),r.length≤999:=fun r hr=>h3m r (by rw [e3];exact List.mem_cons_of_mem _ hr)
        rw [e3,rowsP_cut] at h1
        clear e1 e2 e3
        (have FX:=hkb;repeat'(first|(refine sx ?_ ?_<;>intro h<;>first|(exfalso;omega)|skip)|(refine g_op ?_;refine g_call ?_;refine g_args ?_;(first|refine s_fn (hcs _) ?_)<;>try first|omega|assumption)|refine ny ?_|refine WA_block ?_|(refine uX18_6_10 ?_;refine⟨by kernel_rfl,?_⟩)|((first|refine grp_cons (fun _=>hcs _) ?_)<;>try first|omega|assumption)|(refine g_d ?_;refine d_args ?_;(first|refine d_fn (hcs _) ?_|refine d_fnQ (fun _=>hcs _) ?_)<;>try first|omega|assumption)|(refine g_d ?_;(first|refine d_fnY (hcs _) ?_)<;>try first|omega|assumption)))
        refine g_op ?_;refine g_call ?_;refine g_args ?_;refine s_fnA (gline_k (lend m++[Blk.cells .own 28 2 [[.nilsl,.nilsl]],Blk.cells .own 3 1 [[.int .i64 0]],Blk.cells .own 29 1 [[.int .i64 0]]]) (Blk.cells .own 3 1 [[.int .i64 ((k:Int)+1)]]) (Blk.cells .own 9 1 [[.str (lnR s)]]) LL b _ ⟨v1,v2,X,by simp,hv1,hv2⟩ ((lend m).length+3) (by simp) p (by omega) (by omega) (by omega)) ?_
        rintro v mo ⟨b',M',rfl,⟨v1',v2',X',rfl,hv1',hv2'⟩,hcase⟩
        simp only [Option.getD_some,List.append_assoc,List.cons_append,List.nil_append]
        rcases hcase with ⟨rfl,hl⟩|⟨rfl,hl⟩
        · rw [hl] at h1
          (have FX:=hkb;repeat'(first|(refine sx ?_ ?_<;>intro h<;>first|(exfalso;omega)|skip)|(refine g_op ?_;refine g_call ?_;refine g_args ?_;(first|refine s_fn (hcs _) ?_)<;>try first|omega|assumption)|refine ny ?_|refine WA_block ?_|(refine uX18_6_10 ?_;refine⟨by kernel_rfl,?_⟩)|((first|refine grp_cons (fun _=>hcs _) ?_)<;>try first|omega|assumption)|(refine g_d ?_;refine d_args ?_;(first|refine d_fn (hcs _) ?_|refine d_fnQ (fun _=>hcs _) ?_)<;>try first|omega|assumption)|(refine g_d ?_;(first|refine d_fnY (hcs _) ?_)<;>try first|omega|assumption)))
          refine rndQ_nrm (LL:=LL) (A:=lend m++[Blk.cells .own 28 2 [[.nilsl,.nilsl]],Blk.cells .own 3 1 [[.int .i64 0]],Blk.cells .own 29 1 [[.int .i64 0]],Blk.cells .own 28 2 [[v1',v2']],Blk.cells .own 3 1 [[.int .i64 ((k:Int)+1)]],Blk.cells .own 9 1 [[.str (lnR s)]]]) (X:=X') (by simp) (by simp) (hR1 _ ⟨b',k+1,h1,lineP_bl h2 hpl hl,⟨h3n,h3q⟩,v1',v2',X',by simp,hv1',hv2'⟩)
        · rw [hl] at h1
          (have FX:=hkb;repeat'(first|(refine sx ?_ ?_<;>intro h<;>first|(exfalso;omega)|skip)|(refine g_op ?_;refine g_call ?_;refine g_args ?_;(first|refine s_fn (hcs _) ?_)<;>try first|omega|assumption)|refine ny ?_|refine WA_block ?_|(refine uX18_6_10 ?_;refine⟨by kernel_rfl,?_⟩)|((first|refine grp_cons (fun _=>hcs _) ?_)<;>try first|omega|assumption)|(refine g_d ?_;refine d_args ?_;(first|refine d_fn (hcs _) ?_|refine d_fnQ (fun _=>hcs _) ?_)<;>try first|omega|assumption)|(refine g_d ?_;(first|refine d_fnY (hcs _) ?_)<;>try first|omega|assumption)))
          refine rndQ_ret (LL:=LL) (A:=lend m++[Blk.cells .own 28 2 [[.nilsl,.nilsl]],Blk.cells .own 3 1 [[.int .i64 ((k:Int)+1)]],Blk.cells .own 29 1 [[.int .i64 7]],Blk.cells .own 28 2 [[v1',v2']],Blk.cells .own 3 1 [[.int .i64 ((k:Int)+1)]],Blk.cells .own 9 1 [[.str (lnR s)]]]) (X:=X') (by simp) (by simp) (hR2 _ ⟨k+1,h1.symm,Blk.cells .own 28 2 [[v1',v2']],Blk.cells .own 3 1 [[.int .i64 ((k:Int)+1)]],Blk.cells .own 9 1 [[.str (lnR s)]],X',by simp⟩)
      · have hcs:=fun m=>xcut_c s [10] (by omega) m
        rw [suf_no e3] at hcs
        rw [e1]
        rw [e4,rowsP_one hs0] at h1
        clear e1 e2 e3 e4
        (have FX:=hkb;repeat'(first|(refine sx ?_ ?_<;>intro h<;>first|(exfalso;omega)|skip)|(refine g_op ?_;refine g_call ?_;refine g_args ?_;(first|refine s_fn (hcs _) ?_)<;>try first|omega|assumption)|refine ny ?_|refine WA_block ?_|(refine uX18_6_10 ?_;refine⟨by kernel_rfl,?_⟩)|((first|refine grp_cons (fun _=>hcs _) ?_)<;>try first|omega|assumption)|(refine g_d ?_;refine d_args ?_;(first|refine d_fn (hcs _) ?_|refine d_fnQ (fun _=>hcs _) ?_)<;>try first|omega|assumption)|(refine g_d ?_;(first|refine d_fnY (hcs _) ?_)<;>try first|omega|assumption)))
        refine rndQ_ret (LL:=LL) (A:=lend m++[Blk.cells .own 28 2 [[.nilsl,.nilsl]],Blk.cells .own 3 1 [[.int .i64 ((k:Int)+1)]],Blk.cells .own 29 1 [[.int .i64 7]],Blk.cells .own 28 2 [[v1,v2]],Blk.cells .own 3 1 [[.int .i64 ((k:Int)+1)]],Blk.cells .own 9 1 [[.str (lnR s)]]]) (X:=X) (by simp) (by simp) (hR2 _ ⟨k+1,h1.symm,Blk.cells .own 28 2 [[v1,v2]],Blk.cells .own 3 1 [[.int .i64 ((k:Int)+1)]],Blk.cells .own 9 1 [[.str (lnR s)]],X,by simp⟩)
  · obtain⟨b,k,h1,h2,h3,v1,v2,X,rfl,hv1,hv2⟩:=hm
    rw [h1] at hQ
    dsimp only at hQ
    have hcb:=fun m=>gcheckbench_c b (h2.bl (by omega)) m
    clear h1 h2 h3 hln
    refine qB_normal ?_
    refine qT_normal ?_
    have hA:∀ j,(lend m++[Blk.cells .own 28 2 [[.nilsl,.nilsl]],Blk.cells .own 3 1 [[.int .i64 0]],Blk.cells .own 29 1 [[.int .i64 0]]]).length+(j+4)=(lend m).length+(j+7):=fun j=>by simp;omega
    rcases hv1 with ⟨rfl,e1⟩|⟨j1,rfl,e1,x1⟩
    · rcases hv2 with ⟨rfl,e2⟩|⟨j2,rfl,e2,x2⟩
      · refine WA_ren (L:=lend m) (ks:=[2,3,4,5]) (vs:=[.ptr 0 0 0,.ptr 1 0 0,.ptr 2 0 0,.ptr 3 0 0]) (Ts:=[.cells .own 28 2 [[.v .nilsl,.v .nilsl]],.cells .own 3 1 [[.v (.int .i64 0)]],.cells .own 29 1 [[.v (.int .i64 0)]],.cells .own 28 2 [[.v .nilsl,.v .nilsl]]]) (js:=[0,1,2,3]) ⟨[Blk.cells .own 28 2 [[.nilsl,.nilsl]],Blk.cells .own 3 1 [[.int .i64 0]],Blk.cells .own 29 1 [[.int .i64 0]]]++(Blk.cells .own 28 2 [[.nilsl,.nilsl]]::Blk.cells .own 3 1 [[.int .i64 (k:Int)]]::Blk.cells .own 9 1 [[.str []]]:: .dead::X),List.append_assoc _ _ _,?_,?_,?_⟩ (by decide) rfl (by simp [TB.ok,TV.okT,tv_ok]) ?_
        · simp only [List.map_cons,List.map_nil,TV.inst,List.getD_cons_zero,List.getD_cons_succ]
          exact tv_
        · simp only [List.map_cons,List.map_nil,TB.inst,TV.inst,tv_map,List.getD_cons_zero,List.getD_cons_succ]
          rfl
        · decide
        rintro B ⟨D,hB⟩
        simp only [List.map_cons,List.map_nil,TB.inst,TV.inst,tv_map,zipT,List.cons_append,List.nil_append,Nat.add_zero]
        unfold bnV at hcb
        have hcc:=fun m=>Gives_argX (vs:=[.agg [.nilsl,.nilsl]]) (vs':=[.agg [.lst (mssV b.ms),.lst (adsV b.ads)]]) ⟨wk_agg ⟨wk_nl _ e1,wk_nl _ e2,trivial⟩,trivial⟩ (hcb m)
        (have FX:=hs;repeat'(first|(refine sx ?_ ?_<;>intro h<;>first|(exfalso;omega)|skip)|(refine g_op ?_;refine g_call ?_;refine g_args ?_;(first|refine s_fn (hcc _) ?_)<;>try first|omega|assumption)|refine ny ?_|refine WA_block ?_|(refine uX18_6_10 ?_;refine⟨by kernel_rfl,?_⟩)|((first|refine grp_cons (fun _=>hcc _) ?_)<;>try first|omega|assumption)|(refine g_d ?_;refine d_args ?_;(first|refine d_fn (hcc _) ?_|refine d_fnQ (fun _=>hcc _) ?_)<;>try first|omega|assumption)|(refine g_d ?_;(first|refine d_fnY (hcc _) ?_)<;>try first|omega|assumption)))
        · rw [if_neg (by assumption)] at hQ
          exact r_esA hQ (v':= .tup [.agg [.nilsl,.nilsl],.int .i64 0,.int .i64 (bnErr b)]) (.inl ⟨rfl,rfl,wk_tup ⟨show WkV _ (.agg [.lst [],.lst []]) from wk_agg ⟨wk_nil,wk_nil,trivial⟩,WkV.refl _,WkV.refl _,trivial⟩⟩)
        · rw [if_pos (by assumption)] at hQ
          exact r_esA hQ (v':= .tup [.agg [.nilsl,.nilsl],.int .i64 0,.int .i64 0]) (fin_prs hB (by first|exact frz_nl|exact frz_ls (mssV_plain _)) (by first|exact frz_nl|exact frz_ls (adsV_plain _)) ⟨rfl,show WkV _ (.tup [.agg [.lst (mssV b.ms),.lst (adsV b.ads)],.int .i64 0,.int .i64 0]) from wk_tup ⟨wk_agg ⟨wk_nl _ e1,wk_nl _ e2,trivial⟩,WkV.refl _,WkV.refl _,trivial⟩⟩)
      · rw [hA]
        have y2:([Blk.cells .own 28 2 [[.nilsl,.nilsl]],Blk.cells .own 3 1 [[.int .i64 0]],Blk.cells .own 29 1 [[.int .i64 0]]]++(Blk.cells .own 28 2 [[.nilsl,.sl ((lend m).length+(j2+7)) (adsV b.ads).length]]::Blk.cells .own 3 1 [[.int .i64 (k:Int)]]::Blk.cells .own 9 1 [[.str []]]:: .dead::X))[j2+7]?=some _:=x2
        refine WA_ren (L:=lend m) (ks:=[2,3,4,5]) (vs:=[.ptr 0 0 0,.ptr 1 0 0,.ptr 2 0 0,.ptr 3 0 0]) (Ts:=[.cells .own 28 2 [[.v .nilsl,.v .nilsl]],.cells .own 3 1 [[.v (.int .i64 0)]],.cells .own 29 1 [[.v (.int .i64 0)]],.cells .own 28 2 [[.v .nilsl,.sl 4 (adsV b.ads).length]],.cells .own 78 6 ((adsV b.ads).map (List.map TV.v))]) (js:=[0,1,2,3,j2+7]) ⟨[Blk.cells .own 28 2 [[.nilsl,.nilsl]],Blk.cells .own 3 1 [[.int .i64 0]],Blk.cells .own 29 1 [[.int .i64 0]]]++(Blk.cells .own 28 2 [[.nilsl,.sl ((lend m).length+(j2+7)) (adsV b.ads).length]]::Blk.cells .own 3 1 [[.int .i64 (k:Int)]]::Blk.cells .own 9 1 [[.str []]]:: .dead::X),List.append_assoc _ _ _,?_,?_,?_⟩ (by decide) rfl (by simp [TB.ok,TV.okT,tv_ok]) ?_
        · simp only [List.map_cons,List.map_nil,TV.inst,List.getD_cons_zero,List.getD_cons_succ]
          exact tv_
        · simp only [List.map_cons,List.map_nil,TB.inst,TV.inst,tv_map,List.getD_cons_zero,List.getD_cons_succ,y2]
          rfl
        · simp
        rintro B ⟨D,hB⟩
        simp only [List.map_cons,List.map_nil,TB.inst,TV.inst,tv_map,zipT,List.cons_append,List.nil_append,Nat.add_zero]
        refine WA_fzM (j:=4) rfl ?_
        simp only [List.map_cons,List.map_nil,frzV,frzC,List.set_cons_succ,List.set_cons_zero]
        rw [if_pos ⟨by first|rfl|trivial,Nat.le_refl _⟩,List.take_of_length_le (Nat.le_refl _)]
        simp only [mssV_frz,adsV_frz]
        unfold bnV at hcb
        have hcc:=fun m=>Gives_argX (vs:=[.agg [.nilsl,.lst (adsV b.ads)]]) (vs':=[.agg [.lst (mssV b.ms),.lst (adsV b.ads)]]) ⟨wk_agg ⟨wk_nl _ e1,WkV.refl _,trivial⟩,trivial⟩ (hcb m)
        (have FX:=hs;repeat'(first|(refine sx ?_ ?_<;>intro h<;>first|(exfalso;omega)|skip)|(refine g_op ?_;refine g_call ?_;refine g_args ?_;(first|refine s_fn (hcc _) ?_)<;>try first|omega|assumption)|refine ny ?_|refine WA_block ?_|(refine uX18_6_10 ?_;refine⟨by kernel_rfl,?_⟩)|((first|refine grp_cons (fun _=>hcc _) ?_)<;>try first|omega|assumption)|(refine g_d ?_;refine d_args ?_;(first|refine d_fn (hcc _) ?_|refine d_fnQ (fun _=>hcc _) ?_)<;>try first|omega|assumption)|(refine g_d ?_;(first|refine d_fnY (hcc _) ?_)<;>try first|omega|assumption)))
        · rw [if_neg (by assumption)] at hQ
          exact r_esA hQ (v':= .tup [.agg [.nilsl,.nilsl],.int .i64 0,.int .i64 (bnErr b)]) (.inl ⟨rfl,rfl,wk_tup ⟨show WkV _ (.agg [.lst [],.lst []]) from wk_agg ⟨wk_nil,wk_nil,trivial⟩,WkV.refl _,WkV.refl _,trivial⟩⟩)
        · rw [if_pos (by assumption)] at hQ
          exact r_esA hQ (v':= .tup [.agg [.nilsl,.lst (adsV b.ads)],.int .i64 0,.int .i64 0]) (fin_prs hB (by first|exact frz_nl|exact frz_ls (mssV_plain _)) (by first|exact frz_nl|exact frz_ls (adsV_plain _)) ⟨rfl,show WkV _ (.tup [.agg [.lst (mssV b.ms),.lst (adsV b.ads)],.int .i64 0,.int .i64 0]) from wk_tup ⟨wk_agg ⟨wk_nl _ e1,WkV.refl _,trivial⟩,WkV.refl _,WkV.refl _,trivial⟩⟩)
    · rcases hv2 with ⟨rfl,e2⟩|⟨j2,rfl,e2,x2⟩
      · rw [hA]
        have y1:([Blk.cells .own 28 2 [[.nilsl,.nilsl]],Blk.cells .own 3 1 [[.int .i64 0]],Blk.cells .own 29 1 [[.int .i64 0]]]++(Blk.cells .own 28 2 [[.sl ((lend m).length+(j1+7)) (mssV b.ms).length,.nilsl]]::Blk.cells .own 3 1 [[.int .i64 (k:Int)]]::Blk.cells .own 9 1 [[.str []]]:: .dead::X))[j1+7]?=some _:=x1
        refine WA_ren (L:=lend m) (ks:=[2,3,4,5]) (vs:=[.ptr 0 0 0,.ptr 1 0 0,.ptr 2 0 0,.ptr 3 0 0]) (Ts:=[.cells .own 28 2 [[.v .nilsl,.v .nilsl]],.cells .own 3 1 [[.v (.int .i64 0)]],.cells .own 29 1 [[.v (.int .i64 0)]],.cells .own 28 2 [[.sl 4 (mssV b.ms).length,.v .nilsl]],.cells .own 75 4 ((mssV b.ms).map (List.map TV.v))]) (js:=[0,1,2,3,j1+7]) ⟨[Blk.cells .own 28 2 [[.nilsl,.nilsl]],Blk.cells .own 3 1 [[.int .i64 0]],Blk.cells .own 29 1 [[.int .i64 0]]]++(Blk.cells .own 28 2 [[.sl ((lend m).length+(j1+7)) (mssV b.ms).length,.nilsl]]::Blk.cells .own 3 1 [[.int .i64 (k:Int)]]::Blk.cells .own 9 1 [[.str []]]:: .dead::X),List.append_assoc _ _ _,?_,?_,?_⟩ (by decide) rfl (by simp [TB.ok,TV.okT,tv_ok]) ?_
        · simp only [List.map_cons,List.map_nil,TV.inst,List.getD_cons_zero,List.getD_cons_succ]
          exact tv_
        · simp only [List.map_cons,List.map_nil,TB.inst,TV.inst,tv_map,List.getD_cons_zero,List.getD_cons_succ,y1]
          rfl
        · simp
        rintro B ⟨D,hB⟩
        simp only [List.map_cons,List.map_nil,TB.inst,TV.inst,tv_map,zipT,List.cons_append,List.nil_append,Nat.add_zero]
        refine WA_fzM (j:=4) rfl ?_
        simp only [List.map_cons,List.map_nil,frzV,frzC,List.set_cons_succ,List.set_cons_zero]
        rw [if_pos ⟨by first|rfl|trivial,Nat.le_refl _⟩,List.take_of_length_le (Nat.le_refl _)]
        simp only [mssV_frz,adsV_frz]
        unfold bnV at hcb
        have hcc:=fun m=>Gives_argX (vs:=[.agg [.lst (mssV b.ms),.nilsl]]) (vs':=[.agg [.lst (mssV b.ms),.lst (adsV b.ads)]]) ⟨wk_agg ⟨WkV.refl _,wk_nl _ e2,trivial⟩,trivial⟩ (hcb m)
        (have FX:=hs;repeat'(first|(refine sx ?_ ?_<;>intro h<;>first|(exfalso;omega)|skip)|(refine g_op ?_;refine g_call ?_;refine g_args ?_;(first|refine s_fn (hcc _) ?_)<;>try first|omega|assumption)|refine ny ?_|refine WA_block ?_|(refine uX18_6_10 ?_;refine⟨by kernel_rfl,?_⟩)|((first|refine grp_cons (fun _=>hcc _) ?_)<;>try first|omega|assumption)|(refine g_d ?_;refine d_args ?_;(first|refine d_fn (hcc _) ?_|refine d_fnQ (fun _=>hcc _) ?_)<;>try first|omega|assumption)|(refine g_d ?_;(first|refine d_fnY (hcc _) ?_)<;>try first|omega|assumption)))
        · rw [if_neg (by assumption)] at hQ
          exact r_esA hQ (v':= .tup [.agg [.nilsl,.nilsl],.int .i64 0,.int .i64 (bnErr b)]) (.inl ⟨rfl,rfl,wk_tup ⟨show WkV _ (.agg [.lst [],.lst []]) from wk_agg ⟨wk_nil,wk_nil,trivial⟩,WkV.refl _,WkV.refl _,trivial⟩⟩)
        · rw [if_pos (by assumption)] at hQ
          exact r_esA hQ (v':= .tup [.agg [.lst (mssV b.ms),.nilsl],.int .i64 0,.int .i64 0]) (fin_prs hB (by first|exact frz_nl|exact frz_ls (mssV_plain _)) (by first|exact frz_nl|exact frz_ls (adsV_plain _)) ⟨rfl,show WkV _ (.tup [.agg [.lst (mssV b.ms),.lst (adsV b.ads)],.int .i64 0,.int .i64 0]) from wk_tup ⟨wk_agg ⟨WkV.refl _,wk_nl _ e2,trivial⟩,WkV.refl _,WkV.refl _,trivial⟩⟩)
      · rw [hA,hA]
        have y1:([Blk.cells .own 28 2 [[.nilsl,.nilsl]],Blk.cells .own 3 1 [[.int .i64 0]],Blk.cells .own 29 1 [[.int .i64 0]]]++(Blk.cells .own 28 2 [[.sl ((lend m).length+(j1+7)) (mssV b.ms).length,.sl ((lend m).length+(j2+7)) (adsV b.ads).length]]::Blk.cells .own 3 1 [[.int .i64 (k:Int)]]::Blk.cells .own 9 1 [[.str []]]:: .dead::X))[j1+7]?=some _:=x1
        have y2:([Blk.cells .own 28 2 [[.nilsl,.nilsl]],Blk.cells .own 3 1 [[.int .i64 0]],Blk.cells .own 29 1 [[.int .i64 0]]]++(Blk.cells .own 28 2 [[.sl ((lend m).length+(j1+7)) (mssV b.ms).length,.sl ((lend m).length+(j2+7)) (adsV b.ads).length]]::Blk.cells .own 3 1 [[.int .i64 (k:Int)]]::Blk.cells .own 9 1 [[.str []]]:: .dead::X))[j2+7]?=some _:=x2
        have hjj:j1≠j2:=by rintro rfl;rw [x1] at x2;cases x2
        refine WA_ren (L:=lend m) (ks:=[2,3,4,5]) (vs:=[.ptr 0 0 0,.ptr 1 0 0,.ptr 2 0 0,.ptr 3 0 0]) (Ts:=[.cells .own 28 2 [[.v .nilsl,.v .nilsl]],.cells .own 3 1 [[.v (.int .i64 0)]],.cells .own 29 1 [[.v (.int .i64 0)]],.cells .own 28 2 [[.sl 4 (mssV b.ms).length,.sl 5 (adsV b.ads).length]],.cells .own 75 4 ((mssV b.ms).map (List.map TV.v)),.cells .own 78 6 ((adsV b.ads).map (List.map TV.v))]) (js:=[0,1,2,3,j1+7,j2+7]) ⟨[Blk.cells .own 28 2 [[.nilsl,.nilsl]],Blk.cells .own 3 1 [[.int .i64 0]],Blk.cells .own 29 1 [[.int .i64 0]]]++(Blk.cells .own 28 2 [[.sl ((lend m).length+(j1+7)) (mssV b.ms).length,.sl ((lend m).length+(j2+7)) (adsV b.ads).length]]::Blk.cells .own 3 1 [[.int .i64 (k:Int)]]::Blk.cells .own 9 1 [[.str []]]:: .dead::X),List.append_assoc _ _ _,?_,?_,?_⟩ (by decide) rfl (by simp [TB.ok,TV.okT,tv_ok]) ?_
        · simp only [List.map_cons,List.map_nil,TV.inst,List.getD_cons_zero,List.getD_cons_succ]
          exact tv_
        · simp only [List.map_cons,List.map_nil,TB.inst,TV.inst,tv_map,List.getD_cons_zero,List.getD_cons_succ,y1,y2]
          rfl
        · (simp;omega)
        rintro B ⟨D,hB⟩
        simp only [List.map_cons,List.map_nil,TB.inst,TV.inst,tv_map,zipT,List.cons_append,List.nil_append,Nat.add_zero]
        refine WA_fzM (j:=4) rfl ?_
        simp only [List.map_cons,List.map_nil,frzV,frzC,List.set_cons_succ,List.set_cons_zero]
        rw [if_pos ⟨by first|rfl|trivial,Nat.le_refl _⟩,List.take_of_length_le (Nat.le_refl _)]
        rw [if_neg (fun h=>absurd h.1 (by omega))]
        simp only [mssV_frz,adsV_frz]
        refine WA_fzM (j:=5) rfl ?_
        simp only [List.map_cons,List.map_nil,frzV,frzC,List.set_cons_succ,List.set_cons_zero]
        rw [if_pos ⟨by first|rfl|trivial,Nat.le_refl _⟩,List.take_of_length_le (Nat.le_refl _)]
        simp only [mssV_frz,adsV_frz]
        unfold bnV at hcb
        have hcc:=fun m=>Gives_argX (vs:=[.agg [.lst (mssV b.ms),.lst (adsV b.ads)]]) (vs':=[.agg [.lst (mssV b.ms),.lst (adsV b.ads)]]) ⟨wk_agg ⟨WkV.refl _,WkV.refl _,trivial⟩,trivial⟩ (hcb m)
        (have FX:=hs;repeat'(first|(refine sx ?_ ?_<;>intro h<;>first|(exfalso;omega)|skip)|(refine g_op ?_;refine g_call ?_;refine g_args ?_;(first|refine s_fn (hcc _) ?_)<;>try first|omega|assumption)|refine ny ?_|refine WA_block ?_|(refine uX18_6_10 ?_;refine⟨by kernel_rfl,?_⟩)|((first|refine grp_cons (fun _=>hcc _) ?_)<;>try first|omega|assumption)|(refine g_d ?_;refine d_args ?_;(first|refine d_fn (hcc _) ?_|refine d_fnQ (fun _=>hcc _) ?_)<;>try first|omega|assumption)|(refine g_d ?_;(first|refine d_fnY (hcc _) ?_)<;>try first|omega|assumption)))
        · rw [if_neg (by assumption)] at hQ
          exact r_esA hQ (v':= .tup [.agg [.nilsl,.nilsl],.int .i64 0,.int .i64 (bnErr b)]) (.inl ⟨rfl,rfl,wk_tup ⟨show WkV _ (.agg [.lst [],.lst []]) from wk_agg ⟨wk_nil,wk_nil,trivial⟩,WkV.refl _,WkV.refl _,trivial⟩⟩)
        · rw [if_pos (by assumption)] at hQ
          exact r_esA hQ (v':= .tup [.agg [.lst (mssV b.ms),.lst (adsV b.ads)],.int .i64 0,.int .i64 0]) (fin_prs hB (by first|exact frz_nl|exact frz_ls (mssV_plain _)) (by first|exact frz_nl|exact frz_ls (adsV_plain _)) ⟨rfl,show WkV _ (.tup [.agg [.lst (mssV b.ms),.lst (adsV b.ads)],.int .i64 0,.int .i64 0]) from wk_tup ⟨wk_agg ⟨WkV.refl _,WkV.refl _,trivial⟩,WkV.refl _,WkV.refl _,trivial⟩⟩)
  · obtain⟨rfl,k,h1,B,c1,c2,X,rfl⟩:=hm
    rw [h1] at hQ
    dsimp only at hQ
    clear h1 hln
    (have FX:=hs;repeat'(first|(refine sx ?_ ?_<;>intro h<;>first|(exfalso;omega)|skip)|(refine g_op ?_;refine g_call ?_;refine g_args ?_;(first|refine s_fn (hcc _) ?_)<;>try first|omega|assumption)|refine ny ?_|refine WA_block ?_|(refine uX18_6_10 ?_;refine⟨by kernel_rfl,?_⟩)|((first|refine grp_cons (fun _=>hcc _) ?_)<;>try first|omega|assumption)|(refine g_d ?_;refine d_args ?_;(first|refine d_fn (hcc _) ?_|refine d_fnQ (fun _=>hcc _) ?_)<;>try first|omega|assumption)|(refine g_d ?_;(first|refine d_fnY (hcc _) ?_)<;>try first|omega|assumption)))
    exact r_esA hQ (v':= .tup [.agg [.nilsl,.nilsl],.int .i64 k,.int .i64 7]) (.inl ⟨rfl,rfl,wk_tup ⟨show WkV _ (.agg [.lst [],.lst []]) from wk_agg ⟨wk_nil,wk_nil,trivial⟩,WkV.refl _,WkV.refl _,trivial⟩⟩)
end Go.Proofs.YtookikhphobnlaaGreatDoor
