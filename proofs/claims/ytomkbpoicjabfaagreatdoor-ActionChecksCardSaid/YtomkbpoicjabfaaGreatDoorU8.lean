/- contract: the program's Parse -/
import Derived.Test.YtomkbpoicjabfaaGreatDoorU71
set_option linter.unusedSimpArgs false
set_option linter.unusedVariables false
namespace Go.Proofs.YtomkbpoicjabfaaGreatDoor
open Go.RowKit
attribute [local irreducible] WA WOs WDs WAn qThen qBlock tput
set_option maxHeartbeats 1000000
set_option maxRecDepth 20000
set_option linter.unusedSimpArgs false
set_option linter.unusedVariables false
set_option maxHeartbeats 4000000
theorem ln1_le:∀ s:Txt,(ln1 s).length≤s.length
  |[]=>Nat.le_refl _
  | b::l=>by
    have:=ln1_le l
    unfold ln1
    split
    · simp
    · simp only [List.length_cons];omega
theorem aread_k(A:Mem)(c1 c2 c3:Blk)(a:ActR)(M:Mem)(hI:rdI A c1 c2 c3 a M)(n:Nat)(hA:A.length=n)(s:Txt)(hs:s.length≤1000)(k:Nat)(hk:AcN k a)(hk2:k≤1000):CallA Tryz.prog 24 [.ptr n 0 0,.str s,.int .i64 ((k:Int)+1)] M (fun v mo=>∃ b M',mo=some M'∧rdI A c1 c2 c3 b M'∧((v= .bool true∧lineA (decide (k=0)) a s=some b)∨(v= .bool false∧lineA (decide (k=0)) a s=none))):=by
  subst hA
  have h0:=hk.n
  have e:decide ((k:Int)+1=1)=decide (k=0):=decide_eq_decide.2 (by omega)
  refine aread_c A c1 c2 c3 a M hI s _ hs (by omega) (by omega) (by omega) _ (fun b M' h1 h2=>?_) (fun b M' h1 h2=>?_)
  · exact⟨b,M',rfl,h2,.inl ⟨rfl,e ▸ h1⟩⟩
  · exact⟨b,M',rfl,h2,.inr ⟨rfl,e ▸ h1⟩⟩
abbrev azB:Blk:= .cells .own 27 4 [[.int .i64 0,.nilsl,.nilsl,.nilsl]]
/-- the memory of Parse -/
def paI(m:Mem)(s:Txt)(LB:Blk)(k:Nat)(a:ActR)(M:Mem):Prop:=rdI (lend m++[azB,.cells .own 3 1 [[.int .i64 0]],.cells .own 28 1 [[.int .i64 0]]]) (.cells .own 3 1 [[.int .i64 k]]) (.cells .own 9 1 [[.str s]]) LB a M
def paJ(m:Mem)(LB:Blk)(k:Nat)(M:Mem):Prop:=∃ B c1 c2 X,M=lend m++(azB:: .cells .own 3 1 [[.int .i64 k]]:: .cells .own 28 1 [[.int .i64 7]]::B::c1::c2::LB::X)
theorem paI_at{m:Mem}{s:Txt}{LB:Blk}{k:Nat}{a:ActR}{M:Mem}(h:paI m s LB k a M):M[(lend m).length+6]?=some LB:=by
  obtain⟨v1,v2,v3,X,rfl, -⟩:=h
  simp
theorem paI_box{m:Mem}{s:Txt}{LB:Blk}{k:Nat}{a:ActR}{M:Mem}(h:paI m s LB k a M):M[(lend m).length+5]?=some (.cells .own 9 1 [[.str s]]):=by
  obtain⟨v1,v2,v3,X,rfl, -⟩:=h
  simp
theorem paI_set{m:Mem}{s:Txt}{LB LC:Blk}{k:Nat}{a:ActR}{M:Mem}(h:paI m s LB k a M):paI m s LC k a (M.set ((lend m).length+6) LC):=by
  obtain⟨v1,v2,v3,X,rfl,h1⟩:=h
  exact⟨v1,v2,v3,X,by simp,h1⟩
theorem paJ_at{m:Mem}{LB:Blk}{k:Nat}{M:Mem}(h:paJ m LB k M):M[(lend m).length+6]?=some LB:=by
  obtain⟨B,c1,c2,X,rfl⟩:=h
  simp
theorem paJ_set{m:Mem}{LB LC:Blk}{k:Nat}{M:Mem}(h:paJ m LB k M):paJ m LC k (M.set ((lend m).length+6) LC):=by
  obtain⟨B,c1,c2,X,rfl⟩:=h
  exact⟨B,c1,c2,X,by simp⟩
theorem wk_az(d e:Int):WkV (.tup [.agg [.int .i64 0,.nilsl,.nilsl,.nilsl],.int .i64 d,.int .i64 e]) (paV (az,d,e)):=wk_tup ⟨show WkV _ (.agg [.int .i64 0,.lst [],.lst [],.lst []]) from wk_agg ⟨WkV.refl _,wk_nil,wk_nil,wk_nil,trivial⟩,WkV.refl _,WkV.refl _,trivial⟩
theorem uU8_6_10{N:Nat}{l:List Oper}{t:List (Nat×V)}{m:Mem}{Q:Exit→List (Nat×V)→Mem→Prop}(h:RgT Tryz.prog N l t m Q 27 (fun i=>if i==3 || i==4 then .w else if i==2 then .f else if i==1 then .q else .p) [.one 0,.one 1,.one 2,.one 3,.one 4]):WA Tryz.prog N (.region 10 l.toArray true) t m Q:=d_rgT h
theorem fin_pa{m0 D:Mem}{d a c:Int}{l1 l2 l3:List (List V)}{R:V→Option Mem→Prop}(h1:plainLL l1=true)(h2:plainLL l2=true)(h3:plainLL l3=true)(h:R (.tup [.agg [.int .i64 d,.lst l1,.lst l2,.lst l3],.int .i64 a,.int .i64 c]) none):Fin m0 R (.tup [.agg [.int .i64 d,.lst l1,.lst l2,.lst l3],.int .i64 a,.int .i64 c]) (lend m0++D):=by
  refine .inr ⟨D,_,rfl,?_,h⟩
  show(frzs (frz _ _ 3) [_,_,_]).map V.tup=_
  have e:frz (lend m0++D) m0.length 3 (.agg [.int .i64 d,.lst l1,.lst l2,.lst l3])=some (.agg [.int .i64 d,.lst l1,.lst l2,.lst l3]):=by
    show(frzs (frz _ _ 2) _).map V.agg=_
    rw [frzs_cons (frz_int _ _ _ _ _) (frzs_cons (frz_ls h1) (frzs_cons (frz_ls h2) (frzs_cons (frz_ls h3) rfl)))]
    rfl
  rw [frzs_cons e (frzs_cons (frz_int _ _ _ _ _) (frzs_cons (frz_int _ _ _ _ _) rfl))]
  rfl
theorem prtsV_pl(l:List PartR):plainLL (prtsV l)=true:=plainLL_of fun e he=>by
  obtain⟨x,_,rfl⟩:=List.mem_map.1 he
  simp [prtV,plainL,V.plain,rksV_plain]
theorem evsV_pl(l:List EvR):plainLL (evsV l)=true:=plainLL_of fun e he=>by obtain⟨x,_,rfl⟩:=List.mem_map.1 he;rfl
theorem ldsV_pl(l:List (Int×Int)):plainLL (ldsV l)=true:=plainLL_of fun e he=>by obtain⟨x,_,rfl⟩:=List.mem_map.1 he;rfl
theorem aparse_rows (s0:Txt) (hs:s0.length≤60000) (hrn:(cutP 10 s0).length≤1000) (hrm:∀ r∈cutP 10 s0,r.length≤999) (m:Mem):Gives Tryz.prog 6 [.str s0] m (paV (prsA s0)):=by
  suffices key:CallA Tryz.prog 6 [.str s0] m (fun v mo=>mo=none∧WkV v (paV (prsA s0))) from Gives_ofX key fun v mo h=>h
  refine CallA_in Tryz.func6 rfl Tryz.ntmps6 Tryz.results6 (by kernel_rfl) (by simp) fun Q hQ=>?_
  unfold prsA at hQ
  rw [if_neg (by omega)] at hQ
  (repeat'(first|(refine sx ?_ ?_<;>intro h<;>first|(exfalso;omega)|skip)|refine ny ?_|refine WA_block ?_|(refine uU8_6_10 ?_;refine⟨by kernel_rfl,?_⟩)))
  all_goals(try(exfalso;omega))
  refine g_op ?_;refine g_call ?_;refine g_args ?_;refine s_fnA (xlines_o s0 _) ?_
  rintro v mo ⟨rfl,rfl⟩
  simp only [Option.getD_some]
  (repeat'(first|(refine sx ?_ ?_<;>intro h<;>first|(exfalso;omega)|skip)|refine ny ?_|refine WA_block ?_|(refine uU8_6_10 ?_;refine⟨by kernel_rfl,?_⟩)))
  have hln:∀ a b c d e:Blk,(lend m++[a,b,c,d,e]).length=(lend m).length+5:=by intros;simp
  simp only [hln,List.append_assoc,List.cons_append,List.nil_append]
  refine WA_rfA (fun m'=>∃ a k,rowsA 0 az (cutP 10 s0)= .ok a∧AcN k a∧(k+1=(cutP 10 s0).length∧k≤1000)∧paI m [] .dead k a m') (fun c m'=>c= .ret∧∃ k,rowsA 0 az (cutP 10 s0)= .error k∧paJ m .dead k m') (fun lp LB LL LD hY=>?_) (fun m' hm=>?_) (fun c m' hm=>?_)
  · refine xlines1 lp ((lend m).length+5) _ s0 (by omega) _ (fun s M=>∃ a k,rowsA k a (cutP 10 s)=rowsA 0 az (cutP 10 s0)∧AcN k a∧(k+(cutP 10 s).length=(cutP 10 s0).length∧∀ r∈cutP 10 s,r∈cutP 10 s0)∧paI m s LB k a M) (fun M=>∃ k,rowsA 0 az (cutP 10 s0)= .error k∧paJ m (LD .ret) k M) ⟨az,0,rfl,az_n,⟨by omega,fun r hr=>hr⟩,⟨.nilsl,.nilsl,.nilsl,[],by simp [az],⟨.inl ⟨rfl,rfl⟩,.inl ⟨rfl,rfl⟩,.inl ⟨rfl,rfl⟩⟩⟩⟩ ?_ ?_ ?_ ?_
    · rintro s M' ⟨a,k, -, -, -,h4⟩
      exact paI_box h4
    · rintro M' ⟨a,k,h1,h2,⟨h3, -⟩,h4⟩
      refine⟨M',rfl,.inl ⟨?_,a,k,h1.symm,h2,⟨h3,?_⟩,?_⟩⟩
      · have:=paI_at h4;simpa using this
      · simp [cutP] at h3;omega
      · have:=paI_set (LC:= .dead) h4;simpa using this
    · rintro M' ⟨k,h1,h2⟩
      refine⟨M',rfl,.inr ⟨.ret,?_,rfl,k,h1,?_⟩⟩
      · have:=paJ_at h2;simpa using this
      · have:=paJ_set (LC:= .dead) h2;simpa using this
    · rintro s M' hs0 hsl ⟨a,k,h1,h2,⟨h3n,h3q⟩,v1,v2,v3,X,rfl,hv⟩ R' hR1 hR2
      have hslen:s.length≤60000:=by omega
      have hcp:0<(cutP 10 s).length:=List.length_pos_iff.2 (cutP_ne 10 s)
      have hkb:k≤1000:=by omega
      have hlt:=lnR_lt hs0
      have hsp:∀ z:Blk,(lend m++[azB,.cells .own 3 1 [[.int .i64 0]],.cells .own 28 1 [[.int .i64 0]]]++(.cells .own 27 4 [[.int .i64 a.dip,v1,v2,v3]]:: .cells .own 3 1 [[.int .i64 k]]:: .cells .own 9 1 [[.str s]]::LB::X)).set ((lend m).length+5) z=(lend m++[azB,.cells .own 3 1 [[.int .i64 0]],.cells .own 28 1 [[.int .i64 0]],.cells .own 27 4 [[.int .i64 a.dip,v1,v2,v3]],.cells .own 3 1 [[.int .i64 k]],z])++LB::X:=fun z=>by simp
      rw [hsp]
      refine hY _ _ _ R' rfl ?_
      simp only [setPs,List.append_assoc,List.cons_append,List.nil_append]
      (have FX:=hkb;repeat'(first|(refine sx ?_ ?_<;>intro h<;>first|(exfalso;omega)|skip)|refine ny ?_|refine WA_block ?_|(refine uU8_6_10 ?_;refine⟨by kernel_rfl,?_⟩)))
      refine⟨rfl,by simp,?_⟩
      clear FX
      rcases ln_cut hs0 with ⟨p,e1,e2,e3⟩|⟨e1,e2,e3,e4⟩
      · have hcs:=fun m=>xcut_c (p++[10]) [10] (by rw [←e1];have:=ln1_le s;omega) m
        rw [(suf_yes p).1,(suf_yes p).2] at hcs
        have hpl:p.length≤999:=hrm p (h3q p (by rw [e3];exact List.mem_cons_self))
        have h3r:∀ r∈cutP 10 (lnR s),r∈cutP 10 s0:=fun r hr=>h3q r (by rw [e3];exact List.mem_cons_of_mem _ hr)
        rw [e1]
        rw [e3,rowsA_cut] at h1
        rw [e3,List.length_cons] at h3n
        clear e1 e2 e3 h3q
        (have FX:=hkb;repeat'(first|(refine sx ?_ ?_<;>intro h<;>first|(exfalso;omega)|skip)|(refine g_op ?_;refine g_call ?_;refine g_args ?_;(first|refine s_fn (hcs _) ?_)<;>try first|omega|assumption)|refine ny ?_|refine WA_block ?_|(refine uU8_6_10 ?_;refine⟨by kernel_rfl,?_⟩)|((first|refine grp_cons (fun _=>hcs _) ?_)<;>try first|omega|assumption)|(refine g_d ?_;refine d_args ?_;(first|refine d_fn (hcs _) ?_|refine d_fnQ (fun _=>hcs _) ?_)<;>try first|omega|assumption)|(refine g_d ?_;(first|refine d_fnY (hcs _) ?_)<;>try first|omega|assumption)))
        refine g_op ?_;refine g_call ?_;refine g_args ?_;refine s_fnA (aread_k (lend m++[azB,.cells .own 3 1 [[.int .i64 0]],.cells .own 28 1 [[.int .i64 0]]]) (.cells .own 3 1 [[.int .i64 ((k:Int)+1)]]) (.cells .own 9 1 [[.str (lnR s)]]) LL a _ ⟨v1,v2,v3,X,by simp,hv⟩ ((lend m).length+3) (by simp) p (by omega) k h2 hkb) ?_
        rintro v mo ⟨a',M',rfl,⟨u1,u2,u3,X',rfl,hu⟩,hcase⟩
        simp only [Option.getD_some,List.append_assoc,List.cons_append,List.nil_append]
        rcases hcase with ⟨rfl,hl⟩|⟨rfl,hl⟩
        · rw [hl] at h1
          (have FX:=hkb;repeat'(first|(refine sx ?_ ?_<;>intro h<;>first|(exfalso;omega)|skip)|(refine g_op ?_;refine g_call ?_;refine g_args ?_;(first|refine s_fn (hcs _) ?_)<;>try first|omega|assumption)|refine ny ?_|refine WA_block ?_|(refine uU8_6_10 ?_;refine⟨by kernel_rfl,?_⟩)|((first|refine grp_cons (fun _=>hcs _) ?_)<;>try first|omega|assumption)|(refine g_d ?_;refine d_args ?_;(first|refine d_fn (hcs _) ?_|refine d_fnQ (fun _=>hcs _) ?_)<;>try first|omega|assumption)|(refine g_d ?_;(first|refine d_fnY (hcs _) ?_)<;>try first|omega|assumption)))
          refine rndQ_nrm (LL:=LL) (A:=lend m++[azB,.cells .own 3 1 [[.int .i64 0]],.cells .own 28 1 [[.int .i64 0]],.cells .own 27 4 [[.int .i64 a'.dip,u1,u2,u3]],.cells .own 3 1 [[.int .i64 ((k:Int)+1)]],.cells .own 9 1 [[.str (lnR s)]]]) (X:=X') (by simp) (by simp) (hR1 _ ⟨a',k+1,h1,lineA_n h2 hpl hl,⟨by omega,h3r⟩,u1,u2,u3,X',by simp,hu⟩)
        · rw [hl] at h1
          (have FX:=hkb;repeat'(first|(refine sx ?_ ?_<;>intro h<;>first|(exfalso;omega)|skip)|(refine g_op ?_;refine g_call ?_;refine g_args ?_;(first|refine s_fn (hcs _) ?_)<;>try first|omega|assumption)|refine ny ?_|refine WA_block ?_|(refine uU8_6_10 ?_;refine⟨by kernel_rfl,?_⟩)|((first|refine grp_cons (fun _=>hcs _) ?_)<;>try first|omega|assumption)|(refine g_d ?_;refine d_args ?_;(first|refine d_fn (hcs _) ?_|refine d_fnQ (fun _=>hcs _) ?_)<;>try first|omega|assumption)|(refine g_d ?_;(first|refine d_fnY (hcs _) ?_)<;>try first|omega|assumption)))
          refine rndQ_ret (LL:=LL) (A:=lend m++[azB,.cells .own 3 1 [[.int .i64 ((k:Int)+1)]],.cells .own 28 1 [[.int .i64 7]],.cells .own 27 4 [[.int .i64 a'.dip,u1,u2,u3]],.cells .own 3 1 [[.int .i64 ((k:Int)+1)]],.cells .own 9 1 [[.str (lnR s)]]]) (X:=X') (by simp) (by simp) (hR2 _ ⟨k+1,h1.symm,.cells .own 27 4 [[.int .i64 a'.dip,u1,u2,u3]],.cells .own 3 1 [[.int .i64 ((k:Int)+1)]],.cells .own 9 1 [[.str (lnR s)]],X',by simp⟩)
      · have hcs:=fun m=>xcut_c s [10] (by omega) m
        rw [suf_no e3] at hcs
        rw [e1]
        rw [e4,rowsA_one hs0] at h1
        clear e1 e2 e3 e4
        (have FX:=hkb;repeat'(first|(refine sx ?_ ?_<;>intro h<;>first|(exfalso;omega)|skip)|(refine g_op ?_;refine g_call ?_;refine g_args ?_;(first|refine s_fn (hcs _) ?_)<;>try first|omega|assumption)|refine ny ?_|refine WA_block ?_|(refine uU8_6_10 ?_;refine⟨by kernel_rfl,?_⟩)|((first|refine grp_cons (fun _=>hcs _) ?_)<;>try first|omega|assumption)|(refine g_d ?_;refine d_args ?_;(first|refine d_fn (hcs _) ?_|refine d_fnQ (fun _=>hcs _) ?_)<;>try first|omega|assumption)|(refine g_d ?_;(first|refine d_fnY (hcs _) ?_)<;>try first|omega|assumption)))
        refine rndQ_ret (LL:=LL) (A:=lend m++[azB,.cells .own 3 1 [[.int .i64 ((k:Int)+1)]],.cells .own 28 1 [[.int .i64 7]],.cells .own 27 4 [[.int .i64 a.dip,v1,v2,v3]],.cells .own 3 1 [[.int .i64 ((k:Int)+1)]],.cells .own 9 1 [[.str (lnR s)]]]) (X:=X) (by simp) (by simp) (hR2 _ ⟨k+1,h1.symm,.cells .own 27 4 [[.int .i64 a.dip,v1,v2,v3]],.cells .own 3 1 [[.int .i64 ((k:Int)+1)]],.cells .own 9 1 [[.str (lnR s)]],X,by simp⟩)
  · obtain⟨a,k,h1,h2,⟨h3n,h3k⟩,v1,v2,v3,X,rfl,hv⟩:=hm
    rw [h1] at hQ
    dsimp only at hQ
    have hcb:=fun m=>acheckaction_c a (h2.lt h3k) m
    clear h1 h2 hln
    refine qB_normal ?_
    refine qT_normal ?_
    have hsp:(lend m++[azB,.cells .own 3 1 [[.int .i64 0]],.cells .own 28 1 [[.int .i64 0]]]++(.cells .own 27 4 [[.int .i64 a.dip,v1,v2,v3]]:: .cells .own 3 1 [[.int .i64 k]]:: .cells .own 9 1 [[.str []]]::Blk.dead::X))=lend m++([azB,.cells .own 3 1 [[.int .i64 0]],.cells .own 28 1 [[.int .i64 0]]]++(.cells .own 27 4 [[.int .i64 a.dip,v1,v2,v3]]::([.cells .own 3 1 [[.int .i64 k]],.cells .own 9 1 [[.str []]],.dead]++X))):=by simp
    rw [hsp]
    refine WA_fzAct (L:=lend m) (Y1:=[azB,.cells .own 3 1 [[.int .i64 0]],.cells .own 28 1 [[.int .i64 0]]]) (Y2:=[.cells .own 3 1 [[.int .i64 k]],.cells .own 9 1 [[.str []]],.dead]) (o:=(lend m++[azB,Blk.cells .own 3 1 [[.int .i64 0]],Blk.cells .own 28 1 [[.int .i64 0]]]).length+4) hv (by simp) (fun _ _=>rfl) (fun _ _=>rfl) (fun _ _=>rfl) (fun _ _=>rfl) (fun _ _=>rfl) fun X'=>?_
    clear hsp hv
    simp only [List.append_assoc,List.cons_append,List.nil_append]
    unfold actV at hcb
    by_cases hk0:k=0
    · rw [if_pos (by omega)] at hQ
      subst hk0
      (have FX:=h3k;repeat'(first|(refine sx ?_ ?_<;>intro h<;>first|(exfalso;omega)|skip)|(refine g_op ?_;refine g_call ?_;refine g_args ?_;(first|refine s_fn (hcb _) ?_)<;>try first|omega|assumption)|refine ny ?_|refine WA_block ?_|(refine uU8_6_10 ?_;refine⟨by kernel_rfl,?_⟩)|((first|refine grp_cons (fun _=>hcb _) ?_)<;>try first|omega|assumption)|(refine g_d ?_;refine d_args ?_;(first|refine d_fn (hcb _) ?_|refine d_fnQ (fun _=>hcb _) ?_)<;>try first|omega|assumption)|(refine g_d ?_;(first|refine d_fnY (hcb _) ?_)<;>try first|omega|assumption)))
      all_goals(try(exfalso;first|omega|contradiction))
      exact r_esA hQ (v':= .tup [.agg [.int .i64 0,.nilsl,.nilsl,.nilsl],.int .i64 1,.int .i64 7]) (.inl ⟨rfl,rfl,wk_az 1 7⟩)
    · rw [if_neg (by omega)] at hQ
      have hk1:¬ (k:Int)=0:=by omega
      (have FX:=And.intro h3k hk1;repeat'(first|(refine sx ?_ ?_<;>intro h<;>first|(exfalso;omega)|skip)|(refine g_op ?_;refine g_call ?_;refine g_args ?_;(first|refine s_fn (hcb _) ?_)<;>try first|omega|assumption)|refine ny ?_|refine WA_block ?_|(refine uU8_6_10 ?_;refine⟨by kernel_rfl,?_⟩)|((first|refine grp_cons (fun _=>hcb _) ?_)<;>try first|omega|assumption)|(refine g_d ?_;refine d_args ?_;(first|refine d_fn (hcb _) ?_|refine d_fnQ (fun _=>hcb _) ?_)<;>try first|omega|assumption)|(refine g_d ?_;(first|refine d_fnY (hcb _) ?_)<;>try first|omega|assumption)))
      all_goals(try(exfalso;first|omega|contradiction))
      · rw [if_neg (by assumption)] at hQ
        exact r_esA hQ (v':= .tup [.agg [.int .i64 0,.nilsl,.nilsl,.nilsl],.int .i64 0,.int .i64 (acErr a)]) (.inl ⟨rfl,rfl,wk_az 0 _⟩)
      · rw [if_pos (by assumption)] at hQ
        exact r_esA hQ (v':= .tup [.agg [.int .i64 a.dip,.lst (prtsV a.parts),.lst (evsV a.evs),.lst (ldsV a.leads)],.int .i64 0,.int .i64 0]) (fin_pa (prtsV_pl _) (evsV_pl _) (ldsV_pl _) ⟨rfl,WkV.refl _⟩)
  · obtain⟨rfl,k,h1,B,c1,c2,X,rfl⟩:=hm
    rw [h1] at hQ
    dsimp only at hQ
    clear h1 hln
    (have FX:=hs;repeat'(first|(refine sx ?_ ?_<;>intro h<;>first|(exfalso;omega)|skip)|refine ny ?_|refine WA_block ?_|(refine uU8_6_10 ?_;refine⟨by kernel_rfl,?_⟩)))
    exact r_esA hQ (v':= .tup [.agg [.int .i64 0,.nilsl,.nilsl,.nilsl],.int .i64 k,.int .i64 7]) (.inl ⟨rfl,rfl,wk_az k 7⟩)
end Go.Proofs.YtomkbpoicjabfaaGreatDoor
