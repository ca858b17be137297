/- contract: the reference writes an action -/
import Derived.Test.YtomkbpoicjabfaaGreatDoorU16
set_option linter.unusedSimpArgs false
set_option linter.unusedVariables false
namespace Go.Proofs.YtomkbpoicjabfaaGreatDoor
open Go.RowKit
attribute [local irreducible] WA WOs WDs WAn qThen qBlock tput
set_option maxHeartbeats 1000000
set_option maxRecDepth 20000
set_option linter.unusedSimpArgs false
set_option linter.unusedVariables false
set_option maxHeartbeats 8000000
def flT(L:List Txt):Txt:=L.flatMap fun l=>l++[10]
theorem flT_snoc(L:List Txt)(x:Txt):flT (L++[x])=flT L++x++[10]:=by simp [flT,List.flatMap_append]
theorem flT_len{L:List Txt}(h:∀ l∈L,l.length≤999)(hl:L.length≤41):(flT L).length≤41000:=by
  have h1:=flat_len h
  have h2:L.length * 1000≤41 * 1000:=Nat.mul_le_mul_right _ hl
  exact Nat.le_trans h1 h2

theorem rdashed_c(s:Txt)(m:Mem):Gives Tryz.prog 46 [.str s] m (.str (drW s)):=by
  unfold drW
  by_cases h:s=[]
  · rw [if_pos h]
    refine Gives_in Tryz.func46 rfl Tryz.ntmps46 Tryz.results46 (by kernel_rfl) (by simp) rfl fun Q hQ=>?_
    (repeat'(first|(refine sx ?_ ?_<;>intro h<;>first|(exfalso;omega)|skip)|refine ny ?_|refine WA_block ?_))
    all_goals(try(exfalso;contradiction))
    all_goals(refine r_es hQ ?_;try with_reducible rfl)
  · rw [if_neg h]
    refine Gives_in Tryz.func46 rfl Tryz.ntmps46 Tryz.results46 (by kernel_rfl) (by simp) rfl fun Q hQ=>?_
    (repeat'(first|(refine sx ?_ ?_<;>intro h<;>first|(exfalso;omega)|skip)|refine ny ?_|refine WA_block ?_))
    all_goals(try(exfalso;contradiction))
    all_goals(refine r_es hQ ?_;try with_reducible rfl)
theorem uU17_14_6{N:Nat}{l:List Oper}{t:List (Nat×V)}{m:Mem}{Q:Exit→List (Nat×V)→Mem→Prop}(h:RgN Tryz.prog N l t m Q (fun i=>if i==1 || i==3 || i==4 || i==5 || i==7 || i==8 || i==9 || i==10 || i==12 || i==13 || i==14 || i==15 || i==17 || i==18 || i==19 then .q else .p) [.one 0,.one 1,.one 2,.one 3,.one 4,.one 5,.one 6,.one 7,.one 8,.one 9,.one 10,.one 11,.one 12,.one 13,.one 14,.one 15,.one 16,.one 17,.one 18,.one 19,.one 20]):WA Tryz.prog N (.region 6 l.toArray true) t m Q:=d_rgN h
theorem uU17_14_10{N:Nat}{l:List Oper}{t:List (Nat×V)}{m:Mem}{Q:Exit→List (Nat×V)→Mem→Prop}(h:RgN Tryz.prog N l t m Q (fun i=>if i==1 || i==4 || i==9 || i==10 || i==11 || i==12 || i==15 || i==20 || i==21 || i==22 then .q else .p) [.one 0,.one 1,.one 2,.one 3,.one 4,.one 5,.one 6,.one 7,.one 8,.one 9,.one 10,.one 11,.one 12,.one 13,.one 14,.one 15,.one 16,.one 17,.one 18,.one 19,.one 20,.one 21,.one 22,.one 23]):WA Tryz.prog N (.region 10 l.toArray true) t m Q:=d_rgN h
theorem uU17_14_19{N:Nat}{l:List Oper}{t:List (Nat×V)}{m:Mem}{Q:Exit→List (Nat×V)→Mem→Prop}(h:RgN Tryz.prog N l t m Q (fun i=>if i==1 || i==3 || i==4 || i==5 || i==7 || i==8 || i==9 || i==11 || i==12 || i==14 || i==15 || i==16 || i==17 then .q else .p) [.one 0,.one 1,.one 2,.one 3,.one 4,.one 5,.one 6,.one 7,.one 8,.one 9,.one 10,.one 11,.one 12,.one 13,.one 14,.one 15,.one 16,.one 17,.one 18]):WA Tryz.prog N (.region 19 l.toArray true) t m Q:=d_rgN h
theorem uU17_14_23{N:Nat}{l:List Oper}{t:List (Nat×V)}{m:Mem}{Q:Exit→List (Nat×V)→Mem→Prop}(h:RgN Tryz.prog N l t m Q (fun i=>if i==1 || i==3 || i==7 || i==8 || i==9 || i==10 || i==12 || i==16 || i==17 || i==18 || i==19 then .q else .p) [.one 0,.one 1,.one 2,.one 3,.one 4,.one 5,.one 6,.one 7,.one 8,.one 9,.one 10,.one 11,.one 12,.one 13,.one 14,.one 15,.one 16,.one 17,.one 18,.one 19,.one 20]):WA Tryz.prog N (.region 23 l.toArray true) t m Q:=d_rgN h
theorem rprint_c (a:ActR) (hw:AcWr a) (m:Mem):Gives Tryz.prog 14 [.agg (actV a)] m (.str (printA a)):=by
  unfold actV
  have hlp:=prtsV_length (l:=a.parts)
  have hle:=evsV_length (l:=a.evs)
  have hld:=ldsV_length (l:=a.leads)
  have hfp:=hw.fp
  have hfe:=hw.fe
  have hfl:=hw.fl
  have hdd:=fun m=>bdec_c a.dip (by have:=hw.d;omega) m
  have hdl:=itoa_len hw.d
  have k0:([97,99,116,105,111,110,32]:Txt).length=7:=rfl
  have k1:([10]:Txt).length=1:=rfl
  have k2:([32]:Txt).length=1:=rfl
  have k3:([112,97,114,116,32]:Txt).length=5:=rfl
  have k4:([101,118,101,110,116,32]:Txt).length=6:=rfl
  have k5:([108,101,97,100,32]:Txt).length=5:=rfl
  have hap:∀ a b:Txt,(a++b).length=a.length+b.length:=fun a b=>List.length_append
  have hpr:printA a=flT (joinS (dpW a.dip)::(a.parts.map fun x=>joinS (ptW x))++((a.evs.map fun x=>joinS (evW x))++a.leads.map fun x=>joinS (ldW x))):=by
    unfold printA linesA flT
    rw [List.cons_append]
  have h1l:∀ l∈(joinS (dpW a.dip)::a.parts.map fun x=>joinS (ptW x)),l.length≤999:=fun l hl=>by
    rcases List.mem_cons.1 hl with rfl|hl
    · exact dpW_len hw.d
    · obtain⟨x,hx,rfl⟩:=List.mem_map.1 hl
      exact ptW_len (hw.p x hx)
  have hs0:[97,99,116,105,111,110,32]++Lib.itoa a.dip++[10]=flT (joinS (dpW a.dip)::(a.parts.take 0).map fun x=>joinS (ptW x)):=by
    rw [←line_dpT]
    simp [flT,rowT]
  suffices key:CallA Tryz.prog 14 [.agg [.int .i64 a.dip,.lst (prtsV a.parts),.lst (evsV a.evs),.lst (ldsV a.leads)]] m (fun v mo=>mo=none∧WkV v (.str (printA a))) from Gives_ofX key fun v mo h=>h
  refine CallA_in Tryz.func14 rfl Tryz.ntmps14 Tryz.results14 (by kernel_rfl) (by simp) fun Q hQ=>?_
  rw [hpr] at hQ
  clear hpr
  generalize Lib.itoa a.dip=td at *
  (have FX:=And.intro hlp (And.intro hdl (And.intro k0 (And.intro k1 hap)));repeat'(first|(refine sx ?_ ?_<;>intro h<;>first|(exfalso;omega)|skip)|(refine g_op ?_;refine g_call ?_;refine g_args ?_;(first|refine s_fn (hdd _) ?_)<;>try first|omega|assumption)|refine ny ?_|refine WA_block ?_|(refine uU17_14_6 ?_;refine⟨by kernel_rfl,?_⟩)|(refine uU17_14_10 ?_;refine⟨by kernel_rfl,?_⟩)|(refine uU17_14_19 ?_;refine⟨by kernel_rfl,?_⟩)|(refine uU17_14_23 ?_;refine⟨by kernel_rfl,?_⟩)|((first|refine grp_cons (fun _=>hdd _) ?_)<;>try first|omega|assumption)|(refine g_d ?_;refine d_args ?_;(first|refine d_fn (hdd _) ?_|refine d_fnQ (fun _=>hdd _) ?_)<;>try first|omega|assumption)|(refine g_d ?_;(first|refine d_fnY (hdd _) ?_)<;>try first|omega|assumption)))
  all_goals(try(exfalso;omega))
  clear FX
  refine WA_while (σ:=Nat×Mem) [1,3,4] (fun q=>[.ptr (lend m).length 0 0,.str (flT (joinS (dpW a.dip)::(a.parts.take q.1).map fun x=>joinS (ptW x))),.int .i64 q.1]) (fun q=>q.2) (fun q=>q.1≤a.parts.length∧∃ X,q.2=lend m++(actB a::X)) (fun q=>a.parts.length - q.1) (0,_) ⟨Nat.zero_le _,[],rfl⟩ (by dsimp only;rw [←hs0];exact tv_) rfl ?_
  clear hs0 hdd hdl
  rintro⟨i,M1⟩ ⟨hi,X,hM1⟩ K hK
  dsimp only at hi hM1
  subst hM1
  simp only [zipT]
  rcases Nat.lt_or_ge i a.parts.length with hlt|hge
  · have hga:=prtsV_get hlt
    have hx:=hw.p _ (gdm (d:=p0) hlt)
    have hlt1:=line_ptT (a.parts.getD i p0)
    have hLl:(flT (joinS (dpW a.dip)::(a.parts.take i).map fun x=>joinS (ptW x))).length≤41000:=flT_len (fun l hl=>h1l l (by
      rcases List.mem_cons.1 hl with rfl|hl
      · exact List.mem_cons_self
      · obtain⟨x,hx,rfl⟩:=List.mem_map.1 hl
        exact List.mem_cons_of_mem _ (List.mem_map.2 ⟨x,List.mem_of_mem_take hx,rfl⟩))) (by rw [List.length_cons,List.length_map,List.length_take];omega)
    have hsn:flT (joinS (dpW a.dip)::(a.parts.take (i+1)).map fun x=>joinS (ptW x))=flT (joinS (dpW a.dip)::(a.parts.take i).map fun x=>joinS (ptW x))++joinS (ptW (a.parts.getD i p0))++[10]:=by
      rw [←flT_snoc,take_snR (d:=p0) hlt]
      simp
    have hny:=fun(M9:Mem)=>hK (i+1,M9)
    dsimp only at hny
    rw [hsn] at hny
    clear hK hsn
    generalize flT (joinS (dpW a.dip)::(a.parts.take i).map fun x=>joinS (ptW x))=u0 at *
    generalize a.parts.getD i p0=p at *
    obtain⟨nm,dr,cor,wt,fr⟩:=p
    dsimp only at hlt1
    rw [←hlt1] at hny
    clear hlt1
    unfold prtV at hga
    dsimp only at hga
    have hn12:nm.length≤12:=hx.n.2.1
    have hd12:(drW dr).length≤12:=drW_w hx.d
    have hcl:cor.length≤12:=hx.k
    have hcc:∀ c∈cor,(c.1.2=1∧c.2.2=1)∧c.1.1.natAbs≤100000∧c.2.1.natAbs≤100000:=hx.c
    have hda:=fun m=>rdashed_c dr m
    have dw:=fun m=>bdec_c wt (by have:=hx.w;dsimp only at this;omega) m
    have df:=fun m=>bdec_c fr (by have:=hx.f;dsimp only at this;omega) m
    have lw:(Lib.itoa wt).length≤12:=itoa_len hx.w
    have lf:(Lib.itoa fr).length≤12:=itoa_len hx.f
    rw [show rowT [wt,fr]=[32]++Lib.itoa wt++([32]++Lib.itoa fr) by simp [rowT]] at hny
    clear hx
    generalize Lib.itoa wt=tw at *
    generalize Lib.itoa fr=tf at *
    generalize drW dr=ds at *
    have hlc:=rksV_length (l:=cor)
    rw [show X=X++[] from(List.append_nil _).symm]
    (have FX:=And.intro hlp (And.intro hga (And.intro hlt (And.intro hfp (And.intro hap (And.intro k1 (And.intro k2 (And.intro k3 (And.intro hn12 (And.intro hd12 (And.intro lw (And.intro lf (And.intro hLl (And.intro hlc hcl)))))))))))));repeat'(first|(refine sx ?_ ?_<;>intro h<;>first|(exfalso;omega)|skip)|(refine g_op ?_;refine g_call ?_;refine g_args ?_;(first|refine s_fn (hda _) ?_|refine s_fn (dw _) ?_|refine s_fn (df _) ?_)<;>try first|omega|assumption)|refine ny ?_|refine WA_block ?_|(refine uU17_14_6 ?_;refine⟨by kernel_rfl,?_⟩)|(refine uU17_14_10 ?_;refine⟨by kernel_rfl,?_⟩)|(refine uU17_14_19 ?_;refine⟨by kernel_rfl,?_⟩)|(refine uU17_14_23 ?_;refine⟨by kernel_rfl,?_⟩)|((first|refine grp_cons (fun _=>hda _) ?_|refine grp_cons (fun _=>dw _) ?_|refine grp_cons (fun _=>df _) ?_)<;>try first|omega|assumption)|(refine g_d ?_;refine d_args ?_;(first|refine d_fn (hda _) ?_|refine d_fn (dw _) ?_|refine d_fn (df _) ?_|refine d_fnQ (fun _=>hda _) ?_|refine d_fnQ (fun _=>dw _) ?_|refine d_fnQ (fun _=>df _) ?_)<;>try first|omega|assumption)|(refine g_d ?_;(first|refine d_fnY (hda _) ?_|refine d_fnY (dw _) ?_|refine d_fnY (df _) ?_)<;>try first|omega|assumption)))
    all_goals(try(exfalso;omega))
    clear FX
    obtain⟨u1,hu1⟩:∃ u1:Txt,u1=u0++[112,97,114,116,32]++nm++[32]++ds++[32]++tw++[32]++tf:=⟨_,rfl⟩
    have hul:u1.length≤42000:=by
      rw [hu1]
      simp only [hap,k2,k3]
      omega
    rw [show u0++([112,97,114,116,32]++nm++[32]++ds++([32]++tw++([32]++tf))++corT cor)++[10]=u1++corT cor++[10] by rw [hu1];simp only [List.append_assoc]] at hny
    rw [←hu1]
    clear hu1 hda dw df
    refine WA_while (σ:=Nat) [1,3,4,5,6] (fun k=>[.ptr (lend m).length 0 0,.str (u1++corT (cor.take k)),.int .i64 i,.ptr ((lend m).length+(X.length+1)) 0 0,.int .i64 k]) (fun _=>lend m++(actB a::(X++[.cells .own 71 5 [[.str nm,.str dr,.lst (rksV cor),.int .i64 wt,.int .i64 fr]]]))) (fun k=>k≤cor.length) (fun k=>cor.length - k) 0 (Nat.zero_le _) (by rw [show u1++corT (cor.take 0)=u1 by simp [corT]];exact tv_) rfl ?_
    rintro k hk K2 hK2
    simp only [zipT]
    rcases Nat.lt_or_ge k cor.length with hlt2|hge2
    · have hga2:=rksV_get hlt2
      have hcm:=hcc _ (gdm (d:=rk0) hlt2)
      have hsn2:=corT_snoc (cor.take k) (cor.getD k rk0)
      rw [←take_snR hlt2] at hsn2
      have hcl2:=corT_len (l:=cor.take k) fun c hc=>hcc c (List.mem_of_mem_take hc)
      have hcl3:(cor.take k).length * 26≤12 * 26:=Nat.mul_le_mul_right _ (by rw [List.length_take];omega)
      have hnz:=hK2 (k+1)
      rw [hsn2,←List.append_assoc] at hnz
      clear hK2 hsn2
      generalize cor.getD k rk0=c at *
      obtain⟨⟨x,xd⟩,⟨y,yd⟩⟩:=c
      unfold rkV at hga2
      dsimp only at hga2 hcm hnz
      have dx:=fun m=>bdec_c x (by have:=hcm.2.1;omega) m
      have dy:=fun m=>bdec_c y (by have:=hcm.2.2;omega) m
      have lx:(Lib.itoa x).length≤12:=itoa_len hcm.2.1
      have ly:(Lib.itoa y).length≤12:=itoa_len hcm.2.2
      rw [show rowT [x,y]=[32]++Lib.itoa x++([32]++Lib.itoa y) by simp [rowT]] at hnz
      have hul2:(u1++corT (cor.take k)).length≤43000:=by rw [List.length_append];omega
      generalize u1++corT (cor.take k)=u2 at *
      generalize Lib.itoa x=tx at *
      generalize Lib.itoa y=ty at *
      rw [show u2++([32]++tx++([32]++ty))=u2++[32]++tx++[32]++ty by simp only [List.append_assoc]] at hnz
      (have FX:=And.intro hlc (And.intro hga2 (And.intro hlt2 (And.intro hcl (And.intro hap (And.intro k2 (And.intro lx (And.intro ly hul2)))))));repeat'(first|(refine sx ?_ ?_<;>intro h<;>first|(exfalso;omega)|skip)|(refine g_op ?_;refine g_call ?_;refine g_args ?_;(first|refine s_fn (dx _) ?_|refine s_fn (dy _) ?_)<;>try first|omega|assumption)|refine ny ?_|refine WA_block ?_|(refine uU17_14_6 ?_;refine⟨by kernel_rfl,?_⟩)|(refine uU17_14_10 ?_;refine⟨by kernel_rfl,?_⟩)|(refine uU17_14_19 ?_;refine⟨by kernel_rfl,?_⟩)|(refine uU17_14_23 ?_;refine⟨by kernel_rfl,?_⟩)|((first|refine grp_cons (fun _=>dx _) ?_|refine grp_cons (fun _=>dy _) ?_)<;>try first|omega|assumption)|(refine g_d ?_;refine d_args ?_;(first|refine d_fn (dx _) ?_|refine d_fn (dy _) ?_|refine d_fnQ (fun _=>dx _) ?_|refine d_fnQ (fun _=>dy _) ?_)<;>try first|omega|assumption)|(refine g_d ?_;(first|refine d_fnY (dx _) ?_|refine d_fnY (dy _) ?_)<;>try first|omega|assumption)))
      all_goals(try(exfalso;omega))
      exact hnz _ _ tv_ rfl hlt2 (by omega)
    · obtain rfl:k=cor.length:=by omega
      rw [List.take_of_length_le (Nat.le_refl _)]
      clear hK2
      have hcl2:=corT_len hcc
      have hul2:(u1++corT cor).length≤43000:=by rw [List.length_append];omega
      generalize u1++corT cor=u2 at *
      (have FX:=And.intro hlc (And.intro hap (And.intro k1 (And.intro hul2 (And.intro hlt hfp))));repeat'(first|(refine sx ?_ ?_<;>intro h<;>first|(exfalso;omega)|skip)|refine ny ?_|refine WA_block ?_|(refine uU17_14_6 ?_;refine⟨by kernel_rfl,?_⟩)|(refine uU17_14_10 ?_;refine⟨by kernel_rfl,?_⟩)|(refine uU17_14_19 ?_;refine⟨by kernel_rfl,?_⟩)|(refine uU17_14_23 ?_;refine⟨by kernel_rfl,?_⟩)))
      all_goals(try(exfalso;omega))
      exact hny _ _ _ tv_ rfl ⟨hlt,_,rfl⟩ (by omega)
  · obtain rfl:i=a.parts.length:=by omega
    rw [List.take_of_length_le (Nat.le_refl _)]
    clear hK
    have hL1l:(joinS (dpW a.dip)::a.parts.map fun x=>joinS (ptW x)).length≤13:=by rw [List.length_cons,List.length_map];omega
    generalize (joinS (dpW a.dip)::a.parts.map fun x=>joinS (ptW x))=L1 at *
    have h2l:∀ l∈(L1++a.evs.map fun x=>joinS (evW x)),l.length≤999:=fun l hl=>by
      rcases List.mem_append.1 hl with hl|hl
      · exact h1l l hl
      · obtain⟨x,hx,rfl⟩:=List.mem_map.1 hl
        exact evW_len (hw.e x hx)
    rw [show X=X++[] from(List.append_nil _).symm]
    (have FX:=And.intro hlp (And.intro hle (And.intro hfp hfe));repeat'(first|(refine sx ?_ ?_<;>intro h<;>first|(exfalso;omega)|skip)|refine ny ?_|refine WA_block ?_|(refine uU17_14_6 ?_;refine⟨by kernel_rfl,?_⟩)|(refine uU17_14_10 ?_;refine⟨by kernel_rfl,?_⟩)|(refine uU17_14_19 ?_;refine⟨by kernel_rfl,?_⟩)|(refine uU17_14_23 ?_;refine⟨by kernel_rfl,?_⟩)))
    all_goals(try(exfalso;omega))
    clear FX
    refine WA_while (σ:=Nat×Mem) [1,3,7] (fun q=>[.ptr (lend m).length 0 0,.str (flT (L1++(a.evs.take q.1).map fun x=>joinS (evW x))),.int .i64 q.1]) (fun q=>q.2) (fun q=>q.1≤a.evs.length∧∃ X,q.2=lend m++(actB a::X)) (fun q=>a.evs.length - q.1) (0,_) ⟨Nat.zero_le _,X,rfl⟩ (by dsimp only;rw [List.take_zero,List.map_nil,List.append_nil];exact tv_) (by first|rfl|simp) ?_
    rintro⟨i,M1⟩ ⟨hi,X,hM1⟩ K hK
    dsimp only at hi hM1
    subst hM1
    simp only [zipT]
    rcases Nat.lt_or_ge i a.evs.length with hlt|hge
    · have hga:=evsV_get hlt
      have hx:=hw.e _ (gdm (d:=e0) hlt)
      have hlt1:=line_evT (a.evs.getD i e0)
      have hLl:(flT (L1++(a.evs.take i).map fun x=>joinS (evW x))).length≤41000:=flT_len (fun l hl=>h2l l (by
        rcases List.mem_append.1 hl with hl|hl
        · exact List.mem_append_left _ hl
        · obtain⟨x,hx,rfl⟩:=List.mem_map.1 hl
          exact List.mem_append_right _ (List.mem_map.2 ⟨x,List.mem_of_mem_take hx,rfl⟩))) (by rw [List.length_append,List.length_map,List.length_take];omega)
      have hsn:flT (L1++(a.evs.take (i+1)).map fun x=>joinS (evW x))=flT (L1++(a.evs.take i).map fun x=>joinS (evW x))++joinS (evW (a.evs.getD i e0))++[10]:=by
        rw [←flT_snoc,take_snR (d:=e0) hlt]
        simp
      have hny:=fun(M9:Mem)=>hK (i+1,M9)
      dsimp only at hny
      rw [hsn] at hny
      clear hK hsn
      generalize flT (L1++(a.evs.take i).map fun x=>joinS (evW x))=u0 at *
      generalize a.evs.getD i e0=p at *
      obtain⟨nm,pt,lv,fl⟩:=p
      dsimp only at hlt1
      rw [←hlt1] at hny
      clear hlt1
      unfold evV at hga
      dsimp only at hga
      have hn12:nm.length≤12:=hx.n.2.1
      have hp12:pt.length≤12:=hx.p.2.1
      have dl:=fun m=>bdec_c lv (by have:=hx.l;dsimp only at this;omega) m
      have ll:(Lib.itoa lv).length≤12:=itoa_len hx.l
      rw [show rowT [lv]=[32]++Lib.itoa lv by simp [rowT]] at hny
      clear hx
      generalize Lib.itoa lv=tl at *
      have hf4:([114,105,115,101]:Txt).length=4:=rfl
      have hf5:([102,97,108,108]:Txt).length=4:=rfl
      rw [show X=X++[] from(List.append_nil _).symm]
      cases fl
      all_goals(
        (have FX:=And.intro hle (And.intro hga (And.intro hlt (And.intro hfe (And.intro hap (And.intro k1 (And.intro k2 (And.intro k4 (And.intro hf4 (And.intro hf5 (And.intro hn12 (And.intro hp12 (And.intro ll hLl))))))))))));repeat'(first|(refine sx ?_ ?_<;>intro h<;>first|(exfalso;omega)|skip)|(refine g_op ?_;refine g_call ?_;refine g_args ?_;(first|refine s_fn (dl _) ?_)<;>try first|omega|assumption)|refine ny ?_|refine WA_block ?_|(refine uU17_14_6 ?_;refine⟨by kernel_rfl,?_⟩)|(refine uU17_14_10 ?_;refine⟨by kernel_rfl,?_⟩)|(refine uU17_14_19 ?_;refine⟨by kernel_rfl,?_⟩)|(refine uU17_14_23 ?_;refine⟨by kernel_rfl,?_⟩)|((first|refine grp_cons (fun _=>dl _) ?_)<;>try first|omega|assumption)|(refine g_d ?_;refine d_args ?_;(first|refine d_fn (dl _) ?_|refine d_fnQ (fun _=>dl _) ?_)<;>try first|omega|assumption)|(refine g_d ?_;(first|refine d_fnY (dl _) ?_)<;>try first|omega|assumption))))
      all_goals(try(exfalso;omega))
      · rw [show u0++([101,118,101,110,116,32]++nm++[32]++pt++[32]++dirW false++([32]++tl))++[10]=u0++[101,118,101,110,116,32]++nm++[32]++pt++[32]++[114,105,115,101]++[32]++tl++[10] by simp only [List.append_assoc];rfl] at hny
        exact hny _ _ _ tv_ rfl ⟨hlt,_,rfl⟩ (by omega)
      · rw [show u0++([101,118,101,110,116,32]++nm++[32]++pt++[32]++dirW true++([32]++tl))++[10]=u0++[101,118,101,110,116,32]++nm++[32]++pt++[32]++[102,97,108,108]++[32]++tl++[10] by simp only [List.append_assoc];rfl] at hny
        exact hny _ _ _ tv_ rfl ⟨hlt,_,rfl⟩ (by omega)
    · obtain rfl:i=a.evs.length:=by omega
      rw [List.take_of_length_le (Nat.le_refl _)]
      clear hK
      rw [←List.append_assoc] at hQ
      have hL2l:(L1++a.evs.map fun x=>joinS (evW x)).length≤33:=by rw [List.length_append,List.length_map];omega
      generalize (L1++a.evs.map fun x=>joinS (evW x))=L2 at *
      have h3l:∀ l∈(L2++a.leads.map fun x=>joinS (ldW x)),l.length≤999:=fun l hl=>by
        rcases List.mem_append.1 hl with hl|hl
        · exact h2l l hl
        · obtain⟨x,hx,rfl⟩:=List.mem_map.1 hl
          exact ldW_len (hw.l x hx)
      rw [show X=X++[] from(List.append_nil _).symm]
      (have FX:=And.intro hle (And.intro hld (And.intro hfe hfl));repeat'(first|(refine sx ?_ ?_<;>intro h<;>first|(exfalso;omega)|skip)|refine ny ?_|refine WA_block ?_|(refine uU17_14_6 ?_;refine⟨by kernel_rfl,?_⟩)|(refine uU17_14_10 ?_;refine⟨by kernel_rfl,?_⟩)|(refine uU17_14_19 ?_;refine⟨by kernel_rfl,?_⟩)|(refine uU17_14_23 ?_;refine⟨by kernel_rfl,?_⟩)))
      all_goals(try(exfalso;omega))
      clear FX
      refine WA_while (σ:=Nat) [1,3,10] (fun i=>[.ptr (lend m).length 0 0,.str (flT (L2++(a.leads.take i).map fun x=>joinS (ldW x))),.int .i64 i]) (fun _=>lend m++(actB a::X)) (fun i=>i≤a.leads.length) (fun i=>a.leads.length - i) 0 (Nat.zero_le _) (by rw [List.take_zero,List.map_nil,List.append_nil];exact tv_) (by first|rfl|simp) ?_
      rintro i hi K hK
      simp only [zipT]
      rcases Nat.lt_or_ge i a.leads.length with hlt|hge
      · have hga:=ldsV_get hlt
        have hx:=hw.l _ (gdm (d:=l0) hlt)
        have hlt1:=line_ldT (a.leads.getD i l0)
        have hLl:(flT (L2++(a.leads.take i).map fun x=>joinS (ldW x))).length≤41000:=flT_len (fun l hl=>h3l l (by
          rcases List.mem_append.1 hl with hl|hl
          · exact List.mem_append_left _ hl
          · obtain⟨x,hx,rfl⟩:=List.mem_map.1 hl
            exact List.mem_append_right _ (List.mem_map.2 ⟨x,List.mem_of_mem_take hx,rfl⟩))) (by rw [List.length_append,List.length_map,List.length_take];omega)
        have hsn:flT (L2++(a.leads.take (i+1)).map fun x=>joinS (ldW x))=flT (L2++(a.leads.take i).map fun x=>joinS (ldW x))++joinS (ldW (a.leads.getD i l0))++[10]:=by
          rw [←flT_snoc,take_snR (d:=l0) hlt]
          simp
        have hny:=hK (i+1)
        rw [hsn] at hny
        clear hK hsn
        generalize flT (L2++(a.leads.take i).map fun x=>joinS (ldW x))=u0 at *
        generalize a.leads.getD i l0=p at *
        obtain⟨x,y⟩:=p
        dsimp only at hlt1 hx
        rw [←hlt1] at hny
        clear hlt1
        unfold ldV at hga
        dsimp only at hga
        have dx:=fun m=>bdec_c x (by have:=hx.1;omega) m
        have dy:=fun m=>bdec_c y (by have:=hx.2;omega) m
        have lx:(Lib.itoa x).length≤12:=itoa_len hx.1
        have ly:(Lib.itoa y).length≤12:=itoa_len hx.2
        rw [show u0++([108,101,97,100]++rowT [x,y])++[10]=u0++[108,101,97,100,32]++Lib.itoa x++[32]++Lib.itoa y++[10] by simp [rowT]] at hny
        clear hx
        generalize Lib.itoa x=tx at *
        generalize Lib.itoa y=ty at *
        (have FX:=And.intro hld (And.intro hga (And.intro hlt (And.intro hfl (And.intro hap (And.intro k1 (And.intro k2 (And.intro k5 (And.intro lx (And.intro ly hLl)))))))));repeat'(first|(refine sx ?_ ?_<;>intro h<;>first|(exfalso;omega)|skip)|(refine g_op ?_;refine g_call ?_;refine g_args ?_;(first|refine s_fn (dx _) ?_|refine s_fn (dy _) ?_)<;>try first|omega|assumption)|refine ny ?_|refine WA_block ?_|(refine uU17_14_6 ?_;refine⟨by kernel_rfl,?_⟩)|(refine uU17_14_10 ?_;refine⟨by kernel_rfl,?_⟩)|(refine uU17_14_19 ?_;refine⟨by kernel_rfl,?_⟩)|(refine uU17_14_23 ?_;refine⟨by kernel_rfl,?_⟩)|((first|refine grp_cons (fun _=>dx _) ?_|refine grp_cons (fun _=>dy _) ?_)<;>try first|omega|assumption)|(refine g_d ?_;refine d_args ?_;(first|refine d_fn (dx _) ?_|refine d_fn (dy _) ?_|refine d_fnQ (fun _=>dx _) ?_|refine d_fnQ (fun _=>dy _) ?_)<;>try first|omega|assumption)|(refine g_d ?_;(first|refine d_fnY (dx _) ?_|refine d_fnY (dy _) ?_)<;>try first|omega|assumption)))
        all_goals(try(exfalso;omega))
        exact hny _ _ tv_ rfl hlt (by omega)
      · obtain rfl:i=a.leads.length:=by omega
        rw [List.take_of_length_le (Nat.le_refl _)]
        clear hK
        (have FX:=And.intro hld hfl;repeat'(first|(refine sx ?_ ?_<;>intro h<;>first|(exfalso;omega)|skip)|refine ny ?_|refine WA_block ?_|(refine uU17_14_6 ?_;refine⟨by kernel_rfl,?_⟩)|(refine uU17_14_10 ?_;refine⟨by kernel_rfl,?_⟩)|(refine uU17_14_19 ?_;refine⟨by kernel_rfl,?_⟩)|(refine uU17_14_23 ?_;refine⟨by kernel_rfl,?_⟩)))
        all_goals(try(exfalso;omega))
        exact r_esA hQ (v':= .str (flT (L2++a.leads.map fun x=>joinS (ldW x)))) (.inl ⟨rfl,rfl,WkV.refl _⟩)
end Go.Proofs.YtomkbpoicjabfaaGreatDoor
