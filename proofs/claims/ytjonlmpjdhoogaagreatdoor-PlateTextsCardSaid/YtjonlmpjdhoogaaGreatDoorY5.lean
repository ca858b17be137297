/- contract: the program's Parse -/
import Derived.Test.YtjonlmpjdhoogaaGreatDoorGAH
import Derived.Test.YtjonlmpjdhoogaaGreatDoorYC
set_option linter.unusedSimpArgs false
set_option linter.unusedVariables false
namespace Go.Proofs.YtjonlmpjdhoogaaGreatDoor
open Go.RowKit
attribute [local irreducible] WA WOs WDs WAn qThen qBlock tput
set_option maxHeartbeats 1000000
set_option maxRecDepth 20000
set_option linter.unusedSimpArgs false
set_option linter.unusedVariables false
set_option maxHeartbeats 4000000
def slF(o:Nat)(X:Mem)(es:List (List V))(v:V):Prop:=(v= .nilsl∧es=[])∨∃ j,v= .sl (o+(j+6)) es.length∧es≠[]∧X[j]?=some (.cells .own 62 6 es)
/-- the memory of Parse -/
def pfI(m:Mem)(s:Txt)(LB:Blk)(l:List Pl)(M:Mem):Prop:=∃ v X,M=lend m++(.cells .own 22 1 [[.nilsl]]:: .cells .own 3 1 [[.int .i64 0]]:: .cells .own 25 1 [[.int .i64 0]]:: .cells .own 22 1 [[v]]:: .cells .own 9 1 [[.str s]]::LB::X)∧slF (lend m).length X (plsV l) v
def pfJ(m:Mem)(LB:Blk)(k:Nat)(M:Mem):Prop:=∃ B c1 X,M=lend m++(.cells .own 22 1 [[.nilsl]]:: .cells .own 3 1 [[.int .i64 k]]:: .cells .own 25 1 [[.int .i64 7]]::B::c1::LB::X)
theorem drp{l r:List (List V)}{k:Nat}{n:Int}(h:l.drop k=r)(hn:r.length≤n.toNat):List.take n.toNat (List.drop k l)=r:=by rw [h,List.take_of_length_le hn]
theorem pfI_at{m:Mem}{s:Txt}{LB:Blk}{l:List Pl}{M:Mem}(h:pfI m s LB l M):M[(lend m).length+5]?=some LB:=by
  obtain⟨v,X,rfl, -⟩:=h
  simp
theorem pfI_box{m:Mem}{s:Txt}{LB:Blk}{l:List Pl}{M:Mem}(h:pfI m s LB l M):M[(lend m).length+4]?=some (.cells .own 9 1 [[.str s]]):=by
  obtain⟨v,X,rfl, -⟩:=h
  simp
theorem pfI_set{m:Mem}{s:Txt}{LB LC:Blk}{l:List Pl}{M:Mem}(h:pfI m s LB l M):pfI m s LC l (M.set ((lend m).length+5) LC):=by
  obtain⟨v,X,rfl,h⟩:=h
  exact⟨v,X,by simp,h⟩
theorem pfJ_at{m:Mem}{LB:Blk}{k:Nat}{M:Mem}(h:pfJ m LB k M):M[(lend m).length+5]?=some LB:=by
  obtain⟨B,c1,X,rfl⟩:=h
  simp
theorem pfJ_set{m:Mem}{LB LC:Blk}{k:Nat}{M:Mem}(h:pfJ m LB k M):pfJ m LC k (M.set ((lend m).length+5) LC):=by
  obtain⟨B,c1,X,rfl⟩:=h
  exact⟨B,c1,X,by simp⟩
theorem pf_nrm{m:Mem}{LB LL:Blk}{LD:Code→Blk}{t':List (Nat×V)}{s:Txt}{v:V}{X M:Mem}{b:Nat}{R:V→Option Mem→Prop}(h:R (.bool true) (some (lend m++(.cells .own 22 1 [[.nilsl]]:: .cells .own 3 1 [[.int .i64 0]]:: .cells .own 25 1 [[.int .i64 0]]:: .cells .own 22 1 [[v]]:: .cells .own 9 1 [[.str s]]::LB::X))))(hM:M=lend m++(.cells .own 22 1 [[.nilsl]]:: .cells .own 3 1 [[.int .i64 0]]:: .cells .own 25 1 [[.int .i64 0]]:: .cells .own 22 1 [[v]]:: .cells .own 9 1 [[.str s]]::LL::X))(hb:(lend m).length+5=b):rndQ LB LL LD b R .normal t' M:=by
  subst hM
  refine rndQ_nrm (A:=lend m++[.cells .own 22 1 [[.nilsl]],.cells .own 3 1 [[.int .i64 0]],.cells .own 25 1 [[.int .i64 0]],.cells .own 22 1 [[v]],.cells .own 9 1 [[.str s]]]) (X:=X) (by simp) (by rw [←hb];simp) ?_
  simpa using h
theorem uY5_9_10{N:Nat}{l:List Oper}{t:List (Nat×V)}{m:Mem}{Q:Exit→List (Nat×V)→Mem→Prop}(h:RgT Tryz.prog N l t m Q 22 (fun i=>if i==4 || i==5 then .w else if i==3 then .f else if i==0 || i==1 then .q else .p) [.one 0,.one 1,.one 2,.one 3,.one 4,.one 5]):WA Tryz.prog N (.region 10 l.toArray true) t m Q:=d_rgT h
theorem uY5_9_11{N:Nat}{l:List Oper}{t:List (Nat×V)}{m:Mem}{Q:Exit→List (Nat×V)→Mem→Prop}(h:RgN Tryz.prog N l t m Q (fun i=>if i==11 || i==12 then .w else if i==10 then .a else if i==0 || i==4 || i==8 then .q else .p) [.one 0,.one 1,.one 2,.one 3,.one 4,.one 5,.one 6,.one 7,.one 8,.one 9,.one 10,.one 11,.one 12]):WA Tryz.prog N (.region 11 l.toArray true) t m Q:=d_rgN h
theorem pparse_long(s:Txt)(hs:60000<s.length)(m:Mem):Gives Tryz.prog 9 [.str s] m (pfV (prsF s)):=by
  suffices key:CallA Tryz.prog 9 [.str s] m (fun v mo=>mo=none∧WkV v (pfV (prsF s))) from Gives_ofX key fun v mo h=>h
  refine CallA_in Tryz.func9 rfl Tryz.ntmps9 Tryz.results9 (by kernel_rfl) (by simp) fun Q hQ=>?_
  unfold prsF at hQ
  rw [if_pos hs] at hQ
  (repeat'(first|(refine sx ?_ ?_<;>intro h<;>first|(exfalso;omega)|skip)|refine ny ?_|refine WA_block ?_|(refine uY5_9_10 ?_;refine⟨by kernel_rfl,?_⟩)|(refine uY5_9_11 ?_;refine⟨by kernel_rfl,?_⟩)))
  all_goals(try(exfalso;omega))
  exact r_esA hQ (v':= .tup [.nilsl,.int .i64 0,.int .i64 8]) (.inl ⟨rfl,rfl,wk_tup ⟨show WkV _ (.lst []) from wk_nil,WkV.refl _,WkV.refl _,trivial⟩⟩)
theorem pparse_rows (s0:Txt) (hs:s0.length≤60000) (hrn:(cutP 10 s0).length≤1000) (hrm:∀ r∈cutP 10 s0,r.length≤999) (m:Mem):Gives Tryz.prog 9 [.str s0] m (pfV (prsF s0)):=by
  suffices key:CallA Tryz.prog 9 [.str s0] m (fun v mo=>mo=none∧WkV v (pfV (prsF s0))) from Gives_ofX key fun v mo h=>h
  refine CallA_in Tryz.func9 rfl Tryz.ntmps9 Tryz.results9 (by kernel_rfl) (by simp) fun Q hQ=>?_
  unfold prsF at hQ
  rw [if_neg (by omega)] at hQ
  (repeat'(first|(refine sx ?_ ?_<;>intro h<;>first|(exfalso;omega)|skip)|refine ny ?_|refine WA_block ?_|(refine uY5_9_10 ?_;refine⟨by kernel_rfl,?_⟩)|(refine uY5_9_11 ?_;refine⟨by kernel_rfl,?_⟩)))
  all_goals(try(exfalso;omega))
  refine g_op ?_;refine g_call ?_;refine g_args ?_;refine s_fnA (xlines_o s0 _) ?_
  rintro v mo ⟨rfl,rfl⟩
  simp only [Option.getD_some]
  (repeat'(first|(refine sx ?_ ?_<;>intro h<;>first|(exfalso;omega)|skip)|refine ny ?_|refine WA_block ?_|(refine uY5_9_10 ?_;refine⟨by kernel_rfl,?_⟩)|(refine uY5_9_11 ?_;refine⟨by kernel_rfl,?_⟩)))
  have hln:∀ a b c d:Blk,(lend m++[a,b,c,d]).length=(lend m).length+4:=by intros;simp
  simp only [hln,List.append_assoc,List.cons_append,List.nil_append]
  refine WA_rfA (fun m'=>∃ l,rowsF [] (cutP 10 s0)= .ok l∧l.length≤1000∧pfI m [] .dead l m') (fun c m'=>c= .ret∧∃ k,rowsF [] (cutP 10 s0)= .error k∧pfJ m .dead k m') (fun lp LB LL LD hY=>?_) (fun m' hm=>?_) (fun c m' hm=>?_)
  · refine xlines1 lp ((lend m).length+4) _ s0 (by omega) _ (fun s M=>∃ l,rowsF l (cutP 10 s)=rowsF [] (cutP 10 s0)∧(l.length+(cutP 10 s).length≤1000∧∀ r∈cutP 10 s,r.length≤999)∧pfI m s LB l M) (fun M=>∃ k,rowsF [] (cutP 10 s0)= .error k∧pfJ m (LD .ret) k M) ⟨[],rfl,⟨by simp;omega,hrm⟩,⟨.nilsl,[],by simp,.inl ⟨rfl,rfl⟩⟩⟩ ?_ ?_ ?_ ?_
    · rintro s M' ⟨l, -, -,h4⟩
      exact pfI_box h4
    · rintro M' ⟨l,h1,⟨h3, -⟩,h4⟩
      refine⟨M',rfl,.inl ⟨?_,l,h1.symm,by omega,?_⟩⟩
      · have:=pfI_at h4;simpa using this
      · have:=pfI_set (LC:= .dead) h4;simpa using this
    · rintro M' ⟨k,h1,h2⟩
      refine⟨M',rfl,.inr ⟨.ret,?_,rfl,k,h1,?_⟩⟩
      · have:=pfJ_at h2;simpa using this
      · have:=pfJ_set (LC:= .dead) h2;simpa using this
    · rintro s M' hs0 hsl ⟨l,h1,⟨h3,h3m⟩,v,X,rfl,hv⟩ R' hR1 hR2
      have hslen:s.length≤60000:=by omega
      have hlt:=lnR_lt hs0
      have hsp:∀ z:Blk,(lend m++(Blk.cells .own 22 1 [[.nilsl]]::Blk.cells .own 3 1 [[.int .i64 0]]::Blk.cells .own 25 1 [[.int .i64 0]]::Blk.cells .own 22 1 [[v]]::Blk.cells .own 9 1 [[.str s]]::LB::X)).set ((lend m).length+4) z=(lend m++[Blk.cells .own 22 1 [[.nilsl]],Blk.cells .own 3 1 [[.int .i64 0]],Blk.cells .own 25 1 [[.int .i64 0]],Blk.cells .own 22 1 [[v]],z])++LB::X:=fun z=>by simp
      rw [hsp]
      refine hY _ _ _ R' rfl ?_
      simp only [setPs,List.append_assoc,List.cons_append,List.nil_append]
      (repeat'(first|(refine sx ?_ ?_<;>intro h<;>first|(exfalso;omega)|skip)|refine ny ?_|refine WA_block ?_|(refine uY5_9_10 ?_;refine⟨by kernel_rfl,?_⟩)|(refine uY5_9_11 ?_;refine⟨by kernel_rfl,?_⟩)))
      refine⟨rfl,by simp,?_⟩
      have hla:=plsV_length (l:=l)
      rcases ln_cut hs0 with ⟨p,e1,e2,e3⟩|⟨e1,e2,e3,e4⟩
      · have hcs:=fun m=>xcut_c (p++[10]) [10] (by rw [←e1];have:=ln1_le s;omega) m
        rw [(suf_yes p).1,(suf_yes p).2] at hcs
        rw [e1]
        have hpl:p.length≤999:=h3m p (by rw [e3];exact List.mem_cons_self)
        have h3n:l.length+1+(cutP 10 (lnR s)).length≤1000:=by rw [e3] at h3;simp only [List.length_cons] at h3;omega
        have h3q:∀ r∈cutP 10 (lnR s),r.length≤999:=fun r hr=>h3m r (by rw [e3];exact List.mem_cons_of_mem _ hr)
        rw [e3,rowsF_cut] at h1
        clear e1 e2 e3
        obtain⟨o,w,hc⟩:∃ o w,cutP 32 p=o::w:=by
          rcases h:cutP 32 p with _|⟨o,w⟩
          · exact absurd h (cutP_ne 32 p)
          · exact⟨o,w,rfl⟩
        have hsw:=fun m=>xsplit_c p 32 (by omega) m
        have hcm:=fun q=>cutP_sub (c:=32) (s:=p) (p:=q)
        have hcl:=cutP_len 32 p
        rw [hc] at hsw hcm hcl
        rw [List.length_cons] at hcl
        have hnu:=fun m=>pnumbers_c w (by omega) (fun i hi=>Nat.le_trans (hcm _ (List.mem_cons_of_mem _ (by rw [List.getD_eq_getElem?_getD,List.getElem?_eq_getElem hi];exact List.getElem_mem _))) (by omega)) m
        have hll:(xsV (o::w)).length=w.length+1:=by rw [xsV_length];rfl
        have hal:(xsV (o::w)).all (fun e=>e.length==1)=true:=by simp [xsV]
        have hx0:(xsV (o::w))[0]?=some [.str o]:=rfl
        have hs1:List.take (((w.length+1:Nat):Int) - 1).toNat (List.drop 1 (xsV (o::w)))=xsV w:=drp rfl (by rw [xsV_length];omega)
        obtain⟨wn,hw⟩:∃ wn,numsP 10 w=wn:=⟨_,rfl⟩
        rw [hw] at hnu
        clear hcm
        rcases wn with _|n
        · rw [lineF_num hc hw] at h1
          clear hc hw
          rcases hv with ⟨rfl,hv⟩|⟨j,rfl,hv,hj⟩
          · have hl0:l=[]:=List.map_eq_nil_iff.1 hv
            subst hl0
            (have FX:=And.intro hll (And.intro hal (And.intro hx0 hla));repeat'(first|(refine sx ?_ ?_<;>intro h<;>first|(exfalso;omega)|skip)|(refine g_op ?_;refine g_call ?_;refine g_args ?_;(first|refine s_fn (hcs _) ?_|refine s_fn (hsw _) ?_)<;>try first|omega|assumption)|refine ny ?_|refine WA_block ?_|(refine uY5_9_10 ?_;refine⟨by kernel_rfl,?_⟩)|(refine uY5_9_11 ?_;refine⟨by kernel_rfl,?_⟩)|((first|refine grp_cons (fun _=>hcs _) ?_|refine grp_cons (fun _=>hsw _) ?_)<;>try first|omega|assumption)|(refine g_d ?_;refine d_args ?_;(first|refine d_fn (hcs _) ?_|refine d_fn (hsw _) ?_|refine d_fnQ (fun _=>hcs _) ?_|refine d_fnQ (fun _=>hsw _) ?_)<;>try first|omega|assumption)|(refine g_d ?_;(first|refine d_fnY (hcs _) ?_|refine d_fnY (hsw _) ?_)<;>try first|omega|assumption)))
            rw [hs1]
            refine g_op ?_
            refine g_call ?_
            refine g_args ?_
            refine s_fzA (B:=lend m) 3 (hnu _) ?_ rfl rfl (by simp [frzA,frzV]) rfl
            simp only [nbV,List.set_cons_succ,List.set_cons_zero]
            (have FX:=And.intro hll (And.intro hal (And.intro hx0 hla));repeat'(first|(refine sx ?_ ?_<;>intro h<;>first|(exfalso;omega)|skip)|(refine g_op ?_;refine g_call ?_;refine g_args ?_;(first|refine s_fn (hcs _) ?_|refine s_fn (hsw _) ?_)<;>try first|omega|assumption)|refine ny ?_|refine WA_block ?_|(refine uY5_9_10 ?_;refine⟨by kernel_rfl,?_⟩)|(refine uY5_9_11 ?_;refine⟨by kernel_rfl,?_⟩)|((first|refine grp_cons (fun _=>hcs _) ?_|refine grp_cons (fun _=>hsw _) ?_)<;>try first|omega|assumption)|(refine g_d ?_;refine d_args ?_;(first|refine d_fn (hcs _) ?_|refine d_fn (hsw _) ?_|refine d_fnQ (fun _=>hcs _) ?_|refine d_fnQ (fun _=>hsw _) ?_)<;>try first|omega|assumption)|(refine g_d ?_;(first|refine d_fnY (hcs _) ?_|refine d_fnY (hsw _) ?_)<;>try first|omega|assumption)))
            all_goals(exact rndQ_ret (LL:=LL) (A:=lend m++[Blk.cells .own 22 1 [[.nilsl]],Blk.cells .own 3 1 [[.int .i64 1]],Blk.cells .own 25 1 [[.int .i64 7]],Blk.cells .ro 22 1 [[.nilsl]],Blk.cells .own 9 1 [[.str (lnR s)]]]) (X:=X) (by simp) (by simp) (hR2 _ ⟨1,h1.symm,Blk.cells .ro 22 1 [[.nilsl]],Blk.cells .own 9 1 [[.str (lnR s)]],X,by simp⟩))
          · have hjl:=(List.getElem?_eq_some_iff.1 hj).1
            have hgj:∀ Y:Mem,(X++Y)[j]?=some (.cells .own 62 6 (plsV l)):=fun Y=>by rw [List.getElem?_append_left hjl];exact hj
            have hsj:∀ (Y:Mem) (z:Blk),(X++Y).set j z=X.set j z++Y:=fun Y z=>List.set_append_left _ _ hjl
            have hlq:(plsV l).take l.length=plsV l:=List.take_of_length_le (by rw [hla];exact Nat.le_refl _)
            have hl9:l.length≤1000:=by omega
            rw [hla,show X=X++[] from(List.append_nil _).symm]
            (have FX:=And.intro hll (And.intro hal (And.intro hx0 (And.intro hla (And.intro hgj (And.intro hsj (And.intro hlq hl9))))));repeat'(first|(refine sx ?_ ?_<;>intro h<;>first|(exfalso;omega)|skip)|(refine g_op ?_;refine g_call ?_;refine g_args ?_;(first|refine s_fn (hcs _) ?_|refine s_fn (hsw _) ?_)<;>try first|omega|assumption)|refine ny ?_|refine WA_block ?_|(refine uY5_9_10 ?_;refine⟨by kernel_rfl,?_⟩)|(refine uY5_9_11 ?_;refine⟨by kernel_rfl,?_⟩)|((first|refine grp_cons (fun _=>hcs _) ?_|refine grp_cons (fun _=>hsw _) ?_)<;>try first|omega|assumption)|(refine g_d ?_;refine d_args ?_;(first|refine d_fn (hcs _) ?_|refine d_fn (hsw _) ?_|refine d_fnQ (fun _=>hcs _) ?_|refine d_fnQ (fun _=>hsw _) ?_)<;>try first|omega|assumption)|(refine g_d ?_;(first|refine d_fnY (hcs _) ?_|refine d_fnY (hsw _) ?_)<;>try first|omega|assumption)))
            rw [hs1]
            refine g_op ?_
            refine g_call ?_
            refine g_args ?_
            refine s_fzA (B:=lend m) 3 (hnu _) ?_ rfl rfl (by simp [frzA,frzV]) rfl
            simp only [nbV,List.set_cons_succ,List.set_cons_zero]
            (have FX:=And.intro hll (And.intro hal (And.intro hx0 (And.intro hla (And.intro hgj (And.intro hsj (And.intro hlq hl9))))));repeat'(first|(refine sx ?_ ?_<;>intro h<;>first|(exfalso;omega)|skip)|(refine g_op ?_;refine g_call ?_;refine g_args ?_;(first|refine s_fn (hcs _) ?_|refine s_fn (hsw _) ?_)<;>try first|omega|assumption)|refine ny ?_|refine WA_block ?_|(refine uY5_9_10 ?_;refine⟨by kernel_rfl,?_⟩)|(refine uY5_9_11 ?_;refine⟨by kernel_rfl,?_⟩)|((first|refine grp_cons (fun _=>hcs _) ?_|refine grp_cons (fun _=>hsw _) ?_)<;>try first|omega|assumption)|(refine g_d ?_;refine d_args ?_;(first|refine d_fn (hcs _) ?_|refine d_fn (hsw _) ?_|refine d_fnQ (fun _=>hcs _) ?_|refine d_fnQ (fun _=>hsw _) ?_)<;>try first|omega|assumption)|(refine g_d ?_;(first|refine d_fnY (hcs _) ?_|refine d_fnY (hsw _) ?_)<;>try first|omega|assumption)))
            all_goals(exact rndQ_ret (LL:=LL) (A:=lend m++[Blk.cells .own 22 1 [[.nilsl]],Blk.cells .own 3 1 [[.int .i64 ((l.length:Int)+1)]],Blk.cells .own 25 1 [[.int .i64 7]],Blk.cells .ro 22 1 [[.sl ((lend m).length+(j+6)) l.length]],Blk.cells .own 9 1 [[.str (lnR s)]]]) (X:=X++[]) (by simp) (by simp) (hR2 _ ⟨l.length+1,h1.symm,Blk.cells .ro 22 1 [[.sl ((lend m).length+(j+6)) l.length]],Blk.cells .own 9 1 [[.str (lnR s)]],X,by simp⟩))
        · have hnl:=numsP_len hw
          have hnv:(nsV n).length=w.length:=by rw [nsV_length,hnl]
          by_cases h6:o=forceT∧w.length=6
          · obtain⟨rfl,hw6⟩:=h6
            obtain⟨a,b,c,x,y,z,rfl⟩:∃ a b c x y z,n=[a,b,c,x,y,z]:=by
              rcases n with _|⟨a,_|⟨b,_|⟨c,_|⟨x,_|⟨y,_|⟨z,_|⟨z',n⟩⟩⟩⟩⟩⟩⟩<;>simp at hnl<;>try omega
              exact⟨_,_,_,_,_,_,rfl⟩
            rw [lineF_some hc hw] at h1
            dsimp only at h1
            clear hc hw hnv
            have hx0:(xsV (forceT::w))[0]?=some [.str [102,111,114,99,101]]:=rfl
            have hn6:(nsV [a,b,c,x,y,z]).length=6:=rfl
            have hz1:((3:Int) - ((0:Nat):Int)).toNat=3:=rfl
            have hz2:(((6:Nat):Int) - 3).toNat=3:=rfl
            rcases hv with ⟨rfl,hv⟩|⟨j,rfl,hv,hj⟩
            · have hl0:l=[]:=List.map_eq_nil_iff.1 hv
              subst hl0
              (have FX:=And.intro hll (And.intro hal (And.intro hx0 (And.intro hla (And.intro hz1 hz2))));repeat'(first|(refine sx ?_ ?_<;>intro h<;>first|(exfalso;omega)|skip)|(refine g_op ?_;refine g_call ?_;refine g_args ?_;(first|refine s_fn (hcs _) ?_|refine s_fn (hsw _) ?_)<;>try first|omega|assumption)|refine ny ?_|refine WA_block ?_|(refine uY5_9_10 ?_;refine⟨by kernel_rfl,?_⟩)|(refine uY5_9_11 ?_;refine⟨by kernel_rfl,?_⟩)|((first|refine grp_cons (fun _=>hcs _) ?_|refine grp_cons (fun _=>hsw _) ?_)<;>try first|omega|assumption)|(refine g_d ?_;refine d_args ?_;(first|refine d_fn (hcs _) ?_|refine d_fn (hsw _) ?_|refine d_fnQ (fun _=>hcs _) ?_|refine d_fnQ (fun _=>hsw _) ?_)<;>try first|omega|assumption)|(refine g_d ?_;(first|refine d_fnY (hcs _) ?_|refine d_fnY (hsw _) ?_)<;>try first|omega|assumption)))
              rw [hs1]
              refine g_op ?_;refine g_call ?_;refine g_args ?_;refine s_fnA (hnu _) ?_
              rintro v mo ⟨rfl,rfl⟩
              simp only [Option.getD_none,nbV,nsV,List.map_cons,List.map_nil]
              (have FX:=And.intro hll (And.intro hal (And.intro hx0 (And.intro hla (And.intro hz1 hz2))));repeat'(first|(refine sx ?_ ?_<;>intro h<;>first|(exfalso;omega)|skip)|(refine g_op ?_;refine g_call ?_;refine g_args ?_;(first|refine s_fn (hcs _) ?_|refine s_fn (hsw _) ?_)<;>try first|omega|assumption)|refine ny ?_|refine WA_block ?_|(refine uY5_9_10 ?_;refine⟨by kernel_rfl,?_⟩)|(refine uY5_9_11 ?_;refine⟨by kernel_rfl,?_⟩)|((first|refine grp_cons (fun _=>hcs _) ?_|refine grp_cons (fun _=>hsw _) ?_)<;>try first|omega|assumption)|(refine g_d ?_;refine d_args ?_;(first|refine d_fn (hcs _) ?_|refine d_fn (hsw _) ?_|refine d_fnQ (fun _=>hcs _) ?_|refine d_fnQ (fun _=>hsw _) ?_)<;>try first|omega|assumption)|(refine g_d ?_;(first|refine d_fnY (hcs _) ?_|refine d_fnY (hsw _) ?_)<;>try first|omega|assumption)))
              refine pf_nrm (s:=lnR s) (v:= .sl ((lend m).length+(X.length+1+6)) 1) (X:=X++[_,_]) (hR1 _ ⟨[]++[⟨a,b,c,x,y,z⟩],h1,⟨by simpa using h3n,h3q⟩,_,_,rfl,?_⟩) rfl (by simp)
              refine .inr ⟨X.length+1,rfl,by simp [plsV],?_⟩
              rw [List.getElem?_append_right (Nat.le_add_right _ _),Nat.add_sub_cancel_left]
              rfl
            · have hjl:=(List.getElem?_eq_some_iff.1 hj).1
              have hgj:∀ Y:Mem,(X++Y)[j]?=some (.cells .own 62 6 (plsV l)):=fun Y=>by rw [List.getElem?_append_left hjl];exact hj
              have hsj:∀ (Y:Mem) (z:Blk),(X++Y).set j z=X.set j z++Y:=fun Y z=>List.set_append_left _ _ hjl
              have hlq:(plsV l).take l.length=plsV l:=List.take_of_length_le (by rw [hla];exact Nat.le_refl _)
              have hl9:l.length≤1000:=by omega
              rw [hla,show X=X++[] from(List.append_nil _).symm]
              (have FX:=And.intro hll (And.intro hal (And.intro hx0 (And.intro hla (And.intro hgj (And.intro hsj (And.intro hlq (And.intro hl9 (And.intro hz1 hz2))))))));repeat'(first|(refine sx ?_ ?_<;>intro h<;>first|(exfalso;omega)|skip)|(refine g_op ?_;refine g_call ?_;refine g_args ?_;(first|refine s_fn (hcs _) ?_|refine s_fn (hsw _) ?_)<;>try first|omega|assumption)|refine ny ?_|refine WA_block ?_|(refine uY5_9_10 ?_;refine⟨by kernel_rfl,?_⟩)|(refine uY5_9_11 ?_;refine⟨by kernel_rfl,?_⟩)|((first|refine grp_cons (fun _=>hcs _) ?_|refine grp_cons (fun _=>hsw _) ?_)<;>try first|omega|assumption)|(refine g_d ?_;refine d_args ?_;(first|refine d_fn (hcs _) ?_|refine d_fn (hsw _) ?_|refine d_fnQ (fun _=>hcs _) ?_|refine d_fnQ (fun _=>hsw _) ?_)<;>try first|omega|assumption)|(refine g_d ?_;(first|refine d_fnY (hcs _) ?_|refine d_fnY (hsw _) ?_)<;>try first|omega|assumption)))
              rw [hs1]
              refine g_op ?_;refine g_call ?_;refine g_args ?_;refine s_fnA (hnu _) ?_
              rintro v mo ⟨rfl,rfl⟩
              simp only [Option.getD_none,nbV,nsV,List.map_cons,List.map_nil]
              (have FX:=And.intro hll (And.intro hal (And.intro hx0 (And.intro hla (And.intro hgj (And.intro hsj (And.intro hlq (And.intro hl9 (And.intro hz1 hz2))))))));repeat'(first|(refine sx ?_ ?_<;>intro h<;>first|(exfalso;omega)|skip)|(refine g_op ?_;refine g_call ?_;refine g_args ?_;(first|refine s_fn (hcs _) ?_|refine s_fn (hsw _) ?_)<;>try first|omega|assumption)|refine ny ?_|refine WA_block ?_|(refine uY5_9_10 ?_;refine⟨by kernel_rfl,?_⟩)|(refine uY5_9_11 ?_;refine⟨by kernel_rfl,?_⟩)|((first|refine grp_cons (fun _=>hcs _) ?_|refine grp_cons (fun _=>hsw _) ?_)<;>try first|omega|assumption)|(refine g_d ?_;refine d_args ?_;(first|refine d_fn (hcs _) ?_|refine d_fn (hsw _) ?_|refine d_fnQ (fun _=>hcs _) ?_|refine d_fnQ (fun _=>hsw _) ?_)<;>try first|omega|assumption)|(refine g_d ?_;(first|refine d_fnY (hcs _) ?_|refine d_fnY (hsw _) ?_)<;>try first|omega|assumption)))
              refine pf_nrm (s:=lnR s) (v:= .sl ((lend m).length+(X.length+1+6)) (l.length+1)) (X:=X.set j .dead++[_,_]) (hR1 _ ⟨l++[⟨a,b,c,x,y,z⟩],h1,⟨by rw [List.length_append];exact h3n,h3q⟩,_,_,rfl,?_⟩) rfl (by simp)
              refine .inr ⟨X.length+1,by simp [plsV],by simp [plsV],?_⟩
              rw [List.getElem?_append_right (by rw [List.length_set];exact Nat.le_add_right _ _),List.length_set,Nat.add_sub_cancel_left]
              rw [plsV_snoc]
              rfl
          · rw [lineF_none hc h6] at h1
            have hoo:¬ (o=[102,111,114,99,101]∧w.length=6):=h6
            clear h6 hc hw
            rcases hv with ⟨rfl,hv⟩|⟨j,rfl,hv,hj⟩
            · have hl0:l=[]:=List.map_eq_nil_iff.1 hv
              subst hl0
              (have FX:=And.intro hll (And.intro hal (And.intro hx0 (And.intro hla hnv)));repeat'(first|(refine sx ?_ ?_<;>intro h<;>first|(exfalso;omega)|skip)|(refine g_op ?_;refine g_call ?_;refine g_args ?_;(first|refine s_fn (hcs _) ?_|refine s_fn (hsw _) ?_)<;>try first|omega|assumption)|refine ny ?_|refine WA_block ?_|(refine uY5_9_10 ?_;refine⟨by kernel_rfl,?_⟩)|(refine uY5_9_11 ?_;refine⟨by kernel_rfl,?_⟩)|((first|refine grp_cons (fun _=>hcs _) ?_|refine grp_cons (fun _=>hsw _) ?_)<;>try first|omega|assumption)|(refine g_d ?_;refine d_args ?_;(first|refine d_fn (hcs _) ?_|refine d_fn (hsw _) ?_|refine d_fnQ (fun _=>hcs _) ?_|refine d_fnQ (fun _=>hsw _) ?_)<;>try first|omega|assumption)|(refine g_d ?_;(first|refine d_fnY (hcs _) ?_|refine d_fnY (hsw _) ?_)<;>try first|omega|assumption)))
              rw [hs1]
              refine g_op ?_
              refine g_call ?_
              refine g_args ?_
              refine s_fzA (B:=lend m) 3 (hnu _) ?_ rfl rfl (by simp [frzA,frzV]) rfl
              simp only [nbV,List.set_cons_succ,List.set_cons_zero]
              (have FX:=And.intro hll (And.intro hal (And.intro hx0 (And.intro hla hnv)));repeat'(first|(refine sx ?_ ?_<;>intro h<;>first|(exfalso;omega)|skip)|(refine g_op ?_;refine g_call ?_;refine g_args ?_;(first|refine s_fn (hcs _) ?_|refine s_fn (hsw _) ?_)<;>try first|omega|assumption)|refine ny ?_|refine WA_block ?_|(refine uY5_9_10 ?_;refine⟨by kernel_rfl,?_⟩)|(refine uY5_9_11 ?_;refine⟨by kernel_rfl,?_⟩)|((first|refine grp_cons (fun _=>hcs _) ?_|refine grp_cons (fun _=>hsw _) ?_)<;>try first|omega|assumption)|(refine g_d ?_;refine d_args ?_;(first|refine d_fn (hcs _) ?_|refine d_fn (hsw _) ?_|refine d_fnQ (fun _=>hcs _) ?_|refine d_fnQ (fun _=>hsw _) ?_)<;>try first|omega|assumption)|(refine g_d ?_;(first|refine d_fnY (hcs _) ?_|refine d_fnY (hsw _) ?_)<;>try first|omega|assumption)))
              all_goals(try(exfalso;first|omega|contradiction|exact hoo ⟨by assumption,by omega⟩))
              all_goals(exact rndQ_ret (LL:=LL) (A:=lend m++[Blk.cells .own 22 1 [[.nilsl]],Blk.cells .own 3 1 [[.int .i64 1]],Blk.cells .own 25 1 [[.int .i64 7]],Blk.cells .ro 22 1 [[.nilsl]],Blk.cells .own 9 1 [[.str (lnR s)]]]) (X:=X) (by simp) (by simp) (hR2 _ ⟨1,h1.symm,Blk.cells .ro 22 1 [[.nilsl]],Blk.cells .own 9 1 [[.str (lnR s)]],X,by simp⟩))
            · have hjl:=(List.getElem?_eq_some_iff.1 hj).1
              have hgj:∀ Y:Mem,(X++Y)[j]?=some (.cells .own 62 6 (plsV l)):=fun Y=>by rw [List.getElem?_append_left hjl];exact hj
              have hsj:∀ (Y:Mem) (z:Blk),(X++Y).set j z=X.set j z++Y:=fun Y z=>List.set_append_left _ _ hjl
              have hlq:(plsV l).take l.length=plsV l:=List.take_of_length_le (by rw [hla];exact Nat.le_refl _)
              have hl9:l.length≤1000:=by omega
              rw [hla,show X=X++[] from(List.append_nil _).symm]
              (have FX:=And.intro hll (And.intro hal (And.intro hx0 (And.intro hla (And.intro hgj (And.intro hsj (And.intro hlq hl9))))));repeat'(first|(refine sx ?_ ?_<;>intro h<;>first|(exfalso;omega)|skip)|(refine g_op ?_;refine g_call ?_;refine g_args ?_;(first|refine s_fn (hcs _) ?_|refine s_fn (hsw _) ?_)<;>try first|omega|assumption)|refine ny ?_|refine WA_block ?_|(refine uY5_9_10 ?_;refine⟨by kernel_rfl,?_⟩)|(refine uY5_9_11 ?_;refine⟨by kernel_rfl,?_⟩)|((first|refine grp_cons (fun _=>hcs _) ?_|refine grp_cons (fun _=>hsw _) ?_)<;>try first|omega|assumption)|(refine g_d ?_;refine d_args ?_;(first|refine d_fn (hcs _) ?_|refine d_fn (hsw _) ?_|refine d_fnQ (fun _=>hcs _) ?_|refine d_fnQ (fun _=>hsw _) ?_)<;>try first|omega|assumption)|(refine g_d ?_;(first|refine d_fnY (hcs _) ?_|refine d_fnY (hsw _) ?_)<;>try first|omega|assumption)))
              rw [hs1]
              refine g_op ?_
              refine g_call ?_
              refine g_args ?_
              refine s_fzA (B:=lend m) 3 (hnu _) ?_ rfl rfl (by simp [frzA,frzV]) rfl
              simp only [nbV,List.set_cons_succ,List.set_cons_zero]
              (have FX:=And.intro hll (And.intro hal (And.intro hx0 (And.intro hla (And.intro hgj (And.intro hsj (And.intro hlq hl9))))));repeat'(first|(refine sx ?_ ?_<;>intro h<;>first|(exfalso;omega)|skip)|(refine g_op ?_;refine g_call ?_;refine g_args ?_;(first|refine s_fn (hcs _) ?_|refine s_fn (hsw _) ?_)<;>try first|omega|assumption)|refine ny ?_|refine WA_block ?_|(refine uY5_9_10 ?_;refine⟨by kernel_rfl,?_⟩)|(refine uY5_9_11 ?_;refine⟨by kernel_rfl,?_⟩)|((first|refine grp_cons (fun _=>hcs _) ?_|refine grp_cons (fun _=>hsw _) ?_)<;>try first|omega|assumption)|(refine g_d ?_;refine d_args ?_;(first|refine d_fn (hcs _) ?_|refine d_fn (hsw _) ?_|refine d_fnQ (fun _=>hcs _) ?_|refine d_fnQ (fun _=>hsw _) ?_)<;>try first|omega|assumption)|(refine g_d ?_;(first|refine d_fnY (hcs _) ?_|refine d_fnY (hsw _) ?_)<;>try first|omega|assumption)))
              all_goals(try(exfalso;first|omega|contradiction|exact hoo ⟨by assumption,by omega⟩))
              all_goals(exact rndQ_ret (LL:=LL) (A:=lend m++[Blk.cells .own 22 1 [[.nilsl]],Blk.cells .own 3 1 [[.int .i64 ((l.length:Int)+1)]],Blk.cells .own 25 1 [[.int .i64 7]],Blk.cells .ro 22 1 [[.sl ((lend m).length+(j+6)) l.length]],Blk.cells .own 9 1 [[.str (lnR s)]]]) (X:=X++[]) (by simp) (by simp) (hR2 _ ⟨l.length+1,h1.symm,Blk.cells .ro 22 1 [[.sl ((lend m).length+(j+6)) l.length]],Blk.cells .own 9 1 [[.str (lnR s)]],X,by simp⟩))
      · have hcs:=fun m=>xcut_c s [10] (by omega) m
        rw [suf_no e3,show Lib.trimSuffix s [10]=s by unfold Lib.trimSuffix;rw [suf_no e3];rfl] at hcs
        have hpl:s.length≤999:=h3m s (by rw [e4];exact List.mem_cons_self)
        rw [e1]
        rw [e4,rowsF_one hs0] at h1
        clear e1 e2 e3 e4
        obtain⟨o,w,hc⟩:∃ o w,cutP 32 s=o::w:=by
          rcases h:cutP 32 s with _|⟨o,w⟩
          · exact absurd h (cutP_ne 32 s)
          · exact⟨o,w,rfl⟩
        have hsw:=fun m=>xsplit_c s 32 (by omega) m
        have hcm:=fun q=>cutP_sub (c:=32) (s:=s) (p:=q)
        have hcl:=cutP_len 32 s
        rw [hc] at hsw hcm hcl
        rw [List.length_cons] at hcl
        have hnu:=fun m=>pnumbers_c w (by omega) (fun i hi=>Nat.le_trans (hcm _ (List.mem_cons_of_mem _ (by rw [List.getD_eq_getElem?_getD,List.getElem?_eq_getElem hi];exact List.getElem_mem _))) (by omega)) m
        have hll:(xsV (o::w)).length=w.length+1:=by rw [xsV_length];rfl
        have hal:(xsV (o::w)).all (fun e=>e.length==1)=true:=by simp [xsV]
        have hx0:(xsV (o::w))[0]?=some [.str o]:=rfl
        have hs1:List.take (((w.length+1:Nat):Int) - 1).toNat (List.drop 1 (xsV (o::w)))=xsV w:=drp rfl (by rw [xsV_length];omega)
        generalize numsP 10 w=wn at hnu
        clear hcm hc
        rcases hv with ⟨rfl,hv⟩|⟨j,rfl,hv,hj⟩
        · have hl0:l=[]:=List.map_eq_nil_iff.1 hv
          subst hl0
          (have FX:=And.intro hll (And.intro hal (And.intro hx0 hla));repeat'(first|(refine sx ?_ ?_<;>intro h<;>first|(exfalso;omega)|skip)|(refine g_op ?_;refine g_call ?_;refine g_args ?_;(first|refine s_fn (hcs _) ?_|refine s_fn (hsw _) ?_)<;>try first|omega|assumption)|refine ny ?_|refine WA_block ?_|(refine uY5_9_10 ?_;refine⟨by kernel_rfl,?_⟩)|(refine uY5_9_11 ?_;refine⟨by kernel_rfl,?_⟩)|((first|refine grp_cons (fun _=>hcs _) ?_|refine grp_cons (fun _=>hsw _) ?_)<;>try first|omega|assumption)|(refine g_d ?_;refine d_args ?_;(first|refine d_fn (hcs _) ?_|refine d_fn (hsw _) ?_|refine d_fnQ (fun _=>hcs _) ?_|refine d_fnQ (fun _=>hsw _) ?_)<;>try first|omega|assumption)|(refine g_d ?_;(first|refine d_fnY (hcs _) ?_|refine d_fnY (hsw _) ?_)<;>try first|omega|assumption)))
          rw [hs1]
          refine g_op ?_
          refine g_call ?_
          refine g_args ?_
          refine s_fzA (B:=lend m) 3 (hnu _) ?_ rfl rfl (by simp [frzA,frzV]) rfl
          rcases wn with _|n
          all_goals simp only [nbV,List.set_cons_succ,List.set_cons_zero]
          all_goals(have FX:=And.intro hll (And.intro hal (And.intro hx0 hla));repeat'(first|(refine sx ?_ ?_<;>intro h<;>first|(exfalso;omega)|skip)|(refine g_op ?_;refine g_call ?_;refine g_args ?_;(first|refine s_fn (hcs _) ?_|refine s_fn (hsw _) ?_)<;>try first|omega|assumption)|refine ny ?_|refine WA_block ?_|(refine uY5_9_10 ?_;refine⟨by kernel_rfl,?_⟩)|(refine uY5_9_11 ?_;refine⟨by kernel_rfl,?_⟩)|((first|refine grp_cons (fun _=>hcs _) ?_|refine grp_cons (fun _=>hsw _) ?_)<;>try first|omega|assumption)|(refine g_d ?_;refine d_args ?_;(first|refine d_fn (hcs _) ?_|refine d_fn (hsw _) ?_|refine d_fnQ (fun _=>hcs _) ?_|refine d_fnQ (fun _=>hsw _) ?_)<;>try first|omega|assumption)|(refine g_d ?_;(first|refine d_fnY (hcs _) ?_|refine d_fnY (hsw _) ?_)<;>try first|omega|assumption)))
          all_goals(exact rndQ_ret (LL:=LL) (A:=lend m++[Blk.cells .own 22 1 [[.nilsl]],Blk.cells .own 3 1 [[.int .i64 1]],Blk.cells .own 25 1 [[.int .i64 7]],Blk.cells .ro 22 1 [[.nilsl]],Blk.cells .own 9 1 [[.str (lnR s)]]]) (X:=X) (by simp) (by simp) (hR2 _ ⟨1,h1.symm,Blk.cells .ro 22 1 [[.nilsl]],Blk.cells .own 9 1 [[.str (lnR s)]],X,by simp⟩))
        · have hjl:=(List.getElem?_eq_some_iff.1 hj).1
          have hgj:∀ Y:Mem,(X++Y)[j]?=some (.cells .own 62 6 (plsV l)):=fun Y=>by rw [List.getElem?_append_left hjl];exact hj
          have hsj:∀ (Y:Mem) (z:Blk),(X++Y).set j z=X.set j z++Y:=fun Y z=>List.set_append_left _ _ hjl
          have hlq:(plsV l).take l.length=plsV l:=List.take_of_length_le (by rw [hla];exact Nat.le_refl _)
          have hl9:l.length≤1000:=by omega
          rw [hla,show X=X++[] from(List.append_nil _).symm]
          (have FX:=And.intro hll (And.intro hal (And.intro hx0 (And.intro hla (And.intro hgj (And.intro hsj (And.intro hlq hl9))))));repeat'(first|(refine sx ?_ ?_<;>intro h<;>first|(exfalso;omega)|skip)|(refine g_op ?_;refine g_call ?_;refine g_args ?_;(first|refine s_fn (hcs _) ?_|refine s_fn (hsw _) ?_)<;>try first|omega|assumption)|refine ny ?_|refine WA_block ?_|(refine uY5_9_10 ?_;refine⟨by kernel_rfl,?_⟩)|(refine uY5_9_11 ?_;refine⟨by kernel_rfl,?_⟩)|((first|refine grp_cons (fun _=>hcs _) ?_|refine grp_cons (fun _=>hsw _) ?_)<;>try first|omega|assumption)|(refine g_d ?_;refine d_args ?_;(first|refine d_fn (hcs _) ?_|refine d_fn (hsw _) ?_|refine d_fnQ (fun _=>hcs _) ?_|refine d_fnQ (fun _=>hsw _) ?_)<;>try first|omega|assumption)|(refine g_d ?_;(first|refine d_fnY (hcs _) ?_|refine d_fnY (hsw _) ?_)<;>try first|omega|assumption)))
          rw [hs1]
          refine g_op ?_
          refine g_call ?_
          refine g_args ?_
          refine s_fzA (B:=lend m) 3 (hnu _) ?_ rfl rfl (by simp [frzA,frzV]) rfl
          rcases wn with _|n
          all_goals simp only [nbV,List.set_cons_succ,List.set_cons_zero]
          all_goals(have FX:=And.intro hll (And.intro hal (And.intro hx0 (And.intro hla (And.intro hgj (And.intro hsj (And.intro hlq hl9))))));repeat'(first|(refine sx ?_ ?_<;>intro h<;>first|(exfalso;omega)|skip)|(refine g_op ?_;refine g_call ?_;refine g_args ?_;(first|refine s_fn (hcs _) ?_|refine s_fn (hsw _) ?_)<;>try first|omega|assumption)|refine ny ?_|refine WA_block ?_|(refine uY5_9_10 ?_;refine⟨by kernel_rfl,?_⟩)|(refine uY5_9_11 ?_;refine⟨by kernel_rfl,?_⟩)|((first|refine grp_cons (fun _=>hcs _) ?_|refine grp_cons (fun _=>hsw _) ?_)<;>try first|omega|assumption)|(refine g_d ?_;refine d_args ?_;(first|refine d_fn (hcs _) ?_|refine d_fn (hsw _) ?_|refine d_fnQ (fun _=>hcs _) ?_|refine d_fnQ (fun _=>hsw _) ?_)<;>try first|omega|assumption)|(refine g_d ?_;(first|refine d_fnY (hcs _) ?_|refine d_fnY (hsw _) ?_)<;>try first|omega|assumption)))
          all_goals(exact rndQ_ret (LL:=LL) (A:=lend m++[Blk.cells .own 22 1 [[.nilsl]],Blk.cells .own 3 1 [[.int .i64 ((l.length:Int)+1)]],Blk.cells .own 25 1 [[.int .i64 7]],Blk.cells .ro 22 1 [[.sl ((lend m).length+(j+6)) l.length]],Blk.cells .own 9 1 [[.str (lnR s)]]]) (X:=X++[]) (by simp) (by simp) (hR2 _ ⟨l.length+1,h1.symm,Blk.cells .ro 22 1 [[.sl ((lend m).length+(j+6)) l.length]],Blk.cells .own 9 1 [[.str (lnR s)]],X,by simp⟩))
  · obtain⟨l,h1,h2,v,X,rfl,hv⟩:=hm
    rw [h1] at hQ
    dsimp only at hQ
    have hcb:=fun m=>pcheckf_c l m
    clear h1 hln hrm hrn
    refine qB_normal ?_
    refine qT_normal ?_
    rcases hv with ⟨rfl,e1⟩|⟨j1,rfl,e1,x1⟩
    · refine WA_ren (L:=lend m) (ks:=[2,3,4,5]) (vs:=[.ptr 0 0 0,.ptr 1 0 0,.ptr 2 0 0,.ptr 3 0 0]) (Ts:=[.cells .own 22 1 [[.v .nilsl]],.cells .own 3 1 [[.v (.int .i64 0)]],.cells .own 25 1 [[.v (.int .i64 0)]],.cells .own 22 1 [[.v .nilsl]]]) (js:=[0,1,2,3]) ⟨_,rfl,?_,?_,?_⟩ (by decide) rfl (by simp [TB.ok,TV.okT,tv_ok]) ?_
      · simp only [List.map_cons,List.map_nil,TV.inst,List.getD_cons_zero,List.getD_cons_succ]
        exact tv_
      · simp only [List.map_cons,List.map_nil,TB.inst,TV.inst,tv_map,List.getD_cons_zero,List.getD_cons_succ]
        rfl
      · decide
      rintro B ⟨D,hB⟩
      simp only [List.map_cons,List.map_nil,TB.inst,TV.inst,tv_map,zipT,List.cons_append,List.nil_append,Nat.add_zero]
      have hcc:=fun m=>Gives_argX (vs:=[.nilsl]) (vs':=[.lst (plsV l)]) ⟨wk_nl _ e1,trivial⟩ (hcb m)
      (have FX:=hs;repeat'(first|(refine sx ?_ ?_<;>intro h<;>first|(exfalso;omega)|skip)|(refine g_op ?_;refine g_call ?_;refine g_args ?_;(first|refine s_fn (hcc _) ?_)<;>try first|omega|assumption)|refine ny ?_|refine WA_block ?_|(refine uY5_9_10 ?_;refine⟨by kernel_rfl,?_⟩)|(refine uY5_9_11 ?_;refine⟨by kernel_rfl,?_⟩)|((first|refine grp_cons (fun _=>hcc _) ?_)<;>try first|omega|assumption)|(refine g_d ?_;refine d_args ?_;(first|refine d_fn (hcc _) ?_|refine d_fnQ (fun _=>hcc _) ?_)<;>try first|omega|assumption)|(refine g_d ?_;(first|refine d_fnY (hcc _) ?_)<;>try first|omega|assumption)))
      · rw [if_neg (by assumption)] at hQ
        exact r_esA hQ (v':= .tup [.nilsl,.int .i64 0,.int .i64 (frcErr l)]) (.inl ⟨rfl,rfl,wk_tup ⟨show WkV _ (.lst []) from wk_nil,WkV.refl _,WkV.refl _,trivial⟩⟩)
      · rw [if_pos (by assumption)] at hQ
        exact r_esA hQ (v':= .tup [.nilsl,.int .i64 0,.int .i64 0]) (.inl ⟨rfl,rfl,wk_tup ⟨show WkV _ (.lst (plsV l)) from wk_nl _ e1,WkV.refl _,WkV.refl _,trivial⟩⟩)
    · have y1:(Blk.cells .own 22 1 [[.nilsl]]::Blk.cells .own 3 1 [[.int .i64 0]]::Blk.cells .own 25 1 [[.int .i64 0]]::Blk.cells .own 22 1 [[.sl ((lend m).length+(j1+6)) (plsV l).length]]::Blk.cells .own 9 1 [[.str []]]:: .dead::X)[j1+6]?=some _:=x1
      refine WA_ren (L:=lend m) (ks:=[2,3,4,5]) (vs:=[.ptr 0 0 0,.ptr 1 0 0,.ptr 2 0 0,.ptr 3 0 0]) (Ts:=[.cells .own 22 1 [[.v .nilsl]],.cells .own 3 1 [[.v (.int .i64 0)]],.cells .own 25 1 [[.v (.int .i64 0)]],.cells .own 22 1 [[.sl 4 (plsV l).length]],.cells .own 62 6 ((plsV l).map (List.map TV.v))]) (js:=[0,1,2,3,j1+6]) ⟨_,rfl,?_,?_,?_⟩ (by decide) rfl (by simp [TB.ok,TV.okT,tv_ok]) ?_
      · simp only [List.map_cons,List.map_nil,TV.inst,List.getD_cons_zero,List.getD_cons_succ]
        exact tv_
      · simp only [List.map_cons,List.map_nil,TB.inst,TV.inst,tv_map,List.getD_cons_zero,List.getD_cons_succ,y1]
        rfl
      · simp
      rintro B ⟨D,hB⟩
      simp only [List.map_cons,List.map_nil,TB.inst,TV.inst,tv_map,zipT,List.cons_append,List.nil_append,Nat.add_zero]
      refine WA_fzM (j:=4) rfl ?_
      simp only [List.map_cons,List.map_nil,frzV,frzC,List.set_cons_succ,List.set_cons_zero]
      rw [if_pos ⟨by first|rfl|trivial,Nat.le_refl _⟩,List.take_of_length_le (Nat.le_refl _)]
      simp only [plsV_frz]
      (have FX:=hs;repeat'(first|(refine sx ?_ ?_<;>intro h<;>first|(exfalso;omega)|skip)|(refine g_op ?_;refine g_call ?_;refine g_args ?_;(first|refine s_fn (hcb _) ?_)<;>try first|omega|assumption)|refine ny ?_|refine WA_block ?_|(refine uY5_9_10 ?_;refine⟨by kernel_rfl,?_⟩)|(refine uY5_9_11 ?_;refine⟨by kernel_rfl,?_⟩)|((first|refine grp_cons (fun _=>hcb _) ?_)<;>try first|omega|assumption)|(refine g_d ?_;refine d_args ?_;(first|refine d_fn (hcb _) ?_|refine d_fnQ (fun _=>hcb _) ?_)<;>try first|omega|assumption)|(refine g_d ?_;(first|refine d_fnY (hcb _) ?_)<;>try first|omega|assumption)))
      · rw [if_neg (by assumption)] at hQ
        exact r_esA hQ (v':= .tup [.nilsl,.int .i64 0,.int .i64 (frcErr l)]) (.inl ⟨rfl,rfl,wk_tup ⟨show WkV _ (.lst []) from wk_nil,WkV.refl _,WkV.refl _,trivial⟩⟩)
      · rw [if_pos (by assumption)] at hQ
        exact r_esA hQ (v':= .tup [.lst (plsV l),.int .i64 0,.int .i64 0]) (fin_pr1 hB (frz_ls (plsV_plain _)) ⟨rfl,WkV.refl _⟩)
  · obtain⟨rfl,k,h1,B,c1,X,rfl⟩:=hm
    rw [h1] at hQ
    dsimp only at hQ
    clear h1 hln
    (have FX:=hrm;repeat'(first|(refine sx ?_ ?_<;>intro h<;>first|(exfalso;omega)|skip)|refine ny ?_|refine WA_block ?_|(refine uY5_9_10 ?_;refine⟨by kernel_rfl,?_⟩)|(refine uY5_9_11 ?_;refine⟨by kernel_rfl,?_⟩)))
    exact r_esA hQ (v':= .tup [.nilsl,.int .i64 k,.int .i64 7]) (.inl ⟨rfl,rfl,wk_tup ⟨show WkV _ (.lst []) from wk_nil,WkV.refl _,WkV.refl _,trivial⟩⟩)
theorem pparse_c(s:Txt)(hs:s.length≤600∨60000<s.length)(m:Mem):Gives Tryz.prog 9 [.str s] m (pfV (prsF s)):=by
  rcases hs with h|h
  · have:=cutP_len 10 s
    exact pparse_rows s (by omega) (by omega) (fun r hr=>Nat.le_trans (cutP_sub hr) (by omega)) m
  · exact pparse_long s h m
end Go.Proofs.YtjonlmpjdhoogaaGreatDoor
