/- a bench that a text tells: sizes; contract of Parse -/
import Derived.Test.YtookikhphobnlaaGreatDoorGAJ
import Derived.Test.YtookikhphobnlaaGreatDoorGAI
import Derived.Test.YtookikhphobnlaaGreatDoorGAK
import Derived.Test.YtookikhphobnlaaGreatDoorGAH
set_option linter.unusedSimpArgs false
set_option linter.unusedVariables false
namespace Go.Proofs.YtookikhphobnlaaGreatDoor
open Go.RowKit
attribute [local irreducible] WA WOs WDs WAn qThen qBlock tput
set_option maxHeartbeats 1000000
set_option maxRecDepth 20000
set_option linter.unusedSimpArgs false
set_option linter.unusedVariables false
set_option maxHeartbeats 4000000
structure BlN(k:Nat)(b:BnR):Prop where
  n:b.ms.length+b.ads.length≤k
  m:∀ x∈b.ms,x.name.length≤1000
  a:∀ x∈b.ads,x.name.length≤1000∧x.effs.length≤1000∧x.after.length≤1000
theorem BlN.bl{k:Nat}{b:BnR}(h:BlN k b)(hk:k≤1000):Bl b:=by
  have h0:=h.n
  have hm:∀ i,i<b.ms.length→b.ms.getD i msz∈b.ms:=fun i hi=>by rw [List.getD_eq_getElem?_getD,List.getElem?_eq_getElem hi];exact List.getElem_mem _
  have ha:∀ i,i<b.ads.length→b.ads.getD i adz∈b.ads:=fun i hi=>by rw [List.getD_eq_getElem?_getD,List.getElem?_eq_getElem hi];exact List.getElem_mem _
  exact⟨by omega,by omega,fun i hi=>h.m _ (hm i hi),fun i hi=>(h.a _ (ha i hi)).1,fun i hi=>(h.a _ (ha i hi)).2.1,fun i hi=>(h.a _ (ha i hi)).2.2⟩
theorem onP_len:∀ (n:Nat) (r:List Txt) (p:List EfR×List Txt),r.length≤n→onP r=some p→p.1.length+p.2.length≤r.length
  | 0,r,p,hn,h=>by
    obtain rfl:r=[]:=List.length_eq_zero_iff.1 (by omega)
    cases h
    exact Nat.le_refl _
  | n + 1,r,p,hn,h=>by
    by_cases hex:∃ mm w r',r=[111,110]::mm::w::r'
    · obtain⟨mm,w,r',rfl⟩:=hex
      rw [onP_yes] at h
      simp only [List.length_cons] at hn
      cases hw:numP 7 w with
      |none=>rw [hw] at h;cases h
      | some x=>
        rw [hw,Option.bind_some] at h
        cases hr:onP r' with
        |none=>rw [hr] at h;cases h
        | some q=>
          rw [hr] at h
          cases h
          have:=onP_len n r' q (by omega) hr
          simp only [List.length_cons]
          omega
    · rw [onP_no hex] at h
      cases h
      simp
theorem afP_len:∀ (n:Nat) (r:List Txt),r.length≤n→(afP r).1.length≤r.length
  | 0,r,hn=>by
    obtain rfl:r=[]:=List.length_eq_zero_iff.1 (by omega)
    exact Nat.le_refl _
  | n +1,r,hn=>by
    by_cases hex:∃ x r',r=[97,102,116,101,114]::x::r'
    · obtain⟨x,r',rfl⟩:=hex
      rw [afP_yes]
      simp only [List.length_cons] at hn ⊢
      have:=afP_len n r' (by omega)
      omega
    · rw [afP_no hex]
      simp
theorem adjT_len {w:List Txt} (hw:∀ x∈w,x.length≤1000) (hl:w.length≤1000):(adjT w).1.name.length≤1000∧(adjT w).1.effs.length≤1000∧(adjT w).1.after.length≤1000:=by
  have hz:adz.name.length≤1000∧adz.effs.length≤1000∧adz.after.length≤1000:=⟨Nat.zero_le _,Nat.zero_le _,Nat.zero_le _⟩
  rcases w with _|⟨nm,_|⟨a,_|⟨b,_|⟨c,r⟩⟩⟩⟩
  · exact hz
  · exact hz
  · exact hz
  · exact hz
  · simp only [adjT]
    cases numsP 7 [a,b,c] with
    |none=>exact hz
    | some l=>
      dsimp only
      cases hr:onP r with
      |none=>exact hz
      | some p=>
        have h1:=onP_len _ r p (Nat.le_refl _) hr
        have h2:=afP_len _ p.2 (Nat.le_refl _)
        simp only [List.length_cons] at hl
        exact⟨hw nm (by simp),by dsimp only;omega,by dsimp only;omega⟩
theorem lineP_bl {k:Nat} {b b':BnR} {s:Txt} (h:BlN k b) (hs:s.length≤999) (hl:lineP b s=some b'):BlN (k+1) b':=by
  have h0:=h.n
  have hcm:=fun p=>cutP_sub (c:=32) (s:=s) (p:=p)
  have hcl:=cutP_len 32 s
  unfold lineP at hl
  rcases hc:cutP 32 s with _|⟨o,w⟩
  · exact absurd hc (cutP_ne 32 s)
  · rw [hc] at hl hcm hcl
    simp only [List.length_cons] at hcl
    dsimp only at hl
    split at hl
    · rename_i hm
      obtain⟨rfl,hw, -⟩:=hm
      rcases w with _|⟨nm,w⟩
      · cases hw
      · cases hn:numsP 7 (List.drop 1 (nm::w)) with
        |none=>rw [hn] at hl;cases hl
        | some l=>
          rw [hn] at hl
          cases hl
          refine⟨by simp;omega,fun x hx=>?_,h.a⟩
          rcases List.mem_append.1 hx with hx|hx
          · exact h.m x hx
          · obtain rfl:=List.mem_singleton.1 hx
            have:=hcm nm (by simp)
            show nm.length≤_
            omega
    · split at hl
      · split at hl
        · cases hl
          refine⟨by simp;omega,h.m,fun x hx=>?_⟩
          rcases List.mem_append.1 hx with hx|hx
          · exact h.a x hx
          · obtain rfl:=List.mem_singleton.1 hx
            exact adjT_len (fun x hx=>by have:=hcm x (List.mem_cons_of_mem _ hx);omega) (by omega)
        · cases hl
      · cases hl
theorem ln1_le:∀ s:Txt,(ln1 s).length≤s.length
  |[]=>Nat.le_refl _
  | b::l=>by
    have:=ln1_le l
    unfold ln1
    split
    · simp
    · simp only [List.length_cons];omega
def bnz:BnR:=⟨[],[]⟩
/-- what Parse tells of a text -/
def prsP(s:Txt):BnR×Int×Int:=if 60000<s.length then (bnz,0,8) else match rowsP 0 bnz (cutP 10 s) with
  | .error k=>(bnz,k,7)
  | .ok b=>if bnErr b=0 then (b,0,0) else (bnz,0,bnErr b)
def paV(p:BnR×Int×Int):V:= .tup [.agg (bnV p.1),.int .i64 p.2.1,.int .i64 p.2.2]
theorem Gives_argX{P:Program}{f:FuncId}{vs vs':List V}{m:Mem}{v:V}(hw:WkL vs vs')(h:Gives P f vs' m v):Gives P f vs m v:=by
  obtain⟨h1,h2⟩:=WkL_get hw
  refine⟨h.1,fun w ρ xs hM hA=>h.2 w ρ xs hM ⟨h1.trans hA.1,fun i c x e1 e2=>?_⟩⟩
  obtain⟨u,g1,g2⟩:=h2 i c e1
  exact g2 _ _ _ _ (hA.2 i u x g1 e2)
theorem gline_k(A:Mem)(c1 c2 c3:Blk)(b:BnR)(M:Mem)(hI:lnI A c1 c2 c3 b M)(n:Nat)(hA:A.length=n)(s:Txt)(hs:s.length≤1000)(hb:b.ms.length≤1000)(hb2:b.ads.length≤1000):CallA Tryz.prog 30 [.ptr n 0 0,.str s] M (fun v mo=>∃ b' M',mo=some M'∧lnI A c1 c2 c3 b' M'∧((v= .bool true∧lineP b s=some b')∨(v= .bool false∧lineP b s=none))):=by
  subst hA
  exact gline_c A c1 c2 c3 b M hI s hs hb hb2 _ (fun b' M' h1 h2=>⟨b',M',rfl,h2,.inl ⟨rfl,h1⟩⟩) fun b' M' h1 h2=>⟨b',M',rfl,h2,.inr ⟨rfl,h1⟩⟩
theorem uX14_6_10{N:Nat}{l:List Oper}{t:List (Nat×V)}{m:Mem}{Q:Exit→List (Nat×V)→Mem→Prop}(h:RgT Tryz.prog N l t m Q 28 (fun i=>if i==3 || i==4 then .w else if i==2 then .f else if i==1 then .q else .p) [.one 0,.one 1,.one 2,.one 3,.one 4]):WA Tryz.prog N (.region 10 l.toArray true) t m Q:=d_rgT h
theorem gparse_long(s:Txt)(hs:60000<s.length)(m:Mem):Gives Tryz.prog 6 [.str s] m (paV (prsP s)):=by
  suffices key:CallA Tryz.prog 6 [.str s] m (fun v mo=>mo=none∧WkV v (paV (prsP s))) from Gives_ofX key fun v mo h=>h
  refine CallA_in Tryz.func6 rfl Tryz.ntmps6 Tryz.results6 (by kernel_rfl) (by simp) fun Q hQ=>?_
  unfold prsP at hQ
  rw [if_pos hs] at hQ
  (repeat'(first|(refine sx ?_ ?_<;>intro h<;>first|(exfalso;omega)|skip)|refine ny ?_|refine WA_block ?_|(refine uX14_6_10 ?_;refine⟨by kernel_rfl,?_⟩)))
  all_goals(try(exfalso;omega))
  exact r_esA hQ (v':= .tup [.agg [.nilsl,.nilsl],.int .i64 0,.int .i64 8]) (.inl ⟨rfl,rfl,wk_tup ⟨show WkV _ (.agg [.lst [],.lst []]) from wk_agg ⟨wk_nil,wk_nil,trivial⟩,WkV.refl _,WkV.refl _,trivial⟩⟩)
/-- the memory of Parse -/
def paI(m:Mem)(s:Txt)(LB:Blk)(k:Nat)(b:BnR)(M:Mem):Prop:=lnI (lend m++[.cells .own 28 2 [[.nilsl,.nilsl]],.cells .own 3 1 [[.int .i64 0]],.cells .own 29 1 [[.int .i64 0]]]) (.cells .own 3 1 [[.int .i64 k]]) (.cells .own 9 1 [[.str s]]) LB b M
def paJ(m:Mem)(LB:Blk)(k:Nat)(M:Mem):Prop:=∃ B c1 c2 X,M=lend m++(.cells .own 28 2 [[.nilsl,.nilsl]]:: .cells .own 3 1 [[.int .i64 k]]:: .cells .own 29 1 [[.int .i64 7]]::B::c1::c2::LB::X)
theorem paI_at{m:Mem}{s:Txt}{LB:Blk}{k:Nat}{b:BnR}{M:Mem}(h:paI m s LB k b M):M[(lend m).length+6]?=some LB:=by
  obtain⟨v1,v2,X,rfl, -, -⟩:=h
  simp
theorem paI_box{m:Mem}{s:Txt}{LB:Blk}{k:Nat}{b:BnR}{M:Mem}(h:paI m s LB k b M):M[(lend m).length+5]?=some (.cells .own 9 1 [[.str s]]):=by
  obtain⟨v1,v2,X,rfl, -, -⟩:=h
  simp
theorem paI_set{m:Mem}{s:Txt}{LB LC:Blk}{k:Nat}{b:BnR}{M:Mem}(h:paI m s LB k b M):paI m s LC k b (M.set ((lend m).length+6) LC):=by
  obtain⟨v1,v2,X,rfl,h1,h2⟩:=h
  exact⟨v1,v2,X,by simp,h1,h2⟩
theorem paJ_at{m:Mem}{LB:Blk}{k:Nat}{M:Mem}(h:paJ m LB k M):M[(lend m).length+6]?=some LB:=by
  obtain⟨B,c1,c2,X,rfl⟩:=h
  simp
theorem paJ_set{m:Mem}{LB LC:Blk}{k:Nat}{M:Mem}(h:paJ m LB k M):paJ m LC k (M.set ((lend m).length+6) LC):=by
  obtain⟨B,c1,c2,X,rfl⟩:=h
  exact⟨B,c1,c2,X,by simp⟩
theorem fin_prs{m0 D X B:Mem}{v1 v2 u1 u2:V}{a c:Int}{R:V→Option Mem→Prop}(hB:B=lend m0++D)(h1:frz (B++X) m0.length 2 v1=some u1)(h2:frz (B++X) m0.length 2 v2=some u2)(h:R (.tup [.agg [u1,u2],.int .i64 a,.int .i64 c]) none):Fin m0 R (.tup [.agg [v1,v2],.int .i64 a,.int .i64 c]) (B++X):=by
  refine .inr ⟨D++X,_,by rw [hB,List.append_assoc],?_,h⟩
  show(frzs (frz _ _ 3) [_,_,_]).map V.tup=_
  have e:frz (B++X) m0.length 3 (.agg [v1,v2])=some (.agg [u1,u2]):=by
    show(frzs (frz _ _ 2) _).map V.agg=_
    rw [frzs_cons h1 (frzs_cons h2 rfl)]
    rfl
  rw [frzs_cons e (frzs_cons (frz_int _ _ _ _ _) (frzs_cons (frz_int _ _ _ _ _) rfl))]
  rfl
theorem gparse_walk (s0:Txt) (hs:s0.length≤600) (m:Mem):Gives Tryz.prog 6 [.str s0] m (paV (prsP s0)):=by
  suffices key:CallA Tryz.prog 6 [.str s0] m (fun v mo=>mo=none∧WkV v (paV (prsP s0))) from Gives_ofX key fun v mo h=>h
  refine CallA_in Tryz.func6 rfl Tryz.ntmps6 Tryz.results6 (by kernel_rfl) (by simp) fun Q hQ=>?_
  unfold prsP at hQ
  rw [if_neg (by omega)] at hQ
  (repeat'(first|(refine sx ?_ ?_<;>intro h<;>first|(exfalso;omega)|skip)|refine ny ?_|refine WA_block ?_|(refine uX14_6_10 ?_;refine⟨by kernel_rfl,?_⟩)))
  all_goals(try(exfalso;omega))
  refine g_op ?_;refine g_call ?_;refine g_args ?_;refine s_fnA (xlines_o s0 _) ?_
  rintro v mo ⟨rfl,rfl⟩
  simp only [Option.getD_some]
  (repeat'(first|(refine sx ?_ ?_<;>intro h<;>first|(exfalso;omega)|skip)|refine ny ?_|refine WA_block ?_|(refine uX14_6_10 ?_;refine⟨by kernel_rfl,?_⟩)))
  have hln:∀ a b c d e:Blk,(lend m++[a,b,c,d,e]).length=(lend m).length+5:=by intros;simp
  simp only [hln,List.append_assoc,List.cons_append,List.nil_append]
  refine WA_rfA (fun m'=>∃ b k,rowsP 0 bnz (cutP 10 s0)= .ok b∧BlN k b∧k≤600∧paI m [] .dead k b m') (fun c m'=>c= .ret∧∃ k,rowsP 0 bnz (cutP 10 s0)= .error k∧paJ m .dead k m') (fun lp LB LL LD hY=>?_) (fun m' hm=>?_) (fun c m' hm=>?_)
  · refine xlines1 lp ((lend m).length+5) _ s0 (by omega) _ (fun s M=>∃ b k,rowsP k b (cutP 10 s)=rowsP 0 bnz (cutP 10 s0)∧BlN k b∧k+s.length≤600∧paI m s LB k b M) (fun M=>∃ k,rowsP 0 bnz (cutP 10 s0)= .error k∧paJ m (LD .ret) k M) ⟨bnz,0,rfl,⟨Nat.zero_le _,by simp [bnz],by simp [bnz]⟩,by omega,⟨.nilsl,.nilsl,[],by simp,.inl ⟨rfl,rfl⟩,.inl ⟨rfl,rfl⟩⟩⟩ ?_ ?_ ?_ ?_
    · rintro s M' ⟨b,k, -, -, -,h4⟩
      exact paI_box h4
    · rintro M' ⟨b,k,h1,h2,h3,h4⟩
      refine⟨M',rfl,.inl ⟨?_,b,k,h1.symm,h2,by omega,?_⟩⟩
      · have:=paI_at h4;simpa using this
      · have:=paI_set (LC:= .dead) h4;simpa using this
    · rintro M' ⟨k,h1,h2⟩
      refine⟨M',rfl,.inr ⟨.ret,?_,rfl,k,h1,?_⟩⟩
      · have:=paJ_at h2;simpa using this
      · have:=paJ_set (LC:= .dead) h2;simpa using this
    · rintro s M' hs0 hsl ⟨b,k,h1,h2,h3,v1,v2,X,rfl,hv1,hv2⟩ R' hR1 hR2
      have hslen:s.length≤600:=by omega
      have hkb:k≤600:=by omega
      have hlt:=lnR_lt hs0
      have hsp:∀ z:Blk,(lend m++[Blk.cells .own 28 2 [[.nilsl,.nilsl]],Blk.cells .own 3 1 [[.int .i64 0]],Blk.cells .own 29 1 [[.int .i64 0]]]++(Blk.cells .own 28 2 [[v1,v2]]::Blk.cells .own 3 1 [[.int .i64 k]]::Blk.cells .own 9 1 [[.str s]]::LB::X)).set ((lend m).length+5) z=(lend m++[Blk.cells .own 28 2 [[.nilsl,.nilsl]],Blk.cells .own 3 1 [[.int .i64 0]],Blk.cells .own 29 1 [[.int .i64 0]],Blk.cells .own 28 2 [[v1,v2]],Blk.cells .own 3 1 [[.int .i64 k]],z])++LB::X:=fun z=>by simp
      rw [hsp]
      refine hY _ _ _ R' rfl ?_
      simp only [setPs,List.append_assoc,List.cons_append,List.nil_append]
      (repeat'(first|(refine sx ?_ ?_<;>intro h<;>first|(exfalso;omega)|skip)|refine ny ?_|refine WA_block ?_|(refine uX14_6_10 ?_;refine⟨by kernel_rfl,?_⟩)))
      refine⟨rfl,by simp,?_⟩
      have hn1:=h2.n
      rcases ln_cut hs0 with ⟨p,e1,e2,e3⟩|⟨e1,e2,e3,e4⟩
      · have hcs:=fun m=>xcut_c (p++[10]) [10] (by rw [←e1];have:=ln1_le s;omega) m
        rw [(suf_yes p).1,(suf_yes p).2] at hcs
        rw [e1]
        have hpl:p.length≤999:=by have:=ln1_le s;rw [e1] at this;simp at this;omega
        rw [e3,rowsP_cut] at h1
        clear e1 e2 e3
        (have FX:=hkb;repeat'(first|(refine sx ?_ ?_<;>intro h<;>first|(exfalso;omega)|skip)|(refine g_op ?_;refine g_call ?_;refine g_args ?_;(first|refine s_fn (hcs _) ?_)<;>try first|omega|assumption)|refine ny ?_|refine WA_block ?_|(refine uX14_6_10 ?_;refine⟨by kernel_rfl,?_⟩)|((first|refine grp_cons (fun _=>hcs _) ?_)<;>try first|omega|assumption)|(refine g_d ?_;refine d_args ?_;(first|refine d_fn (hcs _) ?_|refine d_fnQ (fun _=>hcs _) ?_)<;>try first|omega|assumption)|(refine g_d ?_;(first|refine d_fnY (hcs _) ?_)<;>try first|omega|assumption)))
        refine g_op ?_;refine g_call ?_;refine g_args ?_;refine s_fnA (gline_k (lend m++[Blk.cells .own 28 2 [[.nilsl,.nilsl]],Blk.cells .own 3 1 [[.int .i64 0]],Blk.cells .own 29 1 [[.int .i64 0]]]) (Blk.cells .own 3 1 [[.int .i64 ((k:Int)+1)]]) (Blk.cells .own 9 1 [[.str (lnR s)]]) LL b _ ⟨v1,v2,X,by simp,hv1,hv2⟩ ((lend m).length+3) (by simp) p (by omega) (by omega) (by omega)) ?_
        rintro v mo ⟨b',M',rfl,⟨v1',v2',X',rfl,hv1',hv2'⟩,hcase⟩
        simp only [Option.getD_some,List.append_assoc,List.cons_append,List.nil_append]
        rcases hcase with ⟨rfl,hl⟩|⟨rfl,hl⟩
        · rw [hl] at h1
          (have FX:=hkb;repeat'(first|(refine sx ?_ ?_<;>intro h<;>first|(exfalso;omega)|skip)|(refine g_op ?_;refine g_call ?_;refine g_args ?_;(first|refine s_fn (hcs _) ?_)<;>try first|omega|assumption)|refine ny ?_|refine WA_block ?_|(refine uX14_6_10 ?_;refine⟨by kernel_rfl,?_⟩)|((first|refine grp_cons (fun _=>hcs _) ?_)<;>try first|omega|assumption)|(refine g_d ?_;refine d_args ?_;(first|refine d_fn (hcs _) ?_|refine d_fnQ (fun _=>hcs _) ?_)<;>try first|omega|assumption)|(refine g_d ?_;(first|refine d_fnY (hcs _) ?_)<;>try first|omega|assumption)))
          refine rndQ_nrm (LL:=LL) (A:=lend m++[Blk.cells .own 28 2 [[.nilsl,.nilsl]],Blk.cells .own 3 1 [[.int .i64 0]],Blk.cells .own 29 1 [[.int .i64 0]],Blk.cells .own 28 2 [[v1',v2']],Blk.cells .own 3 1 [[.int .i64 ((k:Int)+1)]],Blk.cells .own 9 1 [[.str (lnR s)]]]) (X:=X') (by simp) (by simp) (hR1 _ ⟨b',k+1,h1,lineP_bl h2 hpl hl,by omega,v1',v2',X',by simp,hv1',hv2'⟩)
        · rw [hl] at h1
          (have FX:=hkb;repeat'(first|(refine sx ?_ ?_<;>intro h<;>first|(exfalso;omega)|skip)|(refine g_op ?_;refine g_call ?_;refine g_args ?_;(first|refine s_fn (hcs _) ?_)<;>try first|omega|assumption)|refine ny ?_|refine WA_block ?_|(refine uX14_6_10 ?_;refine⟨by kernel_rfl,?_⟩)|((first|refine grp_cons (fun _=>hcs _) ?_)<;>try first|omega|assumption)|(refine g_d ?_;refine d_args ?_;(first|refine d_fn (hcs _) ?_|refine d_fnQ (fun _=>hcs _) ?_)<;>try first|omega|assumption)|(refine g_d ?_;(first|refine d_fnY (hcs _) ?_)<;>try first|omega|assumption)))
          refine rndQ_ret (LL:=LL) (A:=lend m++[Blk.cells .own 28 2 [[.nilsl,.nilsl]],Blk.cells .own 3 1 [[.int .i64 ((k:Int)+1)]],Blk.cells .own 29 1 [[.int .i64 7]],Blk.cells .own 28 2 [[v1',v2']],Blk.cells .own 3 1 [[.int .i64 ((k:Int)+1)]],Blk.cells .own 9 1 [[.str (lnR s)]]]) (X:=X') (by simp) (by simp) (hR2 _ ⟨k+1,h1.symm,Blk.cells .own 28 2 [[v1',v2']],Blk.cells .own 3 1 [[.int .i64 ((k:Int)+1)]],Blk.cells .own 9 1 [[.str (lnR s)]],X',by simp⟩)
      · have hcs:=fun m=>xcut_c s [10] (by omega) m
        rw [suf_no e3] at hcs
        rw [e1]
        rw [e4,rowsP_one hs0] at h1
        clear e1 e2 e3 e4
        (have FX:=hkb;repeat'(first|(refine sx ?_ ?_<;>intro h<;>first|(exfalso;omega)|skip)|(refine g_op ?_;refine g_call ?_;refine g_args ?_;(first|refine s_fn (hcs _) ?_)<;>try first|omega|assumption)|refine ny ?_|refine WA_block ?_|(refine uX14_6_10 ?_;refine⟨by kernel_rfl,?_⟩)|((first|refine grp_cons (fun _=>hcs _) ?_)<;>try first|omega|assumption)|(refine g_d ?_;refine d_args ?_;(first|refine d_fn (hcs _) ?_|refine d_fnQ (fun _=>hcs _) ?_)<;>try first|omega|assumption)|(refine g_d ?_;(first|refine d_fnY (hcs _) ?_)<;>try first|omega|assumption)))
        refine rndQ_ret (LL:=LL) (A:=lend m++[Blk.cells .own 28 2 [[.nilsl,.nilsl]],Blk.cells .own 3 1 [[.int .i64 ((k:Int)+1)]],Blk.cells .own 29 1 [[.int .i64 7]],Blk.cells .own 28 2 [[v1,v2]],Blk.cells .own 3 1 [[.int .i64 ((k:Int)+1)]],Blk.cells .own 9 1 [[.str (lnR s)]]]) (X:=X) (by simp) (by simp) (hR2 _ ⟨k+1,h1.symm,Blk.cells .own 28 2 [[v1,v2]],Blk.cells .own 3 1 [[.int .i64 ((k:Int)+1)]],Blk.cells .own 9 1 [[.str (lnR s)]],X,by simp⟩)
  · obtain⟨b,k,h1,h2,h3,v1,v2,X,rfl,hv1,hv2⟩:=hm
    rw [h1] at hQ
    dsimp only at hQ
    have hcb:=fun m=>gcheckbench_c b (h2.bl (by omega)) m
    clear h1 h2 h3 hln
    refine qB_normal ?_
    refine qT_normal ?_
    have hA:∀ j,(lend m++[Blk.cells .own 28 2 [[.nilsl,.nilsl]],Blk.cells .own 3 1 [[.int .i64 0]],Blk.cells .own 29 1 [[.int .i64 0]]]).length+(j+4)=(lend m).length+(j+7):=fun j=>by simp;omega
    rcases hv1 with ⟨rfl,e1⟩|⟨j1,rfl,e1,x1⟩
    · rcases hv2 with ⟨rfl,e2⟩|⟨j2,rfl,e2,x2⟩
      · refine WA_ren (L:=lend m) (ks:=[2,3,4,5]) (vs:=[.ptr 0 0 0,.ptr 1 0 0,.ptr 2 0 0,.ptr 3 0 0]) (Ts:=[.cells .own 28 2 [[.v .nilsl,.v .nilsl]],.cells .own 3 1 [[.v (.int .i64 0)]],.cells .own 29 1 [[.v (.int .i64 0)]],.cells .own 28 2 [[.v .nilsl,.v .nilsl]]]) (js:=[0,1,2,3]) ⟨[Blk.cells .own 28 2 [[.nilsl,.nilsl]],Blk.cells .own 3 1 [[.int .i64 0]],Blk.cells .own 29 1 [[.int .i64 0]]]++(Blk.cells .own 28 2 [[.nilsl,.nilsl]]::Blk.cells .own 3 1 [[.int .i64 (k:Int)]]::Blk.cells .own 9 1 [[.str []]]:: .dead::X),List.append_assoc _ _ _,?_,?_,?_⟩ (by decide) rfl (by simp [TB.ok,TV.okT,tv_ok]) ?_
        · simp only [List.map_cons,List.map_nil,TV.inst,List.getD_cons_zero,List.getD_cons_succ]
          exact tv_
        · simp only [List.map_cons,List.map_nil,TB.inst,TV.inst,tv_map,List.getD_cons_zero,List.getD_cons_succ]
          rfl
        · decide
        rintro B ⟨D,hB⟩
        simp only [List.map_cons,List.map_nil,TB.inst,TV.inst,tv_map,zipT,List.cons_append,List.nil_append,Nat.add_zero]
        unfold bnV at hcb
        have hcc:=fun m=>Gives_argX (vs:=[.agg [.nilsl,.nilsl]]) (vs':=[.agg [.lst (mssV b.ms),.lst (adsV b.ads)]]) ⟨wk_agg ⟨wk_nl _ e1,wk_nl _ e2,trivial⟩,trivial⟩ (hcb m)
        (have FX:=hs;repeat'(first|(refine sx ?_ ?_<;>intro h<;>first|(exfalso;omega)|skip)|(refine g_op ?_;refine g_call ?_;refine g_args ?_;(first|refine s_fn (hcc _) ?_)<;>try first|omega|assumption)|refine ny ?_|refine WA_block ?_|(refine uX14_6_10 ?_;refine⟨by kernel_rfl,?_⟩)|((first|refine grp_cons (fun _=>hcc _) ?_)<;>try first|omega|assumption)|(refine g_d ?_;refine d_args ?_;(first|refine d_fn (hcc _) ?_|refine d_fnQ (fun _=>hcc _) ?_)<;>try first|omega|assumption)|(refine g_d ?_;(first|refine d_fnY (hcc _) ?_)<;>try first|omega|assumption)))
        · rw [if_neg (by assumption)] at hQ
          exact r_esA hQ (v':= .tup [.agg [.nilsl,.nilsl],.int .i64 0,.int .i64 (bnErr b)]) (.inl ⟨rfl,rfl,wk_tup ⟨show WkV _ (.agg [.lst [],.lst []]) from wk_agg ⟨wk_nil,wk_nil,trivial⟩,WkV.refl _,WkV.refl _,trivial⟩⟩)
        · rw [if_pos (by assumption)] at hQ
          exact r_esA hQ (v':= .tup [.agg [.nilsl,.nilsl],.int .i64 0,.int .i64 0]) (fin_prs hB (by first|exact frz_nl|exact frz_ls (mssV_plain _)) (by first|exact frz_nl|exact frz_ls (adsV_plain _)) ⟨rfl,show WkV _ (.tup [.agg [.lst (mssV b.ms),.lst (adsV b.ads)],.int .i64 0,.int .i64 0]) from wk_tup ⟨wk_agg ⟨wk_nl _ e1,wk_nl _ e2,trivial⟩,WkV.refl _,WkV.refl _,trivial⟩⟩)
      · rw [hA]
        have y2:([Blk.cells .own 28 2 [[.nilsl,.nilsl]],Blk.cells .own 3 1 [[.int .i64 0]],Blk.cells .own 29 1 [[.int .i64 0]]]++(Blk.cells .own 28 2 [[.nilsl,.sl ((lend m).length+(j2+7)) (adsV b.ads).length]]::Blk.cells .own 3 1 [[.int .i64 (k:Int)]]::Blk.cells .own 9 1 [[.str []]]:: .dead::X))[j2+7]?=some _:=x2
        refine WA_ren (L:=lend m) (ks:=[2,3,4,5]) (vs:=[.ptr 0 0 0,.ptr 1 0 0,.ptr 2 0 0,.ptr 3 0 0]) (Ts:=[.cells .own 28 2 [[.v .nilsl,.v .nilsl]],.cells .own 3 1 [[.v (.int .i64 0)]],.cells .own 29 1 [[.v (.int .i64 0)]],.cells .own 28 2 [[.v .nilsl,.sl 4 (adsV b.ads).length]],.cells .own 78 6 ((adsV b.ads).map (List.map TV.v))]) (js:=[0,1,2,3,j2+7]) ⟨[Blk.cells .own 28 2 [[.nilsl,.nilsl]],Blk.cells .own 3 1 [[.int .i64 0]],Blk.cells .own 29 1 [[.int .i64 0]]]++(Blk.cells .own 28 2 [[.nilsl,.sl ((lend m).length+(j2+7)) (adsV b.ads).length]]::Blk.cells .own 3 1 [[.int .i64 (k:Int)]]::Blk.cells .own 9 1 [[.str []]]:: .dead::X),List.append_assoc _ _ _,?_,?_,?_⟩ (by decide) rfl (by simp [TB.ok,TV.okT,tv_ok]) ?_
        · simp only [List.map_cons,List.map_nil,TV.inst,List.getD_cons_zero,List.getD_cons_succ]
          exact tv_
        · simp only [List.map_cons,List.map_nil,TB.inst,TV.inst,tv_map,List.getD_cons_zero,List.getD_cons_succ,y2]
          rfl
        · simp
        rintro B ⟨D,hB⟩
        simp only [List.map_cons,List.map_nil,TB.inst,TV.inst,tv_map,zipT,List.cons_append,List.nil_append,Nat.add_zero]
        refine WA_fzM (j:=4) rfl ?_
        simp only [List.map_cons,List.map_nil,frzV,frzC,List.set_cons_succ,List.set_cons_zero]
        rw [if_pos ⟨by first|rfl|trivial,Nat.le_refl _⟩,List.take_of_length_le (Nat.le_refl _)]
        simp only [mssV_frz,adsV_frz]
        unfold bnV at hcb
        have hcc:=fun m=>Gives_argX (vs:=[.agg [.nilsl,.lst (adsV b.ads)]]) (vs':=[.agg [.lst (mssV b.ms),.lst (adsV b.ads)]]) ⟨wk_agg ⟨wk_nl _ e1,WkV.refl _,trivial⟩,trivial⟩ (hcb m)
        (have FX:=hs;repeat'(first|(refine sx ?_ ?_<;>intro h<;>first|(exfalso;omega)|skip)|(refine g_op ?_;refine g_call ?_;refine g_args ?_;(first|refine s_fn (hcc _) ?_)<;>try first|omega|assumption)|refine ny ?_|refine WA_block ?_|(refine uX14_6_10 ?_;refine⟨by kernel_rfl,?_⟩)|((first|refine grp_cons (fun _=>hcc _) ?_)<;>try first|omega|assumption)|(refine g_d ?_;refine d_args ?_;(first|refine d_fn (hcc _) ?_|refine d_fnQ (fun _=>hcc _) ?_)<;>try first|omega|assumption)|(refine g_d ?_;(first|refine d_fnY (hcc _) ?_)<;>try first|omega|assumption)))
        · rw [if_neg (by assumption)] at hQ
          exact r_esA hQ (v':= .tup [.agg [.nilsl,.nilsl],.int .i64 0,.int .i64 (bnErr b)]) (.inl ⟨rfl,rfl,wk_tup ⟨show WkV _ (.agg [.lst [],.lst []]) from wk_agg ⟨wk_nil,wk_nil,trivial⟩,WkV.refl _,WkV.refl _,trivial⟩⟩)
        · rw [if_pos (by assumption)] at hQ
          exact r_esA hQ (v':= .tup [.agg [.nilsl,.lst (adsV b.ads)],.int .i64 0,.int .i64 0]) (fin_prs hB (by first|exact frz_nl|exact frz_ls (mssV_plain _)) (by first|exact frz_nl|exact frz_ls (adsV_plain _)) ⟨rfl,show WkV _ (.tup [.agg [.lst (mssV b.ms),.lst (adsV b.ads)],.int .i64 0,.int .i64 0]) from wk_tup ⟨wk_agg ⟨wk_nl _ e1,WkV.refl _,trivial⟩,WkV.refl _,WkV.refl _,trivial⟩⟩)
    · rcases hv2 with ⟨rfl,e2⟩|⟨j2,rfl,e2,x2⟩
      · rw [hA]
        have y1:([Blk.cells .own 28 2 [[.nilsl,.nilsl]],Blk.cells .own 3 1 [[.int .i64 0]],Blk.cells .own 29 1 [[.int .i64 0]]]++(Blk.cells .own 28 2 [[.sl ((lend m).length+(j1+7)) (mssV b.ms).length,.nilsl]]::Blk.cells .own 3 1 [[.int .i64 (k:Int)]]::Blk.cells .own 9 1 [[.str []]]:: .dead::X))[j1+7]?=some _:=x1
        refine WA_ren (L:=lend m) (ks:=[2,3,4,5]) (vs:=[.ptr 0 0 0,.ptr 1 0 0,.ptr 2 0 0,.ptr 3 0 0]) (Ts:=[.cells .own 28 2 [[.v .nilsl,.v .nilsl]],.cells .own 3 1 [[.v (.int .i64 0)]],.cells .own 29 1 [[.v (.int .i64 0)]],.cells .own 28 2 [[.sl 4 (mssV b.ms).length,.v .nilsl]],.cells .own 75 4 ((mssV b.ms).map (List.map TV.v))]) (js:=[0,1,2,3,j1+7]) ⟨[Blk.cells .own 28 2 [[.nilsl,.nilsl]],Blk.cells .own 3 1 [[.int .i64 0]],Blk.cells .own 29 1 [[.int .i64 0]]]++(Blk.cells .own 28 2 [[.sl ((lend m).length+(j1+7)) (mssV b.ms).length,.nilsl]]::Blk.cells .own 3 1 [[.int .i64 (k:Int)]]::Blk.cells .own 9 1 [[.str []]]:: .dead::X),List.append_assoc _ _ _,?_,?_,?_⟩ (by decide) rfl (by simp [TB.ok,TV.okT,tv_ok]) ?_
        · simp only [List.map_cons,List.map_nil,TV.inst,List.getD_cons_zero,List.getD_cons_succ]
          exact tv_
        · simp only [List.map_cons,List.map_nil,TB.inst,TV.inst,tv_map,List.getD_cons_zero,List.getD_cons_succ,y1]
          rfl
        · simp
        rintro B ⟨D,hB⟩
        simp only [List.map_cons,List.map_nil,TB.inst,TV.inst,tv_map,zipT,List.cons_append,List.nil_append,Nat.add_zero]
        refine WA_fzM (j:=4) rfl ?_
        simp only [List.map_cons,List.map_nil,frzV,frzC,List.set_cons_succ,List.set_cons_zero]
        rw [if_pos ⟨by first|rfl|trivial,Nat.le_refl _⟩,List.take_of_length_le (Nat.le_refl _)]
        simp only [mssV_frz,adsV_frz]
        unfold bnV at hcb
        have hcc:=fun m=>Gives_argX (vs:=[.agg [.lst (mssV b.ms),.nilsl]]) (vs':=[.agg [.lst (mssV b.ms),.lst (adsV b.ads)]]) ⟨wk_agg ⟨WkV.refl _,wk_nl _ e2,trivial⟩,trivial⟩ (hcb m)
        (have FX:=hs;repeat'(first|(refine sx ?_ ?_<;>intro h<;>first|(exfalso;omega)|skip)|(refine g_op ?_;refine g_call ?_;refine g_args ?_;(first|refine s_fn (hcc _) ?_)<;>try first|omega|assumption)|refine ny ?_|refine WA_block ?_|(refine uX14_6_10 ?_;refine⟨by kernel_rfl,?_⟩)|((first|refine grp_cons (fun _=>hcc _) ?_)<;>try first|omega|assumption)|(refine g_d ?_;refine d_args ?_;(first|refine d_fn (hcc _) ?_|refine d_fnQ (fun _=>hcc _) ?_)<;>try first|omega|assumption)|(refine g_d ?_;(first|refine d_fnY (hcc _) ?_)<;>try first|omega|assumption)))
        · rw [if_neg (by assumption)] at hQ
          exact r_esA hQ (v':= .tup [.agg [.nilsl,.nilsl],.int .i64 0,.int .i64 (bnErr b)]) (.inl ⟨rfl,rfl,wk_tup ⟨show WkV _ (.agg [.lst [],.lst []]) from wk_agg ⟨wk_nil,wk_nil,trivial⟩,WkV.refl _,WkV.refl _,trivial⟩⟩)
        · rw [if_pos (by assumption)] at hQ
          exact r_esA hQ (v':= .tup [.agg [.lst (mssV b.ms),.nilsl],.int .i64 0,.int .i64 0]) (fin_prs hB (by first|exact frz_nl|exact frz_ls (mssV_plain _)) (by first|exact frz_nl|exact frz_ls (adsV_plain _)) ⟨rfl,show WkV _ (.tup [.agg [.lst (mssV b.ms),.lst (adsV b.ads)],.int .i64 0,.int .i64 0]) from wk_tup ⟨wk_agg ⟨WkV.refl _,wk_nl _ e2,trivial⟩,WkV.refl _,WkV.refl _,trivial⟩⟩)
      · rw [hA,hA]
        have y1:([Blk.cells .own 28 2 [[.nilsl,.nilsl]],Blk.cells .own 3 1 [[.int .i64 0]],Blk.cells .own 29 1 [[.int .i64 0]]]++(Blk.cells .own 28 2 [[.sl ((lend m).length+(j1+7)) (mssV b.ms).length,.sl ((lend m).length+(j2+7)) (adsV b.ads).length]]::Blk.cells .own 3 1 [[.int .i64 (k:Int)]]::Blk.cells .own 9 1 [[.str []]]:: .dead::X))[j1+7]?=some _:=x1
        have y2:([Blk.cells .own 28 2 [[.nilsl,.nilsl]],Blk.cells .own 3 1 [[.int .i64 0]],Blk.cells .own 29 1 [[.int .i64 0]]]++(Blk.cells .own 28 2 [[.sl ((lend m).length+(j1+7)) (mssV b.ms).length,.sl ((lend m).length+(j2+7)) (adsV b.ads).length]]::Blk.cells .own 3 1 [[.int .i64 (k:Int)]]::Blk.cells .own 9 1 [[.str []]]:: .dead::X))[j2+7]?=some _:=x2
        have hjj:j1≠j2:=by rintro rfl;rw [x1] at x2;cases x2
        refine WA_ren (L:=lend m) (ks:=[2,3,4,5]) (vs:=[.ptr 0 0 0,.ptr 1 0 0,.ptr 2 0 0,.ptr 3 0 0]) (Ts:=[.cells .own 28 2 [[.v .nilsl,.v .nilsl]],.cells .own 3 1 [[.v (.int .i64 0)]],.cells .own 29 1 [[.v (.int .i64 0)]],.cells .own 28 2 [[.sl 4 (mssV b.ms).length,.sl 5 (adsV b.ads).length]],.cells .own 75 4 ((mssV b.ms).map (List.map TV.v)),.cells .own 78 6 ((adsV b.ads).map (List.map TV.v))]) (js:=[0,1,2,3,j1+7,j2+7]) ⟨[Blk.cells .own 28 2 [[.nilsl,.nilsl]],Blk.cells .own 3 1 [[.int .i64 0]],Blk.cells .own 29 1 [[.int .i64 0]]]++(Blk.cells .own 28 2 [[.sl ((lend m).length+(j1+7)) (mssV b.ms).length,.sl ((lend m).length+(j2+7)) (adsV b.ads).length]]::Blk.cells .own 3 1 [[.int .i64 (k:Int)]]::Blk.cells .own 9 1 [[.str []]]:: .dead::X),List.append_assoc _ _ _,?_,?_,?_⟩ (by decide) rfl (by simp [TB.ok,TV.okT,tv_ok]) ?_
        · simp only [List.map_cons,List.map_nil,TV.inst,List.getD_cons_zero,List.getD_cons_succ]
          exact tv_
        · simp only [List.map_cons,List.map_nil,TB.inst,TV.inst,tv_map,List.getD_cons_zero,List.getD_cons_succ,y1,y2]
          rfl
        · (simp;omega)
        rintro B ⟨D,hB⟩
        simp only [List.map_cons,List.map_nil,TB.inst,TV.inst,tv_map,zipT,List.cons_append,List.nil_append,Nat.add_zero]
        refine WA_fzM (j:=4) rfl ?_
        simp only [List.map_cons,List.map_nil,frzV,frzC,List.set_cons_succ,List.set_cons_zero]
        rw [if_pos ⟨by first|rfl|trivial,Nat.le_refl _⟩,List.take_of_length_le (Nat.le_refl _)]
        rw [if_neg (fun h=>absurd h.1 (by omega))]
        simp only [mssV_frz,adsV_frz]
        refine WA_fzM (j:=5) rfl ?_
        simp only [List.map_cons,List.map_nil,frzV,frzC,List.set_cons_succ,List.set_cons_zero]
        rw [if_pos ⟨by first|rfl|trivial,Nat.le_refl _⟩,List.take_of_length_le (Nat.le_refl _)]
        simp only [mssV_frz,adsV_frz]
        unfold bnV at hcb
        have hcc:=fun m=>Gives_argX (vs:=[.agg [.lst (mssV b.ms),.lst (adsV b.ads)]]) (vs':=[.agg [.lst (mssV b.ms),.lst (adsV b.ads)]]) ⟨wk_agg ⟨WkV.refl _,WkV.refl _,trivial⟩,trivial⟩ (hcb m)
        (have FX:=hs;repeat'(first|(refine sx ?_ ?_<;>intro h<;>first|(exfalso;omega)|skip)|(refine g_op ?_;refine g_call ?_;refine g_args ?_;(first|refine s_fn (hcc _) ?_)<;>try first|omega|assumption)|refine ny ?_|refine WA_block ?_|(refine uX14_6_10 ?_;refine⟨by kernel_rfl,?_⟩)|((first|refine grp_cons (fun _=>hcc _) ?_)<;>try first|omega|assumption)|(refine g_d ?_;refine d_args ?_;(first|refine d_fn (hcc _) ?_|refine d_fnQ (fun _=>hcc _) ?_)<;>try first|omega|assumption)|(refine g_d ?_;(first|refine d_fnY (hcc _) ?_)<;>try first|omega|assumption)))
        · rw [if_neg (by assumption)] at hQ
          exact r_esA hQ (v':= .tup [.agg [.nilsl,.nilsl],.int .i64 0,.int .i64 (bnErr b)]) (.inl ⟨rfl,rfl,wk_tup ⟨show WkV _ (.agg [.lst [],.lst []]) from wk_agg ⟨wk_nil,wk_nil,trivial⟩,WkV.refl _,WkV.refl _,trivial⟩⟩)
        · rw [if_pos (by assumption)] at hQ
          exact r_esA hQ (v':= .tup [.agg [.lst (mssV b.ms),.lst (adsV b.ads)],.int .i64 0,.int .i64 0]) (fin_prs hB (by first|exact frz_nl|exact frz_ls (mssV_plain _)) (by first|exact frz_nl|exact frz_ls (adsV_plain _)) ⟨rfl,show WkV _ (.tup [.agg [.lst (mssV b.ms),.lst (adsV b.ads)],.int .i64 0,.int .i64 0]) from wk_tup ⟨wk_agg ⟨WkV.refl _,WkV.refl _,trivial⟩,WkV.refl _,WkV.refl _,trivial⟩⟩)
  · obtain⟨rfl,k,h1,B,c1,c2,X,rfl⟩:=hm
    rw [h1] at hQ
    dsimp only at hQ
    clear h1 hln
    (have FX:=hs;repeat'(first|(refine sx ?_ ?_<;>intro h<;>first|(exfalso;omega)|skip)|(refine g_op ?_;refine g_call ?_;refine g_args ?_;(first|refine s_fn (hcc _) ?_)<;>try first|omega|assumption)|refine ny ?_|refine WA_block ?_|(refine uX14_6_10 ?_;refine⟨by kernel_rfl,?_⟩)|((first|refine grp_cons (fun _=>hcc _) ?_)<;>try first|omega|assumption)|(refine g_d ?_;refine d_args ?_;(first|refine d_fn (hcc _) ?_|refine d_fnQ (fun _=>hcc _) ?_)<;>try first|omega|assumption)|(refine g_d ?_;(first|refine d_fnY (hcc _) ?_)<;>try first|omega|assumption)))
    exact r_esA hQ (v':= .tup [.agg [.nilsl,.nilsl],.int .i64 k,.int .i64 7]) (.inl ⟨rfl,rfl,wk_tup ⟨show WkV _ (.agg [.lst [],.lst []]) from wk_agg ⟨wk_nil,wk_nil,trivial⟩,WkV.refl _,WkV.refl _,trivial⟩⟩)
end Go.Proofs.YtookikhphobnlaaGreatDoor
