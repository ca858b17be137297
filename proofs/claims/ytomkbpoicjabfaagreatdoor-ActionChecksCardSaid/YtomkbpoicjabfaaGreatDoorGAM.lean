import Derived.Test.YtomkbpoicjabfaaGreatDoorC19
import Derived.Test.YtomkbpoicjabfaaGreatDoorGAE
import Derived.Test.YtomkbpoicjabfaaGreatDoorGAI
import Derived.Test.YtomkbpoicjabfaaGreatDoorGAF
set_option linter.unusedSimpArgs false
set_option linter.unusedVariables false
/- contracts: an action compared with itself -/
namespace Go.Proofs.YtomkbpoicjabfaaGreatDoor
open Go.RowKit
attribute [local irreducible] WA WOs WDs WAn qThen qBlock tput
set_option maxHeartbeats 1000000
set_option maxRecDepth 20000
set_option linter.unusedSimpArgs false
set_option linter.unusedVariables false
set_option maxHeartbeats 4000000
theorem uU12_27_6{N:Nat}{l:List Oper}{t:List (Nat×V)}{m:Mem}{Q:Exit→List (Nat×V)→Mem→Prop}(h:RgN Tryz.prog N l t m Q (fun i=>if i==1 || i==4 || i==6 || i==9 || i==10 then .q else .p) [.one 0,.one 1,.one 2,.one 3,.one 4,.one 5,.one 6,.one 7,.one 8,.one 9,.one 10]):WA Tryz.prog N (.region 6 l.toArray true) t m Q:=d_rgN h
theorem rsamec_c(l:List Rk)(hl:l.length≤1000)(m:Mem):Gives Tryz.prog 27 [.agg [.lst (rksV l)],.agg [.lst (rksV l)]] m (.bool true):=by
  have hla:=rksV_length (l:=l)
  have hga:=hla
  refine Gives_in Tryz.func27 rfl Tryz.ntmps27 Tryz.results27 (by kernel_rfl) (by simp) rfl fun Q hQ=>?_
  (have FX:=And.intro hla hga;repeat'(first|(refine sx ?_ ?_<;>intro h<;>first|(exfalso;omega)|skip)|refine ny ?_|refine WA_block ?_|(refine uU12_27_6 ?_;refine⟨by kernel_rfl,?_⟩)))
  all_goals(try(exfalso;first|omega|contradiction))
  refine WA_whileP (σ:=Nat) (M:=lend m) [2,3,5] (fun i=>[.ptr (lend m).length 0 0,.ptr ((lend m).length+1) 0 0,.int .i64 i]) (fun _=>[.cells .own 48 1 [[.lst (rksV l)]],.cells .own 48 1 [[.lst (rksV l)]]]) 2 (fun i=>i≤l.length) (fun i=>l.length - i) 0 (Nat.zero_le _) tv_ rfl (fun _=>rfl) (by intro s s' _ _;simp [conB,conS,V.keeps,V.plain,Blk.flat,flatL,plainL,V.flat]) (by intro s s' _ _;simp [conB,conS,V.keeps,V.plain,Blk.flat,flatL,plainL,V.flat]) ?_
  rintro i hi1 K hK
  simp only [zipT]
  clear FX hga
  rcases Nat.lt_or_ge i l.length with hi|hi
  · have hga:=rksV_get hi
    unfold rkV at hga
    generalize l.getD i rk0=x at *
    (have FX:=And.intro hla hga;repeat'(first|(refine sx ?_ ?_<;>intro h<;>first|(exfalso;omega)|skip)|refine ny ?_|refine WA_block ?_|(refine uU12_27_6 ?_;refine⟨by kernel_rfl,?_⟩)))
    all_goals(try(exfalso;first|omega|contradiction))
    all_goals(exact nextP_ hK (i+1) hi (by omega))
  · obtain rfl:i=l.length:=by omega
    clear hK
    have hga:=hla
    (have FX:=And.intro hla hga;repeat'(first|(refine sx ?_ ?_<;>intro h<;>first|(exfalso;omega)|skip)|refine ny ?_|refine WA_block ?_|(refine uU12_27_6 ?_;refine⟨by kernel_rfl,?_⟩)))
    all_goals(try(exfalso;first|omega|contradiction))
    all_goals(refine r_es hQ ?_;try with_reducible rfl)
theorem uU12_8_6{N:Nat}{l:List Oper}{t:List (Nat×V)}{m:Mem}{Q:Exit→List (Nat×V)→Mem→Prop}(h:RgN Tryz.prog N l t m Q (fun i=>if i==12 || i==13 then .f else if i==10 || i==11 then .a else if i==1 || i==4 || i==6 || i==9 then .q else .p) [.one 0,.one 1,.one 2,.one 3,.one 4,.one 5,.one 6,.one 7,.one 8,.one 9,.grp true [] [10,11],.one 12,.one 13]):WA Tryz.prog N (.region 6 l.toArray true) t m Q:=d_rgN h
theorem uU12_8_12{N:Nat}{l:List Oper}{t:List (Nat×V)}{m:Mem}{Q:Exit→List (Nat×V)→Mem→Prop}(h:RgN Tryz.prog N l t m Q (fun i=>if i==1 || i==4 || i==6 || i==9 || i==10 then .q else .p) [.one 0,.one 1,.one 2,.one 3,.one 4,.one 5,.one 6,.one 7,.one 8,.one 9,.one 10]):WA Tryz.prog N (.region 12 l.toArray true) t m Q:=d_rgN h
theorem uU12_8_17{N:Nat}{l:List Oper}{t:List (Nat×V)}{m:Mem}{Q:Exit→List (Nat×V)→Mem→Prop}(h:RgN Tryz.prog N l t m Q (fun i=>if i==1 || i==4 || i==6 || i==9 || i==10 then .q else .p) [.one 0,.one 1,.one 2,.one 3,.one 4,.one 5,.one 6,.one 7,.one 8,.one 9,.one 10]):WA Tryz.prog N (.region 17 l.toArray true) t m Q:=d_rgN h
theorem rsame_c (a:ActR) (h1:a.parts.length≤1000) (h2:a.evs.length≤1000) (h3:a.leads.length≤1000) (h4:∀ x∈a.parts,x.cor.length≤1000) (m:Mem):Gives Tryz.prog 8 [.agg (actV a),.agg (actV a)] m (.bool true):=by
  have hlp:=prtsV_length (l:=a.parts)
  have hle:=evsV_length (l:=a.evs)
  have hll:=ldsV_length (l:=a.leads)
  have hga:=hll
  have hsc:=hll
  unfold actV
  refine Gives_in Tryz.func8 rfl Tryz.ntmps8 Tryz.results8 (by kernel_rfl) (by simp) rfl fun Q hQ=>?_
  (have FX:=And.intro hlp (And.intro hle (And.intro hll hga));repeat'(first|(refine sx ?_ ?_<;>intro h<;>first|(exfalso;omega)|skip)|(refine g_op ?_;refine g_call ?_;refine g_args ?_;(first|refine s_fn (hsc _) ?_)<;>try first|omega|assumption)|refine ny ?_|refine WA_block ?_|(refine uU12_8_6 ?_;refine⟨by kernel_rfl,?_⟩)|(refine uU12_8_12 ?_;refine⟨by kernel_rfl,?_⟩)|(refine uU12_8_17 ?_;refine⟨by kernel_rfl,?_⟩)|((first|refine grp_cons (fun _=>hsc _) ?_)<;>try first|omega|assumption)|(refine g_d ?_;refine d_args ?_;(first|refine d_fn (hsc _) ?_|refine d_fnQ (fun _=>hsc _) ?_)<;>try first|omega|assumption)|(refine g_d ?_;(first|refine d_fnY (hsc _) ?_)<;>try first|omega|assumption)))
  all_goals(try(exfalso;first|omega|contradiction))
  refine WA_whileP (σ:=Nat) (M:=lend m) [2,3,5] (fun i=>[.ptr (lend m).length 0 0,.ptr ((lend m).length+1) 0 0,.int .i64 i]) (fun _=>[.cells .own 27 4 [actV a],.cells .own 27 4 [actV a]]) 2 (fun i=>i≤a.parts.length) (fun i=>a.parts.length - i) 0 (Nat.zero_le _) tv_ rfl (fun _=>rfl) (by intro s s' _ _;simp [conB,conS,V.keeps,V.plain,Blk.flat,flatL,plainL,V.flat]) (by intro s s' _ _;exact conB_refl _) ?_
  rintro i hi1 K hK
  simp only [zipT,actV]
  clear FX hga
  rcases Nat.lt_or_ge i a.parts.length with hi|hi
  · have hga:=prtsV_get hi
    have hsc:=fun m=>rsamec_c (a.parts.getD i p0).cor (h4 _ (by rw [List.getD_eq_getElem?_getD,List.getElem?_eq_getElem hi];exact List.getElem_mem _)) m
    unfold prtV at hga
    generalize a.parts.getD i p0=x at *
    (have FX:=And.intro hlp (And.intro hle (And.intro hll hga));repeat'(first|(refine sx ?_ ?_<;>intro h<;>first|(exfalso;omega)|skip)|(refine g_op ?_;refine g_call ?_;refine g_args ?_;(first|refine s_fn (hsc _) ?_)<;>try first|omega|assumption)|refine ny ?_|refine WA_block ?_|(refine uU12_8_6 ?_;refine⟨by kernel_rfl,?_⟩)|(refine uU12_8_12 ?_;refine⟨by kernel_rfl,?_⟩)|(refine uU12_8_17 ?_;refine⟨by kernel_rfl,?_⟩)|((first|refine grp_cons (fun _=>hsc _) ?_)<;>try first|omega|assumption)|(refine g_d ?_;refine d_args ?_;(first|refine d_fn (hsc _) ?_|refine d_fnQ (fun _=>hsc _) ?_)<;>try first|omega|assumption)|(refine g_d ?_;(first|refine d_fnY (hsc _) ?_)<;>try first|omega|assumption)))
    all_goals(try(exfalso;first|omega|contradiction))
    all_goals(exact nextP_ hK (i+1) hi (by omega))
  · obtain rfl:i=a.parts.length:=by omega
    clear hK
    have hga:=hll
    (have FX:=And.intro hlp (And.intro hle (And.intro hll hga));repeat'(first|(refine sx ?_ ?_<;>intro h<;>first|(exfalso;omega)|skip)|(refine g_op ?_;refine g_call ?_;refine g_args ?_;(first|refine s_fn (hsc _) ?_)<;>try first|omega|assumption)|refine ny ?_|refine WA_block ?_|(refine uU12_8_6 ?_;refine⟨by kernel_rfl,?_⟩)|(refine uU12_8_12 ?_;refine⟨by kernel_rfl,?_⟩)|(refine uU12_8_17 ?_;refine⟨by kernel_rfl,?_⟩)|((first|refine grp_cons (fun _=>hsc _) ?_)<;>try first|omega|assumption)|(refine g_d ?_;refine d_args ?_;(first|refine d_fn (hsc _) ?_|refine d_fnQ (fun _=>hsc _) ?_)<;>try first|omega|assumption)|(refine g_d ?_;(first|refine d_fnY (hsc _) ?_)<;>try first|omega|assumption)))
    all_goals(try(exfalso;first|omega|contradiction))
    refine WA_whileP (σ:=Nat) (M:=lend m) [2,3,8] (fun i=>[.ptr (lend m).length 0 0,.ptr ((lend m).length+1) 0 0,.int .i64 i]) (fun _=>[.cells .own 27 4 [actV a],.cells .own 27 4 [actV a]]) 2 (fun i=>i≤a.evs.length) (fun i=>a.evs.length - i) 0 (Nat.zero_le _) tv_ rfl (fun _=>rfl) (by intro s s' _ _;simp [conB,conS,V.keeps,V.plain,Blk.flat,flatL,plainL,V.flat]) (by intro s s' _ _;exact conB_refl _) ?_
    rintro i hi1 K hK
    simp only [zipT,actV]
    clear FX hga
    rcases Nat.lt_or_ge i a.evs.length with hi|hi
    · have hga:=evsV_get hi
      unfold evV at hga
      generalize a.evs.getD i e0=x at *
      (have FX:=And.intro hlp (And.intro hle (And.intro hll hga));repeat'(first|(refine sx ?_ ?_<;>intro h<;>first|(exfalso;omega)|skip)|(refine g_op ?_;refine g_call ?_;refine g_args ?_;(first|refine s_fn (hsc _) ?_)<;>try first|omega|assumption)|refine ny ?_|refine WA_block ?_|(refine uU12_8_6 ?_;refine⟨by kernel_rfl,?_⟩)|(refine uU12_8_12 ?_;refine⟨by kernel_rfl,?_⟩)|(refine uU12_8_17 ?_;refine⟨by kernel_rfl,?_⟩)|((first|refine grp_cons (fun _=>hsc _) ?_)<;>try first|omega|assumption)|(refine g_d ?_;refine d_args ?_;(first|refine d_fn (hsc _) ?_|refine d_fnQ (fun _=>hsc _) ?_)<;>try first|omega|assumption)|(refine g_d ?_;(first|refine d_fnY (hsc _) ?_)<;>try first|omega|assumption)))
      all_goals(try(exfalso;first|omega|contradiction))
      all_goals(exact nextP_ hK (i+1) hi (by omega))
    · obtain rfl:i=a.evs.length:=by omega
      clear hK
      have hga:=hll
      (have FX:=And.intro hlp (And.intro hle (And.intro hll hga));repeat'(first|(refine sx ?_ ?_<;>intro h<;>first|(exfalso;omega)|skip)|(refine g_op ?_;refine g_call ?_;refine g_args ?_;(first|refine s_fn (hsc _) ?_)<;>try first|omega|assumption)|refine ny ?_|refine WA_block ?_|(refine uU12_8_6 ?_;refine⟨by kernel_rfl,?_⟩)|(refine uU12_8_12 ?_;refine⟨by kernel_rfl,?_⟩)|(refine uU12_8_17 ?_;refine⟨by kernel_rfl,?_⟩)|((first|refine grp_cons (fun _=>hsc _) ?_)<;>try first|omega|assumption)|(refine g_d ?_;refine d_args ?_;(first|refine d_fn (hsc _) ?_|refine d_fnQ (fun _=>hsc _) ?_)<;>try first|omega|assumption)|(refine g_d ?_;(first|refine d_fnY (hsc _) ?_)<;>try first|omega|assumption)))
      all_goals(try(exfalso;first|omega|contradiction))
      refine WA_whileP (σ:=Nat) (M:=lend m) [2,3,9] (fun i=>[.ptr (lend m).length 0 0,.ptr ((lend m).length+1) 0 0,.int .i64 i]) (fun _=>[.cells .own 27 4 [actV a],.cells .own 27 4 [actV a]]) 2 (fun i=>i≤a.leads.length) (fun i=>a.leads.length - i) 0 (Nat.zero_le _) tv_ rfl (fun _=>rfl) (by intro s s' _ _;simp [conB,conS,V.keeps,V.plain,Blk.flat,flatL,plainL,V.flat]) (by intro s s' _ _;exact conB_refl _) ?_
      rintro i hi1 K hK
      simp only [zipT,actV]
      clear FX hga
      rcases Nat.lt_or_ge i a.leads.length with hi|hi
      · have hga:=ldsV_get hi
        unfold ldV at hga
        generalize a.leads.getD i l0=x at *
        (have FX:=And.intro hlp (And.intro hle (And.intro hll hga));repeat'(first|(refine sx ?_ ?_<;>intro h<;>first|(exfalso;omega)|skip)|(refine g_op ?_;refine g_call ?_;refine g_args ?_;(first|refine s_fn (hsc _) ?_)<;>try first|omega|assumption)|refine ny ?_|refine WA_block ?_|(refine uU12_8_6 ?_;refine⟨by kernel_rfl,?_⟩)|(refine uU12_8_12 ?_;refine⟨by kernel_rfl,?_⟩)|(refine uU12_8_17 ?_;refine⟨by kernel_rfl,?_⟩)|((first|refine grp_cons (fun _=>hsc _) ?_)<;>try first|omega|assumption)|(refine g_d ?_;refine d_args ?_;(first|refine d_fn (hsc _) ?_|refine d_fnQ (fun _=>hsc _) ?_)<;>try first|omega|assumption)|(refine g_d ?_;(first|refine d_fnY (hsc _) ?_)<;>try first|omega|assumption)))
        all_goals(try(exfalso;first|omega|contradiction))
        all_goals(exact nextP_ hK (i+1) hi (by omega))
      · obtain rfl:i=a.leads.length:=by omega
        clear hK
        have hga:=hll
        (have FX:=And.intro hlp (And.intro hle (And.intro hll hga));repeat'(first|(refine sx ?_ ?_<;>intro h<;>first|(exfalso;omega)|skip)|(refine g_op ?_;refine g_call ?_;refine g_args ?_;(first|refine s_fn (hsc _) ?_)<;>try first|omega|assumption)|refine ny ?_|refine WA_block ?_|(refine uU12_8_6 ?_;refine⟨by kernel_rfl,?_⟩)|(refine uU12_8_12 ?_;refine⟨by kernel_rfl,?_⟩)|(refine uU12_8_17 ?_;refine⟨by kernel_rfl,?_⟩)|((first|refine grp_cons (fun _=>hsc _) ?_)<;>try first|omega|assumption)|(refine g_d ?_;refine d_args ?_;(first|refine d_fn (hsc _) ?_|refine d_fnQ (fun _=>hsc _) ?_)<;>try first|omega|assumption)|(refine g_d ?_;(first|refine d_fnY (hsc _) ?_)<;>try first|omega|assumption)))
        all_goals(try(exfalso;first|omega|contradiction))
        all_goals(refine r_es hQ ?_;try with_reducible rfl)
end Go.Proofs.YtomkbpoicjabfaaGreatDoor
namespace Go.Proofs.YtomkbpoicjabfaaGreatDoor
open Go.RowKit
section
variable {P:Program} {N:Nat} {t:List (Nat×V)} {m:Mem} {c:Code} {Q:Exit→List (Nat×V)→Mem→Prop}
/-- the one element of a block is told more weakly -/
theorem WA_wkC {b ty sz:Nat} {e e':List V} (hb:m[b]?=some (.cells .own ty sz [e])) (hl:e'.length=e.length) (hw:∀ (j:Nat) v',e'[j]?=some v'→∃ v,e[j]?=some v∧WkV v v'∧(v.one=true→v'.one=true)) (h:WA P N c t (m.set b (.cells .own ty sz [e'])) Q):WA P N c t m Q:=by
  intro F hF z w ρ a hR
  obtain⟨r,cur,k1,k2,k3,k4,k5,k6,k7,k8,k9⟩:=hR.mem.cells b .own ty sz [e] hb
  have hM:RelM w ρ (m.set b (.cells .own ty sz [e'])):=hR.mem.turn hb k1 cur (Nat.le_refl _) (fun _ _ _=>rfl) k4 k5 k6 (fun x hx=>by obtain rfl:=List.mem_singleton.1 hx;rw [hl];exact k8 e (List.mem_singleton.2 rfl)) fun i j x v a1 a2=>by
    rcases i with _|i
    · cases a1
      obtain⟨v0,g1,g2,g3⟩:=hw j v a2
      obtain⟨b1,y,b2,b3⟩:=k9 0 j e v0 rfl g1
      exact⟨g3 b1,y,b2,g2 _ _ _ _ b3⟩
    · simp at a1
  have hbd:∀ (p:Blk→Bool),p (.cells .own ty sz [e'])=p (.cells .own ty sz [e])→∀ k,has p (m.set b (.cells .own ty sz [e'])) ρ k→has p m ρ k:=by
    rintro p hp k ⟨c,blk,r,h1,h2,h3,h4⟩
    rw [List.getElem?_set] at h1
    split at h1
    · rename_i e1
      subst e1
      split at h1
      · cases h1
        exact⟨b,_,r,hb,hp ▸ h2,h3,h4⟩
      · cases h1
    · exact⟨c,blk,r,h1,h2,h3,h4⟩
  have af:After w ρ m w ρ (m.set b (.cells .own ty sz [e'])):=⟨Keep.refl _ _,fun _ _ h=>h,hM,fun k _ ho=>hbd Blk.own rfl k ho,fun k _ ho=>hbd Blk.bad rfl k ho⟩
  refine wpIn_mono (h F hF z w ρ a ⟨hM,fun i=>af.rel (hR.tm i),hR.size,hR.defers.after af⟩) ?_
  rintro e a1 w1 ⟨t',m',ρ',hq,hR',af'⟩
  exact⟨t',m',ρ',hq,hR',af.trans af'⟩
/-- a slice of one's own, or nil, among the blocks X, that stand from o on -/
def slAt(o:Nat)(X:Mem)(T sz:Nat)(es:List (List V))(v:V):Prop:=(v= .nilsl∧es=[])∨∃ j,v= .sl (o+j) es.length∧es≠[]∧X[j]?=some (.cells .own T sz es)
theorem slAt_ext{o:Nat}{X Y:Mem}{T sz:Nat}{es:List (List V)}{v:V}(h:slAt o X T sz es v):slAt o (X++Y) T sz es v:=by
  rcases h with h|⟨j,h1,h2,h3⟩
  · exact .inl h
  · exact .inr ⟨j,h1,h2,by rw [List.getElem?_append_left (List.getElem?_eq_some_iff.1 h3).1];exact h3⟩
theorem slAt_set{o k:Nat}{X:Mem}{T sz T' sz':Nat}{es es':List (List V)}{v:V}(h:slAt o X T sz es v)(hk:X[k]?=some (.cells .own T' sz' es'))(hT:T≠T')(x:Blk):slAt o (X.set k x) T sz es v:=by
  rcases h with h|⟨j,h1,h2,h3⟩
  · exact .inl h
  · refine .inr ⟨j,h1,h2,?_⟩
    rw [List.getElem?_set_ne]
    · exact h3
    · rintro rfl
      rw [h3] at hk
      cases hk
      exact hT rfl
/-- lists that no freezing changes -/
def fzL(es:List (List V)):Prop:=∀ b xs,es.map (List.map (frzV b xs))=es
def fzM(Y:Mem):Prop:=∀ b xs,Y.map (frzC b xs)=Y
def fzT(t:List (Nat×V)):Prop:=∀ b xs,(t.map fun p=>(p.1,frzV b xs p.2))=t
theorem fz_step {L Y1 Y2 X:Mem} {p q:List V} {TT n T sz o:Nat} {es:List (List V)} {v:V} (ho:o=L.length+(Y1.length+(Y2.length+1))) (hv:slAt o X T sz es v) (hes:fzL es) (hY1:fzM Y1) (hY2:fzM Y2) (ht:fzT t)
    (hk:∀ (f:V→V) X',(∀ T' sz' es' u,T'≠T→fzL es'→slAt o X T' sz' es' u→slAt o X' T' sz' es' (f u))→(∀ u,(∀ b xs,frzV b xs u=u)→f u=u)→WA P N c t (L++(Y1++ .cells .own TT n [p.map f++ .lst es::q.map f]::(Y2++X'))) Q):WA P N c t (L++(Y1++ .cells .own TT n [p++v::q]::(Y2++X))) Q:=by
  rcases hv with ⟨rfl,rfl⟩|⟨j,rfl,h2,h3⟩
  · refine WA_wkC (b:=L.length+Y1.length) (e:=p++ .nilsl::q) (e':=p++ .lst []::q) (ty:=TT) (sz:=n) (by simp) (by simp) (fun j v' hj=>?_) ?_
    · rcases Nat.lt_or_ge j p.length with hl|hl
      · rw [List.getElem?_append_left hl] at hj ⊢
        exact⟨v',hj,WkV.refl _,fun h=>h⟩
      · rw [List.getElem?_append_right hl] at hj ⊢
        rcases hz:j - p.length with _|z
        · rw [hz] at hj
          cases hj
          exact⟨_,rfl,wk_nil,fun _=>rfl⟩
        · rw [hz] at hj
          exact⟨v',hj,WkV.refl _,fun h=>h⟩
    · have:=hk id X (fun _ _ _ _ _ _ h=>h) (fun _ _=>rfl)
      rw [List.map_id,List.map_id] at this
      rw [List.set_append_right _ _ (Nat.le_add_right _ _),Nat.add_sub_cancel_left,List.set_append_right _ _ (Nat.le_refl _),Nat.sub_self]
      exact this
  · have hx:(Y1++Blk.cells .own TT n [p++ .sl (o+j) es.length::q]::(Y2++X))[Y1.length+(Y2.length+1)+j]?=some (.cells .own T sz es):=by
      rw [List.getElem?_append_right (by omega),show Y1.length+(Y2.length+1)+j - Y1.length=(Y2.length+j)+1 by omega,List.getElem?_cons_succ,List.getElem?_append_right (by omega),Nat.add_sub_cancel_left]
      exact h3
    refine WA_fzM hx ?_
    have e1:L.length+(Y1.length+(Y2.length+1)+j)=o+j:=by omega
    rw [e1]
    have hs:(Y1++Blk.cells .own TT n [p++ .sl (o+j) es.length::q]::(Y2++X)).set (Y1.length+(Y2.length+1)+j) (.cells .ro T sz es)=Y1++Blk.cells .own TT n [p++ .sl (o+j) es.length::q]::(Y2++X.set j (.cells .ro T sz es)):=by
      rw [List.set_append_right _ _ (by omega),show Y1.length+(Y2.length+1)+j - Y1.length=(Y2.length+j)+1 by omega,List.set_cons_succ,List.set_append_right _ _ (by omega),Nat.add_sub_cancel_left]
    rw [hs,ht,List.map_append,List.map_cons,List.map_append,hY1,hY2]
    have hf:frzV (o+j) es (.sl (o+j) es.length)= .lst es:=by simp [frzV]
    have hc:frzC (o+j) es (.cells .own TT n [p++ .sl (o+j) es.length::q])= .cells .own TT n [p.map (frzV (o+j) es)++ .lst es::q.map (frzV (o+j) es)]:=by
      simp only [frzC,List.map_cons,List.map_nil,List.map_append,hf]
    rw [hc]
    refine hk (frzV (o+j) es) _ ?_ (fun u hu=>hu _ _)
    intro T' sz' es' u hT he hu
    rcases hu with ⟨rfl,rfl⟩|⟨j',rfl,g2,g3⟩
    · exact .inl ⟨rfl,rfl⟩
    · have hj:j'≠j:=by
        rintro rfl
        rw [h3] at g3
        cases g3
        exact hT rfl
      refine .inr ⟨j',if_neg (fun h=>absurd h.1 (by omega)),g2,?_⟩
      rw [List.getElem?_map,List.getElem?_set_ne (Ne.symm hj),g3]
      simp only [Option.map_some,frzC]
      rw [he]
end
theorem prtsV_fzL(l:List PartR):fzL (prtsV l):=fun b xs=>by simp [prtsV,prtV,frzV]
theorem evsV_fzL(l:List EvR):fzL (evsV l):=fun b xs=>by simp [evsV,evV,frzV]
theorem ldsV_fzL(l:List (Int×Int)):fzL (ldsV l):=fun b xs=>by simp [ldsV,ldV,frzV]
/-- where an action's three lists lie -/
structure acAt(o:Nat)(X:Mem)(a:ActR)(v1 v2 v3:V):Prop where
  p:slAt o X 71 5 (prtsV a.parts) v1
  e:slAt o X 74 4 (evsV a.evs) v2
  l:slAt o X 76 2 (ldsV a.leads) v3
/-- the three lists of an action of one's own become plain lists -/
theorem WA_fzAct{P:Program}{N:Nat}{t:List (Nat×V)}{c:Code}{Q:Exit→List (Nat×V)→Mem→Prop}{L Y1 Y2 X:Mem}{d:V}{tl:List V}{TT n o:Nat}{a:ActR}{v1 v2 v3:V}(h:acAt o X a v1 v2 v3)(ho:o=L.length+(Y1.length+(Y2.length+1)))(hY1:fzM Y1)(hY2:fzM Y2)(ht:fzT t)(hd:∀ b xs,frzV b xs d=d)(htl:∀ b xs,tl.map (frzV b xs)=tl)
    (hk:∀ X',WA P N c t (L++(Y1++ .cells .own TT n [d:: .lst (prtsV a.parts):: .lst (evsV a.evs):: .lst (ldsV a.leads)::tl]::(Y2++X'))) Q):WA P N c t (L++(Y1++ .cells .own TT n [d::v1::v2::v3::tl]::(Y2++X))) Q:=by
  have htm:∀ (f:V→V),(∀ u,(∀ b xs,frzV b xs u=u)→f u=u)→tl.map f=tl:=fun f hf=>by
    refine(List.map_congr_left fun u hu=>hf u fun b xs=>?_).trans (List.map_id _)
    obtain⟨i,hi,rfl⟩:=List.getElem_of_mem hu
    have e:=congrArg (fun z=>z[i]?) (htl b xs)
    simp only [List.getElem?_map,List.getElem?_eq_getElem hi,Option.map_some,Option.some.injEq] at e
    exact e
  have hls:∀ es,fzL es→∀ b xs,frzV b xs (.lst es)= .lst es:=fun es _ b xs=>rfl
  refine fz_step (p:=[d]) (q:=v2::v3::tl) ho h.p (prtsV_fzL _) hY1 hY2 ht fun f X' hf hg=>?_
  simp only [List.map_cons,List.map_nil,List.cons_append,List.nil_append,hg d hd,htm f hg]
  refine fz_step (p:=[d,.lst (prtsV a.parts)]) (q:=f v3::tl) ho (hf _ _ _ _ (by decide) (evsV_fzL _) h.e) (evsV_fzL _) hY1 hY2 ht fun f2 X2 hf2 hg2=>?_
  simp only [List.map_cons,List.map_nil,List.cons_append,List.nil_append,hg2 d hd,htm f2 hg2,hg2 _ (hls _ (prtsV_fzL _))]
  refine fz_step (p:=[d,.lst (prtsV a.parts),.lst (evsV a.evs)]) (q:=tl) ho (hf2 _ _ _ _ (by decide) (ldsV_fzL _) (hf _ _ _ _ (by decide) (ldsV_fzL _) h.l)) (ldsV_fzL _) hY1 hY2 ht fun f3 X3 hf3 hg3=>?_
  simp only [List.map_cons,List.map_nil,List.cons_append,List.nil_append,hg3 d hd,htm f3 hg3,hg3 _ (hls _ (prtsV_fzL _)),hg3 _ (hls _ (evsV_fzL _))]
  exact hk X3
end Go.Proofs.YtomkbpoicjabfaaGreatDoor
