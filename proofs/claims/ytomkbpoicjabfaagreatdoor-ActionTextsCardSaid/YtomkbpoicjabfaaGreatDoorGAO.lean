import Derived.Test.YtomkbpoicjabfaaGreatDoorC19
import Derived.Test.YtomkbpoicjabfaaGreatDoorGAA
import Derived.Test.YtomkbpoicjabfaaGreatDoorGAG
set_option linter.unusedSimpArgs false
set_option linter.unusedVariables false
/- contracts: an action compared with itself -/
namespace Go.Proofs.YtomkbpoicjabfaaGreatDoor
open Go.RowKit
attribute [local irreducible] WA WOs WDs WAn qThen qBlock tput
set_option maxHeartbeats 1000000
set_option maxRecDepth 20000
set_option linter.unusedSimpArgs false
set_option linter.unusedVariables false
set_option maxHeartbeats 4000000
theorem uU12_27_6{N:Nat}{l:List Oper}{t:List (Nat×V)}{m:Mem}{Q:Exit→List (Nat×V)→Mem→Prop}(h:RgN Tryz.prog N l t m Q (fun i=>if i==1 || i==4 || i==6 || i==9 || i==10 then .q else .p) [.one 0,.one 1,.one 2,.one 3,.one 4,.one 5,.one 6,.one 7,.one 8,.one 9,.one 10]):WA Tryz.prog N (.region 6 l.toArray true) t m Q:=d_rgN h
theorem rsamec_c(l:List Rk)(hl:l.length≤1000)(m:Mem):Gives Tryz.prog 27 [.agg [.lst (rksV l)],.agg [.lst (rksV l)]] m (.bool true):=by
  have hla:=rksV_length (l:=l)
  have hga:=hla
  refine Gives_in Tryz.func27 rfl Tryz.ntmps27 Tryz.results27 (by kernel_rfl) (by simp) rfl fun Q hQ=>?_
  (have FX:=And.intro hla hga;repeat'(first|(refine sx ?_ ?_<;>intro h<;>first|(exfalso;omega)|skip)|refine ny ?_|refine WA_block ?_|(refine uU12_27_6 ?_;refine⟨by kernel_rfl,?_⟩)))
  all_goals(try(exfalso;first|omega|contradiction))
  refine WA_whileP (σ:=Nat) (M:=lend m) [2,3,5] (fun i=>[.ptr (lend m).length 0 0,.ptr ((lend m).length+1) 0 0,.int .i64 i]) (fun _=>[.cells .own 48 1 [[.lst (rksV l)]],.cells .own 48 1 [[.lst (rksV l)]]]) 2 (fun i=>i≤l.length) (fun i=>l.length - i) 0 (Nat.zero_le _) tv_ rfl (fun _=>rfl) (by intro s s' _ _;simp [conB,conS,V.keeps,V.plain,Blk.flat,flatL,plainL,V.flat]) (by intro s s' _ _;simp [conB,conS,V.keeps,V.plain,Blk.flat,flatL,plainL,V.flat]) ?_
  rintro i hi1 K hK
  simp only [zipT]
  clear FX hga
  rcases Nat.lt_or_ge i l.length with hi|hi
  · have hga:=rksV_get hi
    unfold rkV at hga
    generalize l.getD i rk0=x at *
    (have FX:=And.intro hla hga;repeat'(first|(refine sx ?_ ?_<;>intro h<;>first|(exfalso;omega)|skip)|refine ny ?_|refine WA_block ?_|(refine uU12_27_6 ?_;refine⟨by kernel_rfl,?_⟩)))
    all_goals(try(exfalso;first|omega|contradiction))
    all_goals(exact nextP_ hK (i+1) hi (by omega))
  · obtain rfl:i=l.length:=by omega
    clear hK
    have hga:=hla
    (have FX:=And.intro hla hga;repeat'(first|(refine sx ?_ ?_<;>intro h<;>first|(exfalso;omega)|skip)|refine ny ?_|refine WA_block ?_|(refine uU12_27_6 ?_;refine⟨by kernel_rfl,?_⟩)))
    all_goals(try(exfalso;first|omega|contradiction))
    all_goals(refine r_es hQ ?_;try with_reducible rfl)
theorem uU12_8_6{N:Nat}{l:List Oper}{t:List (Nat×V)}{m:Mem}{Q:Exit→List (Nat×V)→Mem→Prop}(h:RgN Tryz.prog N l t m Q (fun i=>if i==12 || i==13 then .f else if i==10 || i==11 then .a else if i==1 || i==4 || i==6 || i==9 then .q else .p) [.one 0,.one 1,.one 2,.one 3,.one 4,.one 5,.one 6,.one 7,.one 8,.one 9,.grp true [] [10,11],.one 12,.one 13]):WA Tryz.prog N (.region 6 l.toArray true) t m Q:=d_rgN h
theorem uU12_8_12{N:Nat}{l:List Oper}{t:List (Nat×V)}{m:Mem}{Q:Exit→List (Nat×V)→Mem→Prop}(h:RgN Tryz.prog N l t m Q (fun i=>if i==1 || i==4 || i==6 || i==9 || i==10 then .q else .p) [.one 0,.one 1,.one 2,.one 3,.one 4,.one 5,.one 6,.one 7,.one 8,.one 9,.one 10]):WA Tryz.prog N (.region 12 l.toArray true) t m Q:=d_rgN h
theorem uU12_8_17{N:Nat}{l:List Oper}{t:List (Nat×V)}{m:Mem}{Q:Exit→List (Nat×V)→Mem→Prop}(h:RgN Tryz.prog N l t m Q (fun i=>if i==1 || i==4 || i==6 || i==9 || i==10 then .q else .p) [.one 0,.one 1,.one 2,.one 3,.one 4,.one 5,.one 6,.one 7,.one 8,.one 9,.one 10]):WA Tryz.prog N (.region 17 l.toArray true) t m Q:=d_rgN h
theorem rsame_c (a:ActR) (h1:a.parts.length≤1000) (h2:a.evs.length≤1000) (h3:a.leads.length≤1000) (h4:∀ x∈a.parts,x.cor.length≤1000) (m:Mem):Gives Tryz.prog 8 [.agg (actV a),.agg (actV a)] m (.bool true):=by
  have hlp:=prtsV_length (l:=a.parts)
  have hle:=evsV_length (l:=a.evs)
  have hll:=ldsV_length (l:=a.leads)
  have hga:=hll
  have hsc:=hll
  unfold actV
  refine Gives_in Tryz.func8 rfl Tryz.ntmps8 Tryz.results8 (by kernel_rfl) (by simp) rfl fun Q hQ=>?_
  (have FX:=And.intro hlp (And.intro hle (And.intro hll hga));repeat'(first|(refine sx ?_ ?_<;>intro h<;>first|(exfalso;omega)|skip)|(refine g_op ?_;refine g_call ?_;refine g_args ?_;(first|refine s_fn (hsc _) ?_)<;>try first|omega|assumption)|refine ny ?_|refine WA_block ?_|(refine uU12_8_6 ?_;refine⟨by kernel_rfl,?_⟩)|(refine uU12_8_12 ?_;refine⟨by kernel_rfl,?_⟩)|(refine uU12_8_17 ?_;refine⟨by kernel_rfl,?_⟩)|((first|refine grp_cons (fun _=>hsc _) ?_)<;>try first|omega|assumption)|(refine g_d ?_;refine d_args ?_;(first|refine d_fn (hsc _) ?_|refine d_fnQ (fun _=>hsc _) ?_)<;>try first|omega|assumption)|(refine g_d ?_;(first|refine d_fnY (hsc _) ?_)<;>try first|omega|assumption)))
  all_goals(try(exfalso;first|omega|contradiction))
  refine WA_whileP (σ:=Nat) (M:=lend m) [2,3,5] (fun i=>[.ptr (lend m).length 0 0,.ptr ((lend m).length+1) 0 0,.int .i64 i]) (fun _=>[.cells .own 27 4 [actV a],.cells .own 27 4 [actV a]]) 2 (fun i=>i≤a.parts.length) (fun i=>a.parts.length - i) 0 (Nat.zero_le _) tv_ rfl (fun _=>rfl) (by intro s s' _ _;simp [conB,conS,V.keeps,V.plain,Blk.flat,flatL,plainL,V.flat]) (by intro s s' _ _;exact conB_refl _) ?_
  rintro i hi1 K hK
  simp only [zipT,actV]
  clear FX hga
  rcases Nat.lt_or_ge i a.parts.length with hi|hi
  · have hga:=prtsV_get hi
    have hsc:=fun m=>rsamec_c (a.parts.getD i p0).cor (h4 _ (by rw [List.getD_eq_getElem?_getD,List.getElem?_eq_getElem hi];exact List.getElem_mem _)) m
    unfold prtV at hga
    generalize a.parts.getD i p0=x at *
    (have FX:=And.intro hlp (And.intro hle (And.intro hll hga));repeat'(first|(refine sx ?_ ?_<;>intro h<;>first|(exfalso;omega)|skip)|(refine g_op ?_;refine g_call ?_;refine g_args ?_;(first|refine s_fn (hsc _) ?_)<;>try first|omega|assumption)|refine ny ?_|refine WA_block ?_|(refine uU12_8_6 ?_;refine⟨by kernel_rfl,?_⟩)|(refine uU12_8_12 ?_;refine⟨by kernel_rfl,?_⟩)|(refine uU12_8_17 ?_;refine⟨by kernel_rfl,?_⟩)|((first|refine grp_cons (fun _=>hsc _) ?_)<;>try first|omega|assumption)|(refine g_d ?_;refine d_args ?_;(first|refine d_fn (hsc _) ?_|refine d_fnQ (fun _=>hsc _) ?_)<;>try first|omega|assumption)|(refine g_d ?_;(first|refine d_fnY (hsc _) ?_)<;>try first|omega|assumption)))
    all_goals(try(exfalso;first|omega|contradiction))
    all_goals(exact nextP_ hK (i+1) hi (by omega))
  · obtain rfl:i=a.parts.length:=by omega
    clear hK
    have hga:=hll
    (have FX:=And.intro hlp (And.intro hle (And.intro hll hga));repeat'(first|(refine sx ?_ ?_<;>intro h<;>first|(exfalso;omega)|skip)|(refine g_op ?_;refine g_call ?_;refine g_args ?_;(first|refine s_fn (hsc _) ?_)<;>try first|omega|assumption)|refine ny ?_|refine WA_block ?_|(refine uU12_8_6 ?_;refine⟨by kernel_rfl,?_⟩)|(refine uU12_8_12 ?_;refine⟨by kernel_rfl,?_⟩)|(refine uU12_8_17 ?_;refine⟨by kernel_rfl,?_⟩)|((first|refine grp_cons (fun _=>hsc _) ?_)<;>try first|omega|assumption)|(refine g_d ?_;refine d_args ?_;(first|refine d_fn (hsc _) ?_|refine d_fnQ (fun _=>hsc _) ?_)<;>try first|omega|assumption)|(refine g_d ?_;(first|refine d_fnY (hsc _) ?_)<;>try first|omega|assumption)))
    all_goals(try(exfalso;first|omega|contradiction))
    refine WA_whileP (σ:=Nat) (M:=lend m) [2,3,8] (fun i=>[.ptr (lend m).length 0 0,.ptr ((lend m).length+1) 0 0,.int .i64 i]) (fun _=>[.cells .own 27 4 [actV a],.cells .own 27 4 [actV a]]) 2 (fun i=>i≤a.evs.length) (fun i=>a.evs.length - i) 0 (Nat.zero_le _) tv_ rfl (fun _=>rfl) (by intro s s' _ _;simp [conB,conS,V.keeps,V.plain,Blk.flat,flatL,plainL,V.flat]) (by intro s s' _ _;exact conB_refl _) ?_
    rintro i hi1 K hK
    simp only [zipT,actV]
    clear FX hga
    rcases Nat.lt_or_ge i a.evs.length with hi|hi
    · have hga:=evsV_get hi
      unfold evV at hga
      generalize a.evs.getD i e0=x at *
      (have FX:=And.intro hlp (And.intro hle (And.intro hll hga));repeat'(first|(refine sx ?_ ?_<;>intro h<;>first|(exfalso;omega)|skip)|(refine g_op ?_;refine g_call ?_;refine g_args ?_;(first|refine s_fn (hsc _) ?_)<;>try first|omega|assumption)|refine ny ?_|refine WA_block ?_|(refine uU12_8_6 ?_;refine⟨by kernel_rfl,?_⟩)|(refine uU12_8_12 ?_;refine⟨by kernel_rfl,?_⟩)|(refine uU12_8_17 ?_;refine⟨by kernel_rfl,?_⟩)|((first|refine grp_cons (fun _=>hsc _) ?_)<;>try first|omega|assumption)|(refine g_d ?_;refine d_args ?_;(first|refine d_fn (hsc _) ?_|refine d_fnQ (fun _=>hsc _) ?_)<;>try first|omega|assumption)|(refine g_d ?_;(first|refine d_fnY (hsc _) ?_)<;>try first|omega|assumption)))
      all_goals(try(exfalso;first|omega|contradiction))
      all_goals(exact nextP_ hK (i+1) hi (by omega))
    · obtain rfl:i=a.evs.length:=by omega
      clear hK
      have hga:=hll
      (have FX:=And.intro hlp (And.intro hle (And.intro hll hga));repeat'(first|(refine sx ?_ ?_<;>intro h<;>first|(exfalso;omega)|skip)|(refine g_op ?_;refine g_call ?_;refine g_args ?_;(first|refine s_fn (hsc _) ?_)<;>try first|omega|assumption)|refine ny ?_|refine WA_block ?_|(refine uU12_8_6 ?_;refine⟨by kernel_rfl,?_⟩)|(refine uU12_8_12 ?_;refine⟨by kernel_rfl,?_⟩)|(refine uU12_8_17 ?_;refine⟨by kernel_rfl,?_⟩)|((first|refine grp_cons (fun _=>hsc _) ?_)<;>try first|omega|assumption)|(refine g_d ?_;refine d_args ?_;(first|refine d_fn (hsc _) ?_|refine d_fnQ (fun _=>hsc _) ?_)<;>try first|omega|assumption)|(refine g_d ?_;(first|refine d_fnY (hsc _) ?_)<;>try first|omega|assumption)))
      all_goals(try(exfalso;first|omega|contradiction))
      refine WA_whileP (σ:=Nat) (M:=lend m) [2,3,9] (fun i=>[.ptr (lend m).length 0 0,.ptr ((lend m).length+1) 0 0,.int .i64 i]) (fun _=>[.cells .own 27 4 [actV a],.cells .own 27 4 [actV a]]) 2 (fun i=>i≤a.leads.length) (fun i=>a.leads.length - i) 0 (Nat.zero_le _) tv_ rfl (fun _=>rfl) (by intro s s' _ _;simp [conB,conS,V.keeps,V.plain,Blk.flat,flatL,plainL,V.flat]) (by intro s s' _ _;exact conB_refl _) ?_
      rintro i hi1 K hK
      simp only [zipT,actV]
      clear FX hga
      rcases Nat.lt_or_ge i a.leads.length with hi|hi
      · have hga:=ldsV_get hi
        unfold ldV at hga
        generalize a.leads.getD i l0=x at *
        (have FX:=And.intro hlp (And.intro hle (And.intro hll hga));repeat'(first|(refine sx ?_ ?_<;>intro h<;>first|(exfalso;omega)|skip)|(refine g_op ?_;refine g_call ?_;refine g_args ?_;(first|refine s_fn (hsc _) ?_)<;>try first|omega|assumption)|refine ny ?_|refine WA_block ?_|(refine uU12_8_6 ?_;refine⟨by kernel_rfl,?_⟩)|(refine uU12_8_12 ?_;refine⟨by kernel_rfl,?_⟩)|(refine uU12_8_17 ?_;refine⟨by kernel_rfl,?_⟩)|((first|refine grp_cons (fun _=>hsc _) ?_)<;>try first|omega|assumption)|(refine g_d ?_;refine d_args ?_;(first|refine d_fn (hsc _) ?_|refine d_fnQ (fun _=>hsc _) ?_)<;>try first|omega|assumption)|(refine g_d ?_;(first|refine d_fnY (hsc _) ?_)<;>try first|omega|assumption)))
        all_goals(try(exfalso;first|omega|contradiction))
        all_goals(exact nextP_ hK (i+1) hi (by omega))
      · obtain rfl:i=a.leads.length:=by omega
        clear hK
        have hga:=hll
        (have FX:=And.intro hlp (And.intro hle (And.intro hll hga));repeat'(first|(refine sx ?_ ?_<;>intro h<;>first|(exfalso;omega)|skip)|(refine g_op ?_;refine g_call ?_;refine g_args ?_;(first|refine s_fn (hsc _) ?_)<;>try first|omega|assumption)|refine ny ?_|refine WA_block ?_|(refine uU12_8_6 ?_;refine⟨by kernel_rfl,?_⟩)|(refine uU12_8_12 ?_;refine⟨by kernel_rfl,?_⟩)|(refine uU12_8_17 ?_;refine⟨by kernel_rfl,?_⟩)|((first|refine grp_cons (fun _=>hsc _) ?_)<;>try first|omega|assumption)|(refine g_d ?_;refine d_args ?_;(first|refine d_fn (hsc _) ?_|refine d_fnQ (fun _=>hsc _) ?_)<;>try first|omega|assumption)|(refine g_d ?_;(first|refine d_fnY (hsc _) ?_)<;>try first|omega|assumption)))
        all_goals(try(exfalso;first|omega|contradiction))
        all_goals(refine r_es hQ ?_;try with_reducible rfl)
end Go.Proofs.YtomkbpoicjabfaaGreatDoor
namespace Go.Proofs.YtomkbpoicjabfaaGreatDoor
open Go.RowKit
attribute [local irreducible] WA WOs WDs WAn qThen qBlock tput
set_option maxHeartbeats 1000000
set_option maxRecDepth 20000
set_option linter.unusedSimpArgs false
set_option linter.unusedVariables false
attribute [local irreducible] smB cut sm
/-- the list behind k exchanges -/
def swp(l:List Pt)(k:Nat):List Pt:=(List.range l.length).map fun p=>if p<k∨l.length - k≤p then at' l (l.length - 1 - p) else at' l p
theorem swp_len(l:List Pt)(k:Nat):(swp l k).length=l.length:=by simp [swp]
theorem swp_at{l:List Pt}{k p:Nat}(h:p<l.length):(swp l k)[p]?=some (if p<k∨l.length - k≤p then at' l (l.length - 1 - p) else at' l p):=by
  unfold swp;rw [List.getElem?_map,List.getElem?_range h];rfl
theorem swp_zero(l:List Pt):swp l 0=l:=by
  apply List.ext_getElem?
  intro p
  rcases Nat.lt_or_ge p l.length with h|h
  · rw [swp_at h,if_neg (by omega),at_get h]
  · rw [List.getElem?_eq_none (by rw [swp_len];exact h),List.getElem?_eq_none h]
theorem swp_end{l:List Pt}{k:Nat}(h:l.length≤2 * k+1):swp l k=l.reverse:=by
  apply List.ext_getElem?
  intro p
  rcases Nat.lt_or_ge p l.length with hp|hp
  · rw [swp_at hp,List.getElem?_reverse hp,at_get (by omega:l.length - 1 - p<l.length)]
    split
    · rfl
    · have:l.length - 1 - p=p:=by omega
      rw [this]
  · rw [List.getElem?_eq_none (by rw [swp_len];exact hp),List.getElem?_eq_none (by simpa using hp)]
theorem swp_succ {l:List Pt} {k:Nat} (h:2 * k+1<l.length):swp l (k+1)=((swp l k).set k (at' l (l.length - 1 - k))).set (l.length - 1 - k) (at' l k):=by
  apply List.ext_getElem?
  intro p
  rcases Nat.lt_or_ge p l.length with hp|hp
  · rw [swp_at hp,List.getElem?_set,List.length_set,swp_len,List.getElem?_set,swp_len,swp_at hp]
    by_cases h1:l.length - 1 - k=p
    · rw [if_pos h1,if_pos (by omega),if_pos (by omega)]
      congr 2;omega
    · rw [if_neg h1]
      by_cases h2:k=p
      · rw [if_pos h2,if_pos (by omega),if_pos (by omega),h2]
      · rw [if_neg h2]
        by_cases h3:p<k∨l.length - k≤p
        · rw [if_pos h3,if_pos (by omega)]
        · rw [if_neg h3,if_neg (by omega)]
  · rw [List.getElem?_eq_none (by rw [swp_len];exact hp),List.getElem?_eq_none (by simp [swp_len];exact hp)]
theorem ptsV_set{c:List Pt}{i:Nat}{p:Pt}:(ptsV c).set i (ptV p)=ptsV (c.set i p):=by simp [ptsV,List.map_set]
theorem uC11_170_3{N:Nat}{l:List Oper}{t:List (Nat×V)}{m:Mem}{Q:Exit→List (Nat×V)→Mem→Prop}(h:RgN Tryz.prog N l t m Q (fun i=>if i==13 || i==15 then .w else if i==7 || i==11 then .q else .p) [.one 0,.one 1,.one 2,.one 3,.one 4,.one 5,.one 6,.one 7,.one 8,.one 9,.one 10,.one 11,.one 12,.one 13,.one 14,.one 15]):WA Tryz.prog N (.region 3 l.toArray true) t m Q:=d_rgN h
theorem reverse_w(b:Nat)(l:List Pt)(h0:1≤l.length)(hl:l.length≤1000000):CallW Tryz.prog 170 [.sl b l.length] b (.cells .own 80 4 (ptsV l)) (.cells .own 80 4 (ptsV l.reverse)) (.tup []):=by
  have hlen:∀ k,(ptsV (swp l k)).length=l.length:=fun k=>by rw [ptsV_length,swp_len]
  have hga:=hlen
  have hgb:=hlen
  have hti:=hlen
  have htj:=hlen
  have htk:=hlen
  have hs0:=swp_zero l
  suffices key:CallW Tryz.prog 170 [.sl b l.length] b (.cells .own 80 4 (ptsV (swp l 0))) (.cells .own 80 4 (ptsV l.reverse)) (.tup []) by rw [hs0] at key;exact key
  refine CallW_in (tvs:=[.sl 0 l.length]) (v:= .tup []) (es':=ptsV l.reverse) Tryz.func170 rfl Tryz.ntmps170 Tryz.results170 (by kernel_rfl) (by simp) (ptsV_flat _) rfl fun m Q hQ=>?_
  simp only [List.map_cons,List.map_nil,TV.inst]
  (have FX:=And.intro hlen (And.intro hga (And.intro hgb (And.intro hti (And.intro htj htk))));repeat'(first|(refine sx ?_ ?_<;>intro h<;>first|(exfalso;omega)|skip)|refine ny ?_|refine WA_block ?_|(refine uC11_170_3 ?_;refine⟨by kernel_rfl,?_⟩)))
  refine WA_whileK (σ:=Nat) [0,2,3] (fun k=>[.sl (lend m).length l.length,.int .i64 k,.int .i64 ((l.length:Int) - 1 - k)]) (fun k=>[.cells .own 80 4 (ptsV (swp l k))]) 1 (fun k=>2 * k≤l.length) (fun k=>l.length - k) 0 (by omega) ?_ rfl (fun _=>rfl) (by intro s s' _ _;simp [conS,V.keeps,V.plain]) (by intro s s' _ _;exact⟨.inl (List.all_eq_true.2 (plainLL_mem (ptsV_plain _))),trivial⟩) ?_
  · show _=[_,_,V.int .i64 ((l.length:Int) - 1 - ((0:Nat):Int))]
    have e0:(l.length:Int) - 1 - ((0:Nat):Int)=(l.length:Int) - 1:=by omega
    rw [e0];exact tv_
  rintro k hk1 K hK
  simp only [zipT]
  clear FX
  rcases Nat.lt_or_ge (2 * k+1) l.length with hlt|hge
  · have hti:((l.length:Int) - 1 - (k:Int)).toNat=l.length - 1 - k:=by omega
    have hga:(ptsV (swp l k))[k]?=some (ptV (at' l k)):=by
      unfold ptsV;rw [List.getElem?_map,swp_at (by omega),if_neg (by omega)];rfl
    have hgb:(ptsV (swp l k))[l.length - 1 - k]?=some (ptV (at' l (l.length - 1 - k))):=by
      unfold ptsV;rw [List.getElem?_map,swp_at (by omega),if_neg (by omega)];rfl
    have hsx:=swp_succ (l:=l) (k:=k) hlt
    have hset1:(ptsV (swp l k)).set k (ptV (at' l (l.length - 1 - k)))=ptsV ((swp l k).set k (at' l (l.length - 1 - k))):=ptsV_set
    have hset2:(ptsV ((swp l k).set k (at' l (l.length - 1 - k)))).set (l.length - 1 - k) (ptV (at' l k))=ptsV (swp l (k+1)):=by rw [ptsV_set,hsx]
    have hgc:(ptsV ((swp l k).set k (at' l (l.length - 1 - k))))[l.length - 1 - k]?=some (ptV (at' l (l.length - 1 - k))):=by
      unfold ptsV;rw [List.getElem?_map,List.getElem?_set,if_neg (by omega),swp_at (by omega),if_neg (by omega)];rfl
    obtain⟨p1,hp1⟩:∃ p,at' l k=p:=⟨_,rfl⟩
    obtain⟨p2,hp2⟩:∃ p,at' l (l.length - 1 - k)=p:=⟨_,rfl⟩
    rw [hp1] at hga hset2
    rw [hp2] at hgb hset1 hset2 hgc
    unfold ptV at hga hgb hset1 hset2 hgc
    have htj:=And.intro hset1 (And.intro hset2 hgc)
    have htk:(l.length:Int) - 1 - (k:Int) - 1=(l.length:Int) - 1 - ((k+1:Nat):Int):=by omega
    (have FX:=And.intro hlen (And.intro hga (And.intro hgb (And.intro hti (And.intro htj htk))));repeat'(first|(refine sx ?_ ?_<;>intro h<;>first|(exfalso;omega)|skip)|refine ny ?_|refine WA_block ?_|(refine uC11_170_3 ?_;refine⟨by kernel_rfl,?_⟩)))
    all_goals(try(exfalso;omega))
    all_goals(refine nextL_ hK (k+1) (by omega) (by omega) (ht:=?_);(show _=[_,_,V.int .i64 ((l.length:Int) - 1 - ((k+1:Nat):Int))]);rw [←htk];exact tv_)
  · have hga:=hlen
    have hgb:=hlen
    have hti:=hlen
    have htj:=hlen
    have htk:=hlen
    rw [←swp_end (l:=l) (k:=k) (by omega)] at hQ
    (have FX:=And.intro hlen (And.intro hga (And.intro hgb (And.intro hti (And.intro htj htk))));repeat'(first|(refine sx ?_ ?_<;>intro h<;>first|(exfalso;omega)|skip)|refine ny ?_|refine WA_block ?_|(refine uC11_170_3 ?_;refine⟨by kernel_rfl,?_⟩)))
    all_goals(try(exfalso;omega))
    all_goals(refine r_esW hQ ?_ ?_<;>try with_reducible rfl)
theorem reverse_nil(m:Mem):Gives Tryz.prog 170 [.nilsl] m (.tup []):=by
  refine Gives_in Tryz.func170 rfl Tryz.ntmps170 Tryz.results170 (by kernel_rfl) (by simp) rfl fun Q hQ=>?_
  (repeat'(first|(refine sx ?_ ?_<;>intro h<;>first|(exfalso;omega)|skip)|refine ny ?_|refine WA_block ?_|(refine uC11_170_3 ?_;refine⟨by kernel_rfl,?_⟩)))
  refine WA_rounds 1 ?_
  (repeat'(first|(refine sx ?_ ?_<;>intro h<;>first|(exfalso;omega)|skip)|refine ny ?_|refine WA_block ?_|(refine uC11_170_3 ?_;refine⟨by kernel_rfl,?_⟩)))
  all_goals(try(exfalso;omega))
  all_goals(refine r_es hQ ?_;try with_reducible rfl)
end Go.Proofs.YtomkbpoicjabfaaGreatDoor
