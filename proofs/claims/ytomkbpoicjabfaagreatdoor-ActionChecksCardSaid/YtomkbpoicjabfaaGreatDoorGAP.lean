import Derived.Test.YtomkbpoicjabfaaGreatDoorGAO
set_option linter.unusedSimpArgs false
set_option linter.unusedVariables false
/- contracts: the sort of events -/
namespace Go.Proofs.YtomkbpoicjabfaaGreatDoor
open Go.RowKit
attribute [local irreducible] WA WOs WDs WAn qThen qBlock tput
set_option maxHeartbeats 1000000
set_option maxRecDepth 20000
set_option linter.unusedSimpArgs false
set_option linter.unusedVariables false
theorem hpsB_flat(l:List Hp):(Blk.cells .own 106 3 (hpsV l)).flat=true:=by simp [Blk.flat,plainL,V.plain,hpsV,hpV]
attribute [local irreducible] smB cut sm
theorem uC28_129_4{N:Nat}{l:List Oper}{t:List (Nat×V)}{m:Mem}{Q:Exit→List (Nat×V)→Mem→Prop}(h:RgN Tryz.prog N l t m Q (fun i=>if i==8 || i==13 || i==14 then .q else .p) [.one 0,.one 1,.one 2,.one 3,.one 4,.one 5,.one 6,.one 7,.one 8,.one 9,.one 10,.one 11,.one 12,.one 13,.one 14,.one 15,.one 16]):WA Tryz.prog N (.region 4 l.toArray true) t m Q:=d_rgN h
theorem uC28_129_6{N:Nat}{l:List Oper}{t:List (Nat×V)}{m:Mem}{Q:Exit→List (Nat×V)→Mem→Prop}(h:RgN Tryz.prog N l t m Q (fun i=>if i==15 || i==17 then .w else if i==9 || i==13 then .q else .p) [.one 0,.one 1,.one 2,.one 3,.one 4,.one 5,.one 6,.one 7,.one 8,.one 9,.one 10,.one 11,.one 12,.one 13,.one 14,.one 15,.one 16,.one 17]):WA Tryz.prog N (.region 6 l.toArray true) t m Q:=d_rgN h
theorem inssort_w (b:Nat) (l:List Hp) (hn:NumL l) (hs:∀ p∈l,sm p.2) (h0:1≤l.length) (hl:l.length≤1000):CallW Tryz.prog 129 [.sl b l.length,.int .i64 0,.int .i64 l.length,.clo (.func 91) [] []] b (.cells .own 106 3 (hpsV l)) (.cells .own 106 3 (hpsV (srtH l))) (.tup []):=by
  have hlen:∀ k,(hpsV (insS l k)).length=l.length:=fun k=>by rw [hpsV_length,insS_len]
  have hga:=hlen
  have hgb:=hlen
  have hti:=hlen
  have htj:=hlen
  have htk:=hlen
  have hcl:=fun m=>ahapp1_c hp0 hp0 sm_zero sm_zero m
  have hs0:=insS_one l
  suffices key:CallW Tryz.prog 129 [.sl b l.length,.int .i64 0,.int .i64 l.length,.clo (.func 91) [] []] b (.cells .own 106 3 (hpsV (insS l 1))) (.cells .own 106 3 (hpsV (srtH l))) (.tup []) by rw [hs0] at key;exact key
  refine CallW_in (tvs:=[.sl 0 l.length,.v (.int .i64 0),.v (.int .i64 l.length),.v (.clo (.func 91) [] [])]) (v:= .tup []) (es':=hpsV (srtH l)) Tryz.func129 rfl Tryz.ntmps129 Tryz.results129 (by kernel_rfl) (by simp) (hpsV_flat _) rfl fun m Q hQ=>?_
  simp only [List.map_cons,List.map_nil,TV.inst]
  (have FX:=And.intro hlen (And.intro hga (And.intro hgb (And.intro hti (And.intro htj htk))));repeat'(first|(refine sx ?_ ?_<;>intro h<;>first|(exfalso;omega)|skip)|(refine g_op ?_;refine g_call ?_;refine g_args ?_;(first|refine s_fn (hcl _) ?_)<;>try first|omega|assumption)|(refine g_op ?_;refine g_dyn ?_;refine g_dargs ?_;first|(refine s_fn (hcl _) ?_<;>try first|omega|assumption))|refine ny ?_|refine WA_block ?_|(refine uC28_129_4 ?_;refine⟨by kernel_rfl,?_⟩)|(refine uC28_129_6 ?_;refine⟨by kernel_rfl,?_⟩)|((first|refine grp_cons (fun _=>hcl _) ?_)<;>try first|omega|assumption)|(refine g_d ?_;refine d_args ?_;(first|refine d_fn (hcl _) ?_|refine d_fnQ (fun _=>hcl _) ?_)<;>try first|omega|assumption)|(refine g_d ?_;(first|refine d_fnY (hcl _) ?_)<;>try first|omega|assumption)|(refine g_d ?_;first|(refine d_dyn (hcl _) ?_<;>try first|omega|assumption)|(refine d_dynY (hcl _) ?_<;>try first|omega|assumption))))
  refine WA_whileK (σ:=Nat) [0,1,2,3,8] (fun k=>[.sl (lend m).length l.length,.int .i64 0,.int .i64 l.length,.clo (.func 91) [] [],.int .i64 ((k:Int)+1)]) (fun k=>[.cells .own 106 3 (hpsV (insS l (k+1)))]) 1 (fun k=>k+1≤l.length) (fun k=>l.length - k) 0 (by omega) ?_ rfl (fun _=>rfl) (by intro s s' _ _;simp [conS,V.keeps,V.plain,V.flat,flatL]) (by intro s s' _ _;exact⟨.inl (hpsB_flat _),trivial⟩) ?_
  · show _=[_,_,_,_,V.int .i64 (((0:Nat):Int)+1)]
    exact tv_
  rintro i hi1 K hK
  simp only [zipT]
  clear FX hcl
  rcases Nat.lt_or_ge (i+1) l.length with hi|hi
  · have hmv :=insS_mv (l:=l) (i:=i+1) hi
    have hsl:(srtH (l.take (i+1))).length=i+1:=by rw [srtH_len,List.length_take];omega
    have hsr:=srtH_srt (l.take (i+1))
    have hnx:=fun j hj=>insS_next (l:=l) (i:=i+1) (j:=j) hi hj
    have hnum:=fun j hj=>ins_num (j:=j) hn hi hj
    have hsmS:∀ j,j<i+1→sm ((srtH (l.take (i+1))).getD j hp0).2:=by
      intro j hj
      refine hs _ ?_
      have hm:(srtH (l.take (i+1))).getD j hp0∈srtH (l.take (i+1)):=by
        rw [List.getD_eq_getElem?_getD,List.getElem?_eq_getElem (by omega)]
        exact List.getElem_mem _
      rw [srtH_mem] at hm
      exact List.mem_of_mem_take hm
    have hsmD:sm (l.getD (i+1) hp0).2:=by
      refine hs _ ?_
      rw [List.getD_eq_getElem?_getD,List.getElem?_eq_getElem hi]
      exact List.getElem_mem _
    generalize srtH (l.take (i+1))=s at *
    obtain⟨⟨dn,dq⟩,hd⟩:∃ p,l.getD (i+1) hp0=p:=⟨_,rfl⟩
    rw [hd] at hmv hnx hnum hsmD
    generalize l.drop (i+1+1)=r at *
    rw [hmv]
    have hcl:=fun m=>ahapp1_c hp0 hp0 sm_zero sm_zero m
    have hga:=hlen
    have hgb:=hlen
    have hti:=hlen
    have htj:=hlen
    have htk:=hlen
    (have FX:=And.intro hlen (And.intro hga (And.intro hgb (And.intro hti (And.intro htj htk))));repeat'(first|(refine sx ?_ ?_<;>intro h<;>first|(exfalso;omega)|skip)|(refine g_op ?_;refine g_call ?_;refine g_args ?_;(first|refine s_fn (hcl _) ?_)<;>try first|omega|assumption)|(refine g_op ?_;refine g_dyn ?_;refine g_dargs ?_;first|(refine s_fn (hcl _) ?_<;>try first|omega|assumption))|refine ny ?_|refine WA_block ?_|(refine uC28_129_4 ?_;refine⟨by kernel_rfl,?_⟩)|(refine uC28_129_6 ?_;refine⟨by kernel_rfl,?_⟩)|((first|refine grp_cons (fun _=>hcl _) ?_)<;>try first|omega|assumption)|(refine g_d ?_;refine d_args ?_;(first|refine d_fn (hcl _) ?_|refine d_fnQ (fun _=>hcl _) ?_)<;>try first|omega|assumption)|(refine g_d ?_;(first|refine d_fnY (hcl _) ?_)<;>try first|omega|assumption)|(refine g_d ?_;first|(refine d_dyn (hcl _) ?_<;>try first|omega|assumption)|(refine d_dynY (hcl _) ?_<;>try first|omega|assumption))))
    all_goals(try(exfalso;omega))
    clear FX hcl hga hgb hti htj htk
    refine WA_whileK (σ:=Nat) [0,1,2,3,8,9] (fun j=>[.sl (lend m).length l.length,.int .i64 0,.int .i64 l.length,.clo (.func 91) [] [],.int .i64 ((i:Int)+1),.int .i64 j]) (fun j=>[.cells .own 106 3 (hpsV (mvH s (dn,dq) r j))]) 1 (fun j=>j≤i+1∧∀ k,j≤k→k<i+1→dq<(s.getD k hp0).2) (fun j=>j) (i+1) ⟨Nat.le_refl _,fun k h1 h2=>by omega⟩ ?_ rfl (fun _=>rfl) (by intro s s' _ _;simp [conS,V.keeps,V.plain,V.flat,flatL]) (by intro s s' _ _;exact⟨.inl (hpsB_flat _),trivial⟩) ?_
    · show _=[_,_,_,_,_,V.int .i64 (((i+1:Nat):Int))]
      rw [Int.natCast_add];exact tv_
    rintro j ⟨hj1,hj2⟩ K2 hK2
    simp only [zipT]
    cases j with
    | zero=>
      have hins:=insHN_uniq hsr (x:=dq) (n:=0) (Nat.zero_le _) (fun h=>absurd h (Nat.lt_irrefl _)) (fun h=>hj2 0 (Nat.le_refl _) (by omega))
      have hnx:=hnx 0 hins
      have hcl:=fun m=>ahapp1_c hp0 hp0 sm_zero sm_zero m
      have hga:=hlen
      have hgb:=hlen
      have hti:=hlen
      have htj:=hlen
      have htk:=hlen
      rw [hnx]
      (have FX:=And.intro hlen (And.intro hga (And.intro hgb (And.intro hti (And.intro htj htk))));repeat'(first|(refine sx ?_ ?_<;>intro h<;>first|(exfalso;omega)|skip)|(refine g_op ?_;refine g_call ?_;refine g_args ?_;(first|refine s_fn (hcl _) ?_)<;>try first|omega|assumption)|(refine g_op ?_;refine g_dyn ?_;refine g_dargs ?_;first|(refine s_fn (hcl _) ?_<;>try first|omega|assumption))|refine ny ?_|refine WA_block ?_|(refine uC28_129_4 ?_;refine⟨by kernel_rfl,?_⟩)|(refine uC28_129_6 ?_;refine⟨by kernel_rfl,?_⟩)|((first|refine grp_cons (fun _=>hcl _) ?_)<;>try first|omega|assumption)|(refine g_d ?_;refine d_args ?_;(first|refine d_fn (hcl _) ?_|refine d_fnQ (fun _=>hcl _) ?_)<;>try first|omega|assumption)|(refine g_d ?_;(first|refine d_fnY (hcl _) ?_)<;>try first|omega|assumption)|(refine g_d ?_;first|(refine d_dyn (hcl _) ?_<;>try first|omega|assumption)|(refine d_dynY (hcl _) ?_<;>try first|omega|assumption))))
      all_goals(try(exfalso;omega))
      all_goals(refine nextL_ hK (i+1) (by omega) (by omega) (ht:=?_))
      all_goals(show _=[_,_,_,_,V.int .i64 (((i+1:Nat):Int)+1)];rw [Int.natCast_add];exact tv_)
    | succ j =>
      have hjs:j<s.length:=by omega
      have hga0:=mvH_at (s:=s) (r:=r) (d:=(dn,dq)) (j:=j+1) (by omega)
      have hgb0:=mvH_bef (s:=s) (r:=r) (d:=(dn,dq)) (j:=j+1) (by omega) (by omega)
      have hst:=mvH_step (s:=s) (r:=r) (d:=(dn,dq)) (j:=j+1) (by omega) (by omega)
      have hps:=hsmS j (by omega)
      have hpn:=hnum j (by omega)
      rw [Nat.add_sub_cancel] at hgb0 hst
      obtain⟨⟨pn,pq⟩,hp⟩:∃ p,s.getD j hp0=p:=⟨_,rfl⟩
      rw [hp] at hgb0 hst hps hpn
      have hga1:(hpsV (mvH s (dn,dq) r (j+1)))[j+1]?=some (hpV (dn,dq)):=by unfold hpsV;rw [List.getElem?_map,hga0];rfl
      have hgb1:(hpsV (mvH s (dn,dq) r (j+1)))[j]?=some (hpV (pn,pq)):=by unfold hpsV;rw [List.getElem?_map,hgb0];rfl
      have hset1:(hpsV (mvH s (dn,dq) r (j+1))).set (j+1) (hpV (pn,pq))=hpsV ((mvH s (dn,dq) r (j+1)).set (j+1) (pn,pq)):=hpsV_set
      have hset2:(hpsV ((mvH s (dn,dq) r (j+1)).set (j+1) (pn,pq))).set j (hpV (dn,dq))=hpsV (mvH s (dn,dq) r j):=by rw [hpsV_set,hst]
      have hgc:(hpsV ((mvH s (dn,dq) r (j+1)).set (j+1) (pn,pq)))[j]?=some (hpV (pn,pq)):=by
        unfold hpsV;rw [List.getElem?_map,List.getElem?_set,if_neg (by omega),hgb0];rfl
      have hcl:=fun m=>ahapp1_c (dn,dq) (pn,pq) hsmD hps m
      have hcn:=cmpH_neg (x:=(dn,dq)) (y:=(pn,pq)) hpn
      dsimp only at hcn
      generalize cmpH (dn,dq) (pn,pq)=cv at hcl hcn
      unfold hpV at hga1 hgb1 hset1 hset2 hgc hcl
      dsimp only at hga1 hgb1 hset1 hset2 hgc hcl
      have hga:=hga1
      have hgb:=hgb1
      have hti:((j+1:Nat):Int).toNat=j+1:=by omega
      have htj:=And.intro hset1 (And.intro hset2 hgc)
      have htk:((j+1:Nat):Int) - 1=(j:Int):=by omega
      by_cases hlt:dq<pq
      · have hc0:=hcn.2 hlt
        (have FX:=And.intro hlen (And.intro hga (And.intro hgb (And.intro hti (And.intro htj htk))));repeat'(first|(refine sx ?_ ?_<;>intro h<;>first|(exfalso;omega)|skip)|(refine g_op ?_;refine g_call ?_;refine g_args ?_;(first|refine s_fn (hcl _) ?_)<;>try first|omega|assumption)|(refine g_op ?_;refine g_dyn ?_;refine g_dargs ?_;first|(refine s_fn (hcl _) ?_<;>try first|omega|assumption))|refine ny ?_|refine WA_block ?_|(refine uC28_129_4 ?_;refine⟨by kernel_rfl,?_⟩)|(refine uC28_129_6 ?_;refine⟨by kernel_rfl,?_⟩)|((first|refine grp_cons (fun _=>hcl _) ?_)<;>try first|omega|assumption)|(refine g_d ?_;refine d_args ?_;(first|refine d_fn (hcl _) ?_|refine d_fnQ (fun _=>hcl _) ?_)<;>try first|omega|assumption)|(refine g_d ?_;(first|refine d_fnY (hcl _) ?_)<;>try first|omega|assumption)|(refine g_d ?_;first|(refine d_dyn (hcl _) ?_<;>try first|omega|assumption)|(refine d_dynY (hcl _) ?_<;>try first|omega|assumption))))
        all_goals(try(exfalso;omega))
        all_goals(refine nextL_ hK2 j ⟨by omega,fun k h1 h2=>?_⟩ (by omega))
        all_goals(rcases Nat.lt_or_ge j k with h3|h3)
        all_goals first
          |exact hj2 k (by omega) h2
          | (obtain rfl:k=j:=by omega
             rw [hp];exact hlt)
      · have hc0:¬ cv<0:=fun h=>hlt (hcn.1 h)
        have hins:=insHN_uniq hsr (x:=dq) (n:=j+1) (by omega) (fun _=>by rw [Nat.add_sub_cancel,hp];exact Rat.not_lt.1 hlt) (fun h=>hj2 (j+1) (Nat.le_refl _) (by omega))
        have hnx:=hnx (j+1) hins
        (have FX:=And.intro hlen (And.intro hga (And.intro hgb (And.intro hti (And.intro htj htk))));repeat'(first|(refine sx ?_ ?_<;>intro h<;>first|(exfalso;omega)|skip)|(refine g_op ?_;refine g_call ?_;refine g_args ?_;(first|refine s_fn (hcl _) ?_)<;>try first|omega|assumption)|(refine g_op ?_;refine g_dyn ?_;refine g_dargs ?_;first|(refine s_fn (hcl _) ?_<;>try first|omega|assumption))|refine ny ?_|refine WA_block ?_|(refine uC28_129_4 ?_;refine⟨by kernel_rfl,?_⟩)|(refine uC28_129_6 ?_;refine⟨by kernel_rfl,?_⟩)|((first|refine grp_cons (fun _=>hcl _) ?_)<;>try first|omega|assumption)|(refine g_d ?_;refine d_args ?_;(first|refine d_fn (hcl _) ?_|refine d_fnQ (fun _=>hcl _) ?_)<;>try first|omega|assumption)|(refine g_d ?_;(first|refine d_fnY (hcl _) ?_)<;>try first|omega|assumption)|(refine g_d ?_;first|(refine d_dyn (hcl _) ?_<;>try first|omega|assumption)|(refine d_dynY (hcl _) ?_<;>try first|omega|assumption))))
        all_goals(try(exfalso;omega))
        all_goals(rw [hnx])
        all_goals(refine nextL_ hK (i+1) (by omega) (by omega) (ht:=?_))
        all_goals(show _=[_,_,_,_,V.int .i64 (((i+1:Nat):Int)+1)];rw [Int.natCast_add];exact tv_)
  · have hie:i+1=l.length:=by omega
    have hend:=insS_end l
    rw [hie,hend]
    have hcl:=fun m=>ahapp1_c hp0 hp0 sm_zero sm_zero m
    have hga:=hlen
    have hgb:=hlen
    have hti:=hlen
    have htj:=hlen
    have htk:=hlen
    (have FX:=And.intro hlen (And.intro hga (And.intro hgb (And.intro hti (And.intro htj htk))));repeat'(first|(refine sx ?_ ?_<;>intro h<;>first|(exfalso;omega)|skip)|(refine g_op ?_;refine g_call ?_;refine g_args ?_;(first|refine s_fn (hcl _) ?_)<;>try first|omega|assumption)|(refine g_op ?_;refine g_dyn ?_;refine g_dargs ?_;first|(refine s_fn (hcl _) ?_<;>try first|omega|assumption))|refine ny ?_|refine WA_block ?_|(refine uC28_129_4 ?_;refine⟨by kernel_rfl,?_⟩)|(refine uC28_129_6 ?_;refine⟨by kernel_rfl,?_⟩)|((first|refine grp_cons (fun _=>hcl _) ?_)<;>try first|omega|assumption)|(refine g_d ?_;refine d_args ?_;(first|refine d_fn (hcl _) ?_|refine d_fnQ (fun _=>hcl _) ?_)<;>try first|omega|assumption)|(refine g_d ?_;(first|refine d_fnY (hcl _) ?_)<;>try first|omega|assumption)|(refine g_d ?_;first|(refine d_dyn (hcl _) ?_<;>try first|omega|assumption)|(refine d_dynY (hcl _) ?_<;>try first|omega|assumption))))
    all_goals(try(exfalso;omega))
    all_goals(refine r_esW hQ ?_ ?_<;>try with_reducible rfl)
theorem evI_str{P:Program}{m:Mem}{T:TypeId}{k:IntKind}{n:Int}{s:List UInt8}{b:UInt8}(hT:strT P T=true)(h:s[n.toNat]?=some b):evI P m T (.str s) (.int k n)=some (0≤n,.int .u8 b.toNat,m):=by
  simp only [evI,evStrIdx,hT,if_true,h]
theorem u8w{n:Nat}(h:n≤12):IntKind.u8.wrap ((n:Nat):Int)=n:=by
  have hc:n=0∨n=1∨n=2∨n=3∨n=4∨n=5∨n=6∨n=7∨n=8∨n=9∨n=10∨n=11∨n=12:=by omega
  rcases hc with rfl|rfl|rfl|rfl|rfl|rfl|rfl|rfl|rfl|rfl|rfl|rfl|rfl<;>rfl
def lenB(n:Nat):UInt8:=[0,1,2,2,3,3,3,3,4,4,4,4,4].getD n 0

theorem mlen64_c(n:Nat)(h:n≤12)(m:Mem):Gives Tryz.prog 138 [.int .u64 n] m (.int .i64 ((lenB n).toNat:Int)):=by
  have hw:=u8w h
  have hb:=hw
  have hc:n=0∨n=1∨n=2∨n=3∨n=4∨n=5∨n=6∨n=7∨n=8∨n=9∨n=10∨n=11∨n=12:=by omega
  refine Gives_in Tryz.func138 rfl Tryz.ntmps138 Tryz.results138 (by kernel_rfl) (by simp) rfl fun Q hQ=>?_
  (have FX:=And.intro hw hb;repeat'(first|(refine sx ?_ ?_<;>intro h<;>first|(exfalso;omega)|skip)|refine ny ?_|refine WA_block ?_))
  all_goals(try(exfalso;omega))
  have hlb:(lenB n).toNat≤4:=by rcases hc with rfl|rfl|rfl|rfl|rfl|rfl|rfl|rfl|rfl|rfl|rfl|rfl|rfl<;>decide
  refine g_op ?_
  refine s_ix (v:= .int .u8 (lenB n).toNat) ?_ (hx:=by first|exact lk_|fail) (hy:=by first|exact lk_|fail) (hb:=fun m=>evI_str (b:=lenB n) (by kernel_rfl) (by rcases hc with rfl|rfl|rfl|rfl|rfl|rfl|rfl|rfl|rfl|rfl|rfl|rfl|rfl<;>rfl)) (hp:=Int.natCast_nonneg n)
  (have FX:=And.intro hw hb;repeat'(first|(refine sx ?_ ?_<;>intro h<;>first|(exfalso;omega)|skip)|refine ny ?_|refine WA_block ?_))
  all_goals(try(exfalso;omega))
  all_goals(refine r_es hQ ?_;try with_reducible rfl)
  all_goals(rw [Int.zero_add])
end Go.Proofs.YtomkbpoicjabfaaGreatDoor
