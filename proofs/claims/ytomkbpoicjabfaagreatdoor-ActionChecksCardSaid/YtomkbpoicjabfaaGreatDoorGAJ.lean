import Derived.Test.YtomkbpoicjabfaaGreatDoorGAD
import Derived.Test.YtomkbpoicjabfaaGreatDoorGAI
set_option linter.unusedSimpArgs false
set_option linter.unusedVariables false
/- contracts: the value of a curve -/
namespace Go.Proofs.YtomkbpoicjabfaaGreatDoor
open Go.RowKit
attribute [local irreducible] WA WOs WDs WAn qThen qBlock tput
set_option maxHeartbeats 1000000
set_option maxRecDepth 20000
set_option linter.unusedSimpArgs false
set_option linter.unusedVariables false
/-- the value and whether a number on the way is large, as the program finds them -/
def vP(c:List Pt)(x:Rat):Rat:=
  let n:=cnt c x
  if n=0∨x=(at' c 0).1 then (at' c 0).2 else if n=c.length then (at' c (n - 1)).2 else cut (cut (cut (x - (at' c (n - 1)).1) * slP (at' c (n - 1)) (at' c n))+(at' c (n - 1)).2)
def vG (g:Bool) (c:List Pt) (x:Rat):Bool:=
  let n:=cnt c x
  if n=0∨x=(at' c 0).1 then g else if n=c.length then g else
    (slG (g || !smB (x - (at' c (n - 1)).1)) (at' c (n - 1)) (at' c n) || !smB (cut (x - (at' c (n - 1)).1) * slP (at' c (n - 1)) (at' c n))) || !smB (cut (cut (x - (at' c (n - 1)).1) * slP (at' c (n - 1)) (at' c n))+(at' c (n - 1)).2)
theorem cnt_pos{c:List Pt}(h:Valid c){x:Rat}(hx:(at' c 0).1≤x):0<cnt c x:=(cnt_iff h.asc h.pos).2 hx
theorem vP_ok {c:List Pt} (h:Valid c) {x:Rat} (ho:valOk c x) (g:Bool):vP c x=valE c x∧vG g c x=g:=by
  by_cases hf:x=(at' c 0).1
  · have h1:=(val_first h hf).2
    unfold vP vG
    simp only [hf,or_true,if_true]
    rw [←hf]
    exact⟨h1.symm,trivial⟩
  · unfold vP vG
    unfold valOk at ho
    unfold valE
    simp only [hf,or_false] at ho ⊢
    have hc:=cnt_le c x
    by_cases h0:cnt c x=0
    · simp [h0]
    · by_cases h1:cnt c x=c.length
      · rw [if_neg h0,if_neg h0,if_neg h0,if_pos h1,if_pos h1,if_pos h1];exact⟨rfl,rfl⟩
      · rw [if_neg h0,if_neg h0,if_neg h0,if_neg h1,if_neg h1,if_neg h1]
        obtain⟨a1,a2,a3⟩:=(ho.resolve_left h0).resolve_left h1
        obtain⟨b1,b2⟩:=valid_slN h h0 (by omega)
        obtain⟨e1,e2⟩:=slP_ok b1 b2 (g || !smB (x - (at' c (cnt c x - 1)).1))
        have e3:slP (at' c (cnt c x - 1)) (at' c (cnt c x))=slN c (cnt c x):=e1
        rw [e2,e3,cut_sm a1,smB_of a1,cut_sm a2,smB_of a2]
        rw [Rat.add_comm] at a3
        rw [cut_sm a3,smB_of a3]
        exact⟨Rat.add_comm _ _,by simp⟩
theorem vG_bad {c:List Pt} (h:Valid c) {x:Rat} (ho:¬ valOk c x) (g:Bool):vG g c x=true:=by
  by_cases hf:x=(at' c 0).1
  · exact absurd (val_first h hf).1 ho
  · unfold vG
    unfold valOk at ho
    simp only [hf,or_false,not_or] at ho ⊢
    obtain⟨h0,h1,h2⟩:=ho
    have hc:=cnt_le c x
    rw [if_neg h0,if_neg h1]
    obtain⟨b1,b2⟩:=valid_slN h h0 (by omega)
    obtain⟨e1,e2⟩:=slP_ok b1 b2 (g || !smB (x - (at' c (cnt c x - 1)).1))
    have e3:slP (at' c (cnt c x - 1)) (at' c (cnt c x))=slN c (cnt c x):=e1
    rw [e2,e3]
    by_cases a1:sm (x - (at' c (cnt c x - 1)).1)
    · rw [cut_sm a1]
      by_cases a2:sm ((x - (at' c (cnt c x - 1)).1) * slN c (cnt c x))
      · rw [cut_sm a2]
        have a3:¬ sm ((x - (at' c (cnt c x - 1)).1) * slN c (cnt c x)+(at' c (cnt c x - 1)).2):=fun h=>h2 ⟨a1,a2,by rw [Rat.add_comm];exact h⟩
        rw [smB_no a3];simp
      · rw [smB_no a2];simp
    · rw [smB_no a1];simp
theorem sm_vP{c:List Pt}(h:Valid c)(x:Rat):sm (vP c x):=by
  have h0:=h.pos
  have:=cnt_le c x
  unfold vP
  simp only
  split
  · exact(h.sm 0 h0).2
  · split
    · exact(h.sm _ (by omega)).2
    · exact sm_cut _
attribute [local irreducible] smB cut sm
theorem cmpQ_zero{p q:Rat}:cmpQ p q=0↔p=q:=by
  unfold cmpQ
  by_cases h1:p<q
  · rw [if_pos h1];simp;intro h;rw [h] at h1;exact Rat.lt_irrefl h1
  · rw [if_neg h1]
    by_cases h2:q<p
    · rw [if_pos h2];simp;intro h;rw [h] at h2;exact Rat.lt_irrefl h2
    · rw [if_neg h2];simp;exact Rat.le_antisymm (Rat.not_lt.1 h2) (Rat.not_lt.1 h1)
theorem uC8_48_3{N:Nat}{l:List Oper}{t:List (Nat×V)}{m:Mem}{Q:Exit→List (Nat×V)→Mem→Prop}(h:RgN Tryz.prog N l t m Q (fun i=>if i==3 || i==5 || i==8 || i==9 then .q else .p) [.one 0,.one 1,.one 2,.one 3,.one 4,.one 5,.one 6,.one 7,.one 8,.one 9,.one 10,.one 11,.one 12]):WA Tryz.prog N (.region 3 l.toArray true) t m Q:=d_rgN h
theorem uC8_48_8{N:Nat}{l:List Oper}{t:List (Nat×V)}{m:Mem}{Q:Exit→List (Nat×V)→Mem→Prop}(h:RgT Tryz.prog N l t m Q 96 (fun i=>if i==20 then .w else if i==6 || i==15 || i==16 || i==19 then .f else if i==3 || i==5 || i==8 || i==10 || i==14 || i==18 then .q else .p) [.one 0,.one 1,.one 2,.one 3,.one 4,.one 5,.one 7,.one 8,.one 9,.one 10,.one 11,.one 12,.one 13,.one 14,.one 17,.one 18,.one 6,.one 15,.one 16,.one 19,.one 20]):WA Tryz.prog N (.region 8 l.toArray true) t m Q:=d_rgT h
theorem value_w(k:Nat)(c:List Pt)(x:Rat)(g:Bool)(hv:Valid c)(hx:sm x):CallW Tryz.prog 48 [.ptr k 0 0,.agg [.lst (ptsV c)],.agg [.int .i64 (Rat.num (x)),.int .i64 ((Rat.den (x):Nat):Int)]] k (.cells .own 96 1 [[.bool (g)]]) (.cells .own 96 1 [[.bool (vG g c x)]]) (.agg [.int .i64 (Rat.num (vP c x)),.int .i64 ((Rat.den (vP c x):Nat):Int)]):=by
  have hlen:=ptsV_length (c:=c)
  have hfew:=hv.few
  have hp:=hv.pos
  have hn:=cnt_le c x
  have h00:=(hv.sm 0 hp).1
  have hg0:=ptsV_get hp
  unfold ptV at hg0
  have ht0:=hlen
  have hcz:=hlen
  unfold vP vG
  simp only
  by_cases hz:cnt c x=0∨x=(at' c 0).1
  · rw [if_pos hz,if_pos hz]
    rcases hz with hz|hz
    · refine CallW_in (tvs:=[.ptr 0 0 0,.v (.agg [.lst (ptsV c)]),.v (.agg [.int .i64 (Rat.num (x)),.int .i64 ((Rat.den (x):Nat):Int)])]) Tryz.func48 rfl Tryz.ntmps48 Tryz.results48 (by kernel_rfl) (by simp) (by simp [flatL,V.flat]) rfl fun m Q hQ=>?_
      simp only [List.map_cons,List.map_nil,TV.inst]
      (have FX:=And.intro hlen (And.intro hg0 (And.intro ht0 hcz));repeat'(first|(refine sx ?_ ?_<;>intro h<;>first|(exfalso;omega)|skip)|(refine g_op ?_;refine g_call ?_;refine g_args ?_;(first|refine s_fn (astretch_c c x hv hx _) ?_|refine s_fn (acompare_c x (at' c 0).1 hx h00 _) ?_)<;>try first|omega|assumption)|refine ny ?_|refine WA_block ?_|(refine uC8_48_3 ?_;refine⟨by kernel_rfl,?_⟩)|(refine uC8_48_8 ?_;refine⟨by kernel_rfl,?_⟩)|((first|refine grp_cons (fun _=>astretch_c c x hv hx _) ?_|refine grp_cons (fun _=>acompare_c x (at' c 0).1 hx h00 _) ?_)<;>try first|omega|assumption)|(refine g_d ?_;refine d_args ?_;(first|refine d_fn (astretch_c c x hv hx _) ?_|refine d_fn (acompare_c x (at' c 0).1 hx h00 _) ?_|refine d_fnQ (fun _=>astretch_c c x hv hx _) ?_|refine d_fnQ (fun _=>acompare_c x (at' c 0).1 hx h00 _) ?_)<;>try first|omega|assumption)|(refine g_d ?_;(first|refine d_fnY (astretch_c c x hv hx _) ?_|refine d_fnY (acompare_c x (at' c 0).1 hx h00 _) ?_)<;>try first|omega|assumption)))
      all_goals(try(exfalso;omega))
      all_goals(refine r_esW hQ ?_ ?_<;>try with_reducible rfl)
    · have hpos:=cnt_pos hv (x:=x) (by rw [hz];exact Rat.le_refl)
      have hcz:=cmpQ_zero.2 hz
      refine CallW_in (tvs:=[.ptr 0 0 0,.v (.agg [.lst (ptsV c)]),.v (.agg [.int .i64 (Rat.num (x)),.int .i64 ((Rat.den (x):Nat):Int)])]) Tryz.func48 rfl Tryz.ntmps48 Tryz.results48 (by kernel_rfl) (by simp) (by simp [flatL,V.flat]) rfl fun m Q hQ=>?_
      simp only [List.map_cons,List.map_nil,TV.inst]
      (have FX:=And.intro hlen (And.intro hg0 (And.intro ht0 hcz));repeat'(first|(refine sx ?_ ?_<;>intro h<;>first|(exfalso;omega)|skip)|(refine g_op ?_;refine g_call ?_;refine g_args ?_;(first|refine s_fn (astretch_c c x hv hx _) ?_|refine s_fn (acompare_c x (at' c 0).1 hx h00 _) ?_)<;>try first|omega|assumption)|refine ny ?_|refine WA_block ?_|(refine uC8_48_3 ?_;refine⟨by kernel_rfl,?_⟩)|(refine uC8_48_8 ?_;refine⟨by kernel_rfl,?_⟩)|((first|refine grp_cons (fun _=>astretch_c c x hv hx _) ?_|refine grp_cons (fun _=>acompare_c x (at' c 0).1 hx h00 _) ?_)<;>try first|omega|assumption)|(refine g_d ?_;refine d_args ?_;(first|refine d_fn (astretch_c c x hv hx _) ?_|refine d_fn (acompare_c x (at' c 0).1 hx h00 _) ?_|refine d_fnQ (fun _=>astretch_c c x hv hx _) ?_|refine d_fnQ (fun _=>acompare_c x (at' c 0).1 hx h00 _) ?_)<;>try first|omega|assumption)|(refine g_d ?_;(first|refine d_fnY (astretch_c c x hv hx _) ?_|refine d_fnY (acompare_c x (at' c 0).1 hx h00 _) ?_)<;>try first|omega|assumption)))
      all_goals(try(exfalso;omega))
      all_goals(refine r_esW hQ ?_ ?_<;>try with_reducible rfl)
  · rw [if_neg hz,if_neg hz]
    have hz0:¬ cnt c x=0:=fun h=>hz (.inl h)
    have hcz':¬ cmpQ x (at' c 0).1=0:=fun h=>hz (.inr (cmpQ_zero.1 h))
    have hcb:=cmpQ_bd x (at' c 0).1
    by_cases hl:cnt c x=c.length
    · rw [if_pos hl,if_pos hl,hl]
      have hgl:=ptsV_get (c:=c) (i:=c.length - 1) (by omega)
      unfold ptV at hgl
      have ht0:((c.length:Int) - 1).toNat=c.length - 1:=by omega
      have hcz:=And.intro hgl (congrArg (fun z:Nat=>(z:Int)) hl)
      refine CallW_in (tvs:=[.ptr 0 0 0,.v (.agg [.lst (ptsV c)]),.v (.agg [.int .i64 (Rat.num (x)),.int .i64 ((Rat.den (x):Nat):Int)])]) Tryz.func48 rfl Tryz.ntmps48 Tryz.results48 (by kernel_rfl) (by simp) (by simp [flatL,V.flat]) rfl fun m Q hQ=>?_
      simp only [List.map_cons,List.map_nil,TV.inst]
      (have FX:=And.intro hlen (And.intro hg0 (And.intro ht0 hcz));repeat'(first|(refine sx ?_ ?_<;>intro h<;>first|(exfalso;omega)|skip)|(refine g_op ?_;refine g_call ?_;refine g_args ?_;(first|refine s_fn (astretch_c c x hv hx _) ?_|refine s_fn (acompare_c x (at' c 0).1 hx h00 _) ?_)<;>try first|omega|assumption)|refine ny ?_|refine WA_block ?_|(refine uC8_48_3 ?_;refine⟨by kernel_rfl,?_⟩)|(refine uC8_48_8 ?_;refine⟨by kernel_rfl,?_⟩)|((first|refine grp_cons (fun _=>astretch_c c x hv hx _) ?_|refine grp_cons (fun _=>acompare_c x (at' c 0).1 hx h00 _) ?_)<;>try first|omega|assumption)|(refine g_d ?_;refine d_args ?_;(first|refine d_fn (astretch_c c x hv hx _) ?_|refine d_fn (acompare_c x (at' c 0).1 hx h00 _) ?_|refine d_fnQ (fun _=>astretch_c c x hv hx _) ?_|refine d_fnQ (fun _=>acompare_c x (at' c 0).1 hx h00 _) ?_)<;>try first|omega|assumption)|(refine g_d ?_;(first|refine d_fnY (astretch_c c x hv hx _) ?_|refine d_fnY (acompare_c x (at' c 0).1 hx h00 _) ?_)<;>try first|omega|assumption)))
      all_goals(try(exfalso;omega))
      all_goals(refine r_esW hQ ?_ ?_<;>try with_reducible rfl)
    · rw [if_neg hl,if_neg hl]
      obtain⟨i,hi⟩:∃ i,cnt c x=i+1:=⟨cnt c x - 1,by omega⟩
      have hgl:=ptsV_get (c:=c) (i:=i) (by omega)
      have hgm:=ptsV_get (c:=c) (i:=i+1) (by omega)
      have s1:=hv.sm i (by omega)
      have s2:=hv.sm (i+1) (by omega)
      rw [hi,Nat.add_sub_cancel]
      obtain⟨⟨u,v⟩,hu⟩:∃ p,at' c i=p:=⟨_,rfl⟩
      obtain⟨⟨u2,v2⟩,hu2⟩:∃ p,at' c (i+1)=p:=⟨_,rfl⟩
      rw [hu] at hgl s1 ⊢
      rw [hu2] at hgm s2 ⊢
      unfold ptV at hgl hgm
      dsimp only at hgl hgm s1 s2 ⊢
      have e0:(cnt c x:Int) - 1=(i:Int):=by omega
      have ht0:=And.intro e0 (And.intro (Int.toNat_natCast i) (show((i:Int)+1).toNat=i+1 by omega))
      have hcz:=And.intro hgl hgm
      refine CallW_in (tvs:=[.ptr 0 0 0,.v (.agg [.lst (ptsV c)]),.v (.agg [.int .i64 (Rat.num (x)),.int .i64 ((Rat.den (x):Nat):Int)])]) Tryz.func48 rfl Tryz.ntmps48 Tryz.results48 (by kernel_rfl) (by simp) (by simp [flatL,V.flat]) rfl fun m Q hQ=>?_
      simp only [List.map_cons,List.map_nil,TV.inst]
      (have FX:=And.intro hlen (And.intro hg0 (And.intro ht0 hcz));repeat'(first|(refine sx ?_ ?_<;>intro h<;>first|(exfalso;omega)|skip)|(refine g_op ?_;refine g_call ?_;refine g_args ?_;(first|refine s_fn (astretch_c c x hv hx _) ?_|refine s_fn (acompare_c x (at' c 0).1 hx h00 _) ?_|refine s_fnW (sub_w _ x u _ hx s1.1) ?_|refine s_fnW (slope_w _ (u,v) (u2,v2) _ s1.1 s1.2 s2.1 s2.2) ?_|refine s_fnW (mul_w _ _ _ _ (sm_cut _) (sm_slP _ _)) ?_|refine s_fnW (add_w _ _ _ _ (sm_cut _) s1.2) ?_)<;>try first|omega|assumption)|refine ny ?_|refine WA_block ?_|(refine uC8_48_3 ?_;refine⟨by kernel_rfl,?_⟩)|(refine uC8_48_8 ?_;refine⟨by kernel_rfl,?_⟩)|((first|refine grp_cons (fun _=>astretch_c c x hv hx _) ?_|refine grp_cons (fun _=>acompare_c x (at' c 0).1 hx h00 _) ?_|refine grp_w (sub_w _ x u _ hx s1.1) ?_|refine grp_w (slope_w _ (u,v) (u2,v2) _ s1.1 s1.2 s2.1 s2.2) ?_|refine grp_w (mul_w _ _ _ _ (sm_cut _) (sm_slP _ _)) ?_|refine grp_w (add_w _ _ _ _ (sm_cut _) s1.2) ?_)<;>try first|omega|assumption)|(refine g_d ?_;refine d_args ?_;(first|refine d_fn (astretch_c c x hv hx _) ?_|refine d_fn (acompare_c x (at' c 0).1 hx h00 _) ?_|refine d_fnW (sub_w _ x u _ hx s1.1) ?_|refine d_fnW (slope_w _ (u,v) (u2,v2) _ s1.1 s1.2 s2.1 s2.2) ?_|refine d_fnW (mul_w _ _ _ _ (sm_cut _) (sm_slP _ _)) ?_|refine d_fnW (add_w _ _ _ _ (sm_cut _) s1.2) ?_|refine d_fnQ (fun _=>astretch_c c x hv hx _) ?_|refine d_fnQ (fun _=>acompare_c x (at' c 0).1 hx h00 _) ?_)<;>try first|omega|assumption)|(refine g_d ?_;(first|refine d_fnY (astretch_c c x hv hx _) ?_|refine d_fnY (acompare_c x (at' c 0).1 hx h00 _) ?_)<;>try first|omega|assumption)))
      all_goals(try(exfalso;omega))
      all_goals(refine r_esW hQ ?_ ?_<;>try with_reducible rfl)
end Go.Proofs.YtomkbpoicjabfaaGreatDoor
namespace Go.Proofs.YtomkbpoicjabfaaGreatDoor
open Go.RowKit
attribute [local irreducible] WA WOs WDs WAn qThen qBlock tput
set_option maxHeartbeats 1000000
set_option maxRecDepth 20000
set_option linter.unusedSimpArgs false
set_option linter.unusedVariables false
attribute [local irreducible] smB cut sm
theorem uC9_110_5{N:Nat}{l:List Oper}{t:List (Nat×V)}{m:Mem}{Q:Exit→List (Nat×V)→Mem→Prop}(h:RgT Tryz.prog N l t m Q 96 (fun i=>if i==12 then .w else if i==11 then .f else if i==1 || i==4 || i==6 || i==10 then .q else .p) [.one 0,.one 1,.one 2,.one 3,.one 4,.one 5,.one 6,.one 7,.one 8,.one 9,.one 10,.one 11,.one 12]):WA Tryz.prog N (.region 5 l.toArray true) t m Q:=d_rgT h
theorem aslopeat_c(c:List Pt)(x:Rat)(hv:Valid c)(hx:sm x)(m:Mem):Gives Tryz.prog 110 [.agg [.lst (ptsV c)],.agg [.int .i64 (Rat.num (x)),.int .i64 ((Rat.den (x):Nat):Int)]] m (.agg [.int .i64 (Rat.num (slopeE c x)),.int .i64 ((Rat.den (slopeE c x):Nat):Int)]):=by
  have hlen:=ptsV_length (c:=c)
  have hfew:=hv.few
  have hp:=hv.pos
  have hn:=cnt_le c x
  have ht0:=hlen
  have hcz:=hlen
  unfold slopeE
  simp only
  by_cases hz:cnt c x=0∨cnt c x=c.length
  · rw [if_pos hz]
    refine Gives_in Tryz.func110 rfl Tryz.ntmps110 Tryz.results110 (by kernel_rfl) (by simp) rfl fun Q hQ=>?_
    (have FX:=And.intro hlen (And.intro ht0 hcz);repeat'(first|(refine sx ?_ ?_<;>intro h<;>first|(exfalso;omega)|skip)|(refine g_op ?_;refine g_call ?_;refine g_args ?_;(first|refine s_fn (astretch_c c x hv hx _) ?_|refine s_fn (awhole_c _ _) ?_)<;>try first|omega|assumption)|refine ny ?_|refine WA_block ?_|(refine uC9_110_5 ?_;refine⟨by kernel_rfl,?_⟩)|((first|refine grp_cons (fun _=>astretch_c c x hv hx _) ?_|refine grp_cons (fun _=>awhole_c _ _) ?_)<;>try first|omega|assumption)|(refine g_d ?_;refine d_args ?_;(first|refine d_fn (astretch_c c x hv hx _) ?_|refine d_fn (awhole_c _ _) ?_|refine d_fnQ (fun _=>astretch_c c x hv hx _) ?_|refine d_fnQ (fun _=>awhole_c _ _) ?_)<;>try first|omega|assumption)|(refine g_d ?_;(first|refine d_fnY (astretch_c c x hv hx _) ?_|refine d_fnY (awhole_c _ _) ?_)<;>try first|omega|assumption)))
    all_goals(try(exfalso;omega))
    all_goals(refine r_es hQ ?_;try with_reducible rfl)
    all_goals rfl
  · rw [if_neg hz]
    obtain⟨i,hi⟩:∃ i,cnt c x=i+1:=⟨cnt c x - 1,by omega⟩
    have hgl:=ptsV_get (c:=c) (i:=i) (by omega)
    have hgm:=ptsV_get (c:=c) (i:=i+1) (by omega)
    have s1:=hv.sm i (by omega)
    have s2:=hv.sm (i+1) (by omega)
    have hsl:=hv.sl i (by omega)
    have hup:=hv.up i (by omega)
    unfold slN
    rw [hi,Nat.add_sub_cancel]
    obtain⟨⟨u,v⟩,hu⟩:∃ p,at' c i=p:=⟨_,rfl⟩
    obtain⟨⟨u2,v2⟩,hu2⟩:∃ p,at' c (i+1)=p:=⟨_,rfl⟩
    rw [hu] at hgl s1 hsl hup ⊢
    rw [hu2] at hgm s2 hsl hup ⊢
    unfold ptV at hgl hgm
    dsimp only at hgl hgm s1 s2
    obtain⟨z1,z2⟩:=slP_ok hsl hup false
    rw [←z1]
    have e0:(cnt c x:Int) - 1=(i:Int):=by omega
    have ht0:=And.intro e0 (And.intro (Int.toNat_natCast i) (show((i:Int)+1).toNat=i+1 by omega))
    have hcz:=And.intro hgl hgm
    refine Gives_in Tryz.func110 rfl Tryz.ntmps110 Tryz.results110 (by kernel_rfl) (by simp) rfl fun Q hQ=>?_
    (have FX:=And.intro hlen (And.intro ht0 hcz);repeat'(first|(refine sx ?_ ?_<;>intro h<;>first|(exfalso;omega)|skip)|(refine g_op ?_;refine g_call ?_;refine g_args ?_;(first|refine s_fn (astretch_c c x hv hx _) ?_|refine s_fn (awhole_c _ _) ?_|refine s_fnW (slope_w _ (u,v) (u2,v2) _ s1.1 s1.2 s2.1 s2.2) ?_)<;>try first|omega|assumption)|refine ny ?_|refine WA_block ?_|(refine uC9_110_5 ?_;refine⟨by kernel_rfl,?_⟩)|((first|refine grp_cons (fun _=>astretch_c c x hv hx _) ?_|refine grp_cons (fun _=>awhole_c _ _) ?_|refine grp_w (slope_w _ (u,v) (u2,v2) _ s1.1 s1.2 s2.1 s2.2) ?_)<;>try first|omega|assumption)|(refine g_d ?_;refine d_args ?_;(first|refine d_fn (astretch_c c x hv hx _) ?_|refine d_fn (awhole_c _ _) ?_|refine d_fnW (slope_w _ (u,v) (u2,v2) _ s1.1 s1.2 s2.1 s2.2) ?_|refine d_fnQ (fun _=>astretch_c c x hv hx _) ?_|refine d_fnQ (fun _=>awhole_c _ _) ?_)<;>try first|omega|assumption)|(refine g_d ?_;(first|refine d_fnY (astretch_c c x hv hx _) ?_|refine d_fnY (awhole_c _ _) ?_)<;>try first|omega|assumption)))
    all_goals(try(exfalso;omega))
    all_goals(refine r_es hQ ?_;try with_reducible rfl)

theorem atold_c(q:Rat)(g:Bool)(m:Mem):Gives Tryz.prog 49 [.agg [.int .i64 (Rat.num (q)),.int .i64 ((Rat.den (q):Nat):Int)],.agg [.bool g]] m (if g=true then .tup [.agg [.int .i64 0,.int .i64 0],.int .i64 8] else .tup [.agg [.int .i64 (Rat.num (q)),.int .i64 ((Rat.den (q):Nat):Int)],.int .i64 0]):=by
  cases g
  · refine Gives_in Tryz.func49 rfl Tryz.ntmps49 Tryz.results49 (by kernel_rfl) (by simp) rfl fun Q hQ=>?_
    (repeat'(first|(refine sx ?_ ?_<;>intro h<;>first|(exfalso;omega)|skip)|refine ny ?_|refine WA_block ?_))
    all_goals((refine r_es hQ ?_;try with_reducible rfl);rfl)
  · refine Gives_in Tryz.func49 rfl Tryz.ntmps49 Tryz.results49 (by kernel_rfl) (by simp) rfl fun Q hQ=>?_
    (repeat'(first|(refine sx ?_ ?_<;>intro h<;>first|(exfalso;omega)|skip)|refine ny ?_|refine WA_block ?_))
    all_goals((refine r_es hQ ?_;try with_reducible rfl);rfl)

theorem rwhole_c(n:Int)(m:Mem):Gives Tryz.prog 17 [.int .i64 n] m (.agg [.int .i64 n,.int .i64 1]):=by
  refine Gives_in Tryz.func17 rfl Tryz.ntmps17 Tryz.results17 (by kernel_rfl) (by simp) rfl fun Q hQ=>?_
  (repeat'(first|(refine sx ?_ ?_<;>intro h<;>first|(exfalso;omega)|skip)|refine ny ?_|refine WA_block ?_))
  all_goals(refine r_es hQ ?_;try with_reducible rfl)
end Go.Proofs.YtomkbpoicjabfaaGreatDoor
