import Derived.Test.YtomkbpoicjabfaaGreatDoorGAR
import Derived.Test.YtomkbpoicjabfaaGreatDoorGAQ
set_option linter.unusedSimpArgs false
set_option linter.unusedVariables false
/- contracts: balance and friction -/
namespace Go.Proofs.YtomkbpoicjabfaaGreatDoor
open Go.RowKit
attribute [local irreducible] WA WOs WDs WAn qThen qBlock tput
set_option maxHeartbeats 1000000
set_option maxRecDepth 20000
set_option linter.unusedSimpArgs false
set_option linter.unusedVariables false
theorem sm_num{q:Rat}(h:sm q): -1000000000≤q.num∧q.num≤1000000000:=⟨h.1,h.2.1⟩
attribute [local irreducible] smB cut sm
theorem sm_adP(s:Rat×Bool)(p:Rat):sm (adP s p).1:=sm_cut _
theorem sm_sbP(s:Rat×Bool)(p:Rat):sm (sbP s p).1:=sm_cut _
theorem sm_balP(a:ActR)(l:List Rat)(g:Bool):∀ i,sm (balP a l g i).1
  |0=>sm_zero
  |i+1=>sm_adP _ _
theorem sm_frcP(a:ActR)(l:List Rat)(g:Bool):∀ i,sm (frcP a l g i).1
  |0=>sm_zero
  |i+1=>sm_adP _ _
theorem sm_ldP(a:ActR){s:Rat×Bool}(h:sm s.1):∀ i,sm (ldP a s i).1
  |0=>h
  |i+1=>sm_sbP _ _
theorem ldErr_zero{l:Int×Int}(h:ldErr l=0):(1≤l.1∧l.1≤5000)∧(-1000≤l.2∧l.2≤1000):=by
  unfold ldErr at h
  split at h
  · simp at h
  · omega
theorem ldsErr_zero{l:List (Int×Int)}(h:ldsErr l=0):l.length≤8∧∀ i,i<l.length→ldErr (l.getD i l0)=0:=by
  unfold ldsErr at h
  split at h
  · simp at h
  · exact⟨by omega,firstE_zero.1 h⟩
theorem ld_mul{w p:Int}(h:(1≤w∧w≤5000)∧(-1000≤p∧p≤1000)): -5000000≤w * p∧w * p≤5000000:=by
  have h1:(w * p).natAbs=w.natAbs * p.natAbs:=Int.natAbs_mul _ _
  have h2:w.natAbs * p.natAbs≤5000 * 1000:=Nat.mul_le_mul (by omega) (by omega)
  omega
theorem k_ne:((1000:Int):Rat)≠0:=by decide
theorem ldQ_quo(l:Int×Int):quoQ ((l.1 * l.2:Int):Rat) ((1000:Int):Rat)=cut (ldQ l)∧quoB ((l.1 * l.2:Int):Rat) ((1000:Int):Rat)=!smB (ldQ l):=by
  unfold quoQ quoB ldQ
  rw [if_neg k_ne,if_neg k_ne]
  exact⟨rfl,rfl⟩
theorem uC33_87_5{N:Nat}{l:List Oper}{t:List (Nat×V)}{m:Mem}{Q:Exit→List (Nat×V)→Mem→Prop}(h:RgT Tryz.prog N l t m Q 96 (fun i=>if i==13 then .w else if i==11 || i==12 then .f else if i==1 || i==4 || i==8 || i==9 || i==10 then .q else .p) [.one 0,.one 1,.one 2,.one 3,.one 4,.one 5,.one 6,.one 7,.one 8,.one 9,.one 10,.one 11,.one 12,.one 13]):WA Tryz.prog N (.region 5 l.toArray true) t m Q:=d_rgT h
theorem uC33_87_10{N:Nat}{l:List Oper}{t:List (Nat×V)}{m:Mem}{Q:Exit→List (Nat×V)→Mem→Prop}(h:RgT Tryz.prog N l t m Q 96 (fun i=>if i==12 then .w else if i==10 || i==11 then .f else if i==1 || i==4 || i==6 || i==8 || i==9 then .q else .p) [.one 0,.one 1,.one 2,.one 3,.one 4,.one 5,.one 6,.one 7,.one 8,.one 9,.one 10,.one 11,.one 12]):WA Tryz.prog N (.region 10 l.toArray true) t m Q:=d_rgT h
theorem balance_w (k:Nat) (a:ActR) (hp:PtsOk a) (hl:ldsErr a.leads=0) (l:List Rat) (hle:l.length≤a.parts.length) (hs:∀ i,i<l.length→sm (l.getD i 0)) (g:Bool):CallW Tryz.prog 87 [.ptr k 0 0,.agg (actV a),.lst (frsV l)] k (.cells .own 96 1 [[.bool (g)]]) (.cells .own 96 1 [[.bool ((balA a l g).2)]]) (.agg [.int .i64 (Rat.num ((balA a l g).1)),.int .i64 ((Rat.den ((balA a l g).1):Nat):Int)]):=by
  have hlp:=prtsV_length (l:=a.parts)
  have hll:=frsV_length (l:=l)
  have hld:=ldsV_length (l:=a.leads)
  have hfew:=hp.few
  obtain⟨hl8,hlz⟩:=ldsErr_zero hl
  have hga:=hlp
  have hgb:=hlp
  have hmw:=hlp
  have haw:=hlp
  unfold actV
  refine CallW_in (tvs:=[.ptr 0 0 0,.v (.agg [.int .i64 a.dip,.lst (prtsV a.parts),.lst (evsV a.evs),.lst (ldsV a.leads)]),.v (.lst (frsV l))]) Tryz.func87 rfl Tryz.ntmps87 Tryz.results87 (by kernel_rfl) (by simp) (by simp [flatL,V.flat]) rfl fun m Q hQ=>?_
  simp only [List.map_cons,List.map_nil,TV.inst]
  (have FX:=And.intro hlp (And.intro hll (And.intro hld (And.intro hga hgb)));repeat'(first|(refine sx ?_ ?_<;>intro h<;>first|(exfalso;omega)|skip)|(refine g_op ?_;refine g_call ?_;refine g_args ?_;(first|refine s_fn (awhole_c _ _) ?_)<;>try first|omega|assumption)|refine ny ?_|refine WA_block ?_|(refine uC33_87_5 ?_;refine⟨by kernel_rfl,?_⟩)|(refine uC33_87_10 ?_;refine⟨by kernel_rfl,?_⟩)|((first|refine grp_cons (fun _=>awhole_c _ _) ?_)<;>try first|omega|assumption)|(refine g_d ?_;refine d_args ?_;(first|refine d_fn (awhole_c _ _) ?_|refine d_fnQ (fun _=>awhole_c _ _) ?_)<;>try first|omega|assumption)|(refine g_d ?_;(first|refine d_fnY (awhole_c _ _) ?_)<;>try first|omega|assumption)))
  refine WA_whileK (σ:=Nat) [0,4,6,7,13,14,15] (fun i=>[.ptr (lend m).length 0 0,.ptr ((lend m).length+1) 0 0,.ptr ((lend m).length+2) 0 0,.ptr ((lend m).length+3) 0 0,.lst (frsV l),.int .i64 l.length,.int .i64 i]) (fun i=>[(.cells .own 96 1 [[.bool ((balP a l g i).2)]]),actB a,.cells .own 43 2 [[.int .i64 0,.int .i64 0]],.cells .own 43 2 [[.int .i64 (balP a l g i).1.num,.int .i64 ((balP a l g i).1.den:Int)]]]) 4 (fun i=>i≤l.length) (fun i=>l.length - i) 0 (Nat.zero_le _) tv_ rfl (fun _=>rfl) (by intro s s' _ _;simp [conB,conS,V.keeps,V.plain,Blk.flat,flatL,plainL,V.flat]) (by intro s s' _ _;simp [conB,conS,V.keeps,V.plain,Blk.flat,flatL,plainL,V.flat]) ?_
  rintro i hi1 K hK
  simp only [zipT]
  clear FX hga hgb hmw haw
  rcases Nat.lt_or_ge i l.length with hi|hi
  · have hga:=frsV_get hi
    have hgb:=prtsV_get (l:=a.parts) (i:=i) (by omega)
    have hf:=hs i hi
    have hw:=(ptErr_zero (hp.pt i (by omega))).2.2.2.2.1
    have hsu:balP a l g (i+1)=adP (balP a l g i) (((a.parts.getD i p0).wt:Rat) * l.getD i 0):=rfl
    have hsq:=sm_balP a l g i
    have hnx:=hK (i+1)
    rw [hsu] at hnx
    generalize balP a l g i=s at *
    obtain⟨q,g1⟩:=s
    dsimp only at hsq
    generalize a.parts.getD i p0=pt at *
    generalize l.getD i 0=f at *
    unfold prtV at hgb
    unfold frV at hga
    have hmw:∀ k g,CallW Tryz.prog 82 [.ptr k 0 0,.agg [.int .i64 pt.wt,.int .i64 1],.agg [.int .i64 (Rat.num (f)),.int .i64 ((Rat.den (f):Nat):Int)]] k (.cells .own 96 1 [[.bool (g)]]) (.cells .own 96 1 [[.bool (g || !smB ((pt.wt:Rat) * f))]]) (.agg [.int .i64 (Rat.num (cut ((pt.wt:Rat) * f))),.int .i64 ((Rat.den (cut ((pt.wt:Rat) * f)):Nat):Int)]):=fun k g=>mul_w k (pt.wt:Rat) f g (sm_int (by omega)) hf
    have haw:=fun k g=>add_w k q (cut ((pt.wt:Rat) * f)) g hsq (sm_cut _)
    have e1:(adP (q,g1) ((pt.wt:Rat) * f)).1=cut (q+cut ((pt.wt:Rat) * f)):=rfl
    have e2:(adP (q,g1) ((pt.wt:Rat) * f)).2=((g1 || !smB ((pt.wt:Rat) * f)) || !smB (q+cut ((pt.wt:Rat) * f))):=rfl
    rw [e1,e2] at hnx
    have hny:=fun(_:Unit)=>hnx
    (have FX:=And.intro hlp (And.intro hll (And.intro hld (And.intro hga hgb)));repeat'(first|(refine sx ?_ ?_<;>intro h<;>first|(exfalso;omega)|skip)|(refine g_op ?_;refine g_call ?_;refine g_args ?_;(first|refine s_fn (awhole_c _ _) ?_|refine s_fnW (hmw _ _) ?_|refine s_fnW (haw _ _) ?_)<;>try first|omega|assumption)|refine ny ?_|refine WA_block ?_|(refine uC33_87_5 ?_;refine⟨by kernel_rfl,?_⟩)|(refine uC33_87_10 ?_;refine⟨by kernel_rfl,?_⟩)|((first|refine grp_cons (fun _=>awhole_c _ _) ?_|refine grp_w (hmw _ _) ?_|refine grp_w (haw _ _) ?_)<;>try first|omega|assumption)|(refine g_d ?_;refine d_args ?_;(first|refine d_fn (awhole_c _ _) ?_|refine d_fnW (hmw _ _) ?_|refine d_fnW (haw _ _) ?_|refine d_fnQ (fun _=>awhole_c _ _) ?_)<;>try first|omega|assumption)|(refine g_d ?_;(first|refine d_fnY (awhole_c _ _) ?_)<;>try first|omega|assumption)))
    all_goals(try(exfalso;omega))
    all_goals(refine nextL_ hny () (by omega) (by omega))
  · have hie:i=l.length:=by omega
    subst hie
    have hbl:balA a l g=ldP a (balP a l g l.length) a.leads.length:=rfl
    rw [hbl] at hQ
    have hsq0:=sm_balP a l g l.length
    generalize balP a l g l.length=s0 at *
    have hga:=hlp
    have hgb:=hlp
    have hmw:=hlp
    have haw:=hlp
    (have FX:=And.intro hlp (And.intro hll (And.intro hld (And.intro hga hgb)));repeat'(first|(refine sx ?_ ?_<;>intro h<;>first|(exfalso;omega)|skip)|(refine g_op ?_;refine g_call ?_;refine g_args ?_;(first|refine s_fn (awhole_c _ _) ?_)<;>try first|omega|assumption)|refine ny ?_|refine WA_block ?_|(refine uC33_87_5 ?_;refine⟨by kernel_rfl,?_⟩)|(refine uC33_87_10 ?_;refine⟨by kernel_rfl,?_⟩)|((first|refine grp_cons (fun _=>awhole_c _ _) ?_)<;>try first|omega|assumption)|(refine g_d ?_;refine d_args ?_;(first|refine d_fn (awhole_c _ _) ?_|refine d_fnQ (fun _=>awhole_c _ _) ?_)<;>try first|omega|assumption)|(refine g_d ?_;(first|refine d_fnY (awhole_c _ _) ?_)<;>try first|omega|assumption)))
    all_goals(try(exfalso;omega))
    refine WA_whileK (σ:=Nat) [0,4,6,7,35,36,37] (fun i=>[.ptr (lend m).length 0 0,.ptr ((lend m).length+1) 0 0,.ptr ((lend m).length+2) 0 0,.ptr ((lend m).length+3) 0 0,.lst (ldsV a.leads),.int .i64 a.leads.length,.int .i64 i]) (fun i=>[(.cells .own 96 1 [[.bool ((ldP a s0 i).2)]]),actB a,.cells .own 43 2 [[.int .i64 0,.int .i64 0]],.cells .own 43 2 [[.int .i64 (ldP a s0 i).1.num,.int .i64 ((ldP a s0 i).1.den:Int)]]]) 4 (fun i=>i≤a.leads.length) (fun i=>a.leads.length - i) 0 (Nat.zero_le _) tv_ rfl (fun _=>rfl) (by intro s s' _ _;simp [conB,conS,V.keeps,V.plain,Blk.flat,flatL,plainL,V.flat]) (by intro s s' _ _;simp [conB,conS,V.keeps,V.plain,Blk.flat,flatL,plainL,V.flat]) ?_
    rintro i hj1 K hK
    simp only [zipT]
    clear FX hga hgb hmw haw
    rcases Nat.lt_or_ge i a.leads.length with hi|hi
    · have hga:=ldsV_get hi
      have hgb:=hlp
      have hlw:=ldErr_zero (hlz i hi)
      have hpq:=ld_mul hlw
      have hsu:ldP a s0 (i+1)=sbP (ldP a s0 i) (ldQ (a.leads.getD i l0)):=rfl
      have hsq:=sm_ldP a hsq0 i
      have hnx:=hK (i+1)
      rw [hsu] at hnx
      generalize ldP a s0 i=s at *
      obtain⟨q,g1⟩:=s
      dsimp only at hsq
      obtain⟨⟨w,p⟩,hwp⟩:∃ x,a.leads.getD i l0=x:=⟨_,rfl⟩
      rw [hwp] at hnx hga hlw hpq
      dsimp only at hlw hpq
      obtain⟨u1,u2⟩:=ldQ_quo (w,p)
      dsimp only at u1 u2
      unfold ldV at hga
      dsimp only at hga
      have hmw:∀ k g,CallW Tryz.prog 108 [.ptr k 0 0,.agg [.int .i64 (w * p),.int .i64 1],.agg [.int .i64 1000,.int .i64 1]] k (.cells .own 96 1 [[.bool (g)]]) (.cells .own 96 1 [[.bool (g || !smB (ldQ (w,p)))]]) (.agg [.int .i64 (Rat.num (cut (ldQ (w,p)))),.int .i64 ((Rat.den (cut (ldQ (w,p))):Nat):Int)]):=fun k g=>by
        have h:=quoQ_w k ((w * p:Int):Rat) ((1000:Int):Rat) g (sm_int (by omega)) (sm_int (by omega))
        rw [u1,u2] at h
        exact h
      have haw:=fun k g=>sub_w k q (cut (ldQ (w,p))) g hsq (sm_cut _)
      have e1:(sbP (q,g1) (ldQ (w,p))).1=cut (q - cut (ldQ (w,p))):=rfl
      have e2:(sbP (q,g1) (ldQ (w,p))).2=((g1 || !smB (ldQ (w,p))) || !smB (q - cut (ldQ (w,p)))):=rfl
      rw [e1,e2] at hnx
      have hny:=fun(_:Unit)=>hnx
      (have FX:=And.intro hlp (And.intro hll (And.intro hld (And.intro hga hgb)));repeat'(first|(refine sx ?_ ?_<;>intro h<;>first|(exfalso;omega)|skip)|(refine g_op ?_;refine g_call ?_;refine g_args ?_;(first|refine s_fn (awhole_c _ _) ?_|refine s_fnW (hmw _ _) ?_|refine s_fnW (haw _ _) ?_)<;>try first|omega|assumption)|refine ny ?_|refine WA_block ?_|(refine uC33_87_5 ?_;refine⟨by kernel_rfl,?_⟩)|(refine uC33_87_10 ?_;refine⟨by kernel_rfl,?_⟩)|((first|refine grp_cons (fun _=>awhole_c _ _) ?_|refine grp_w (hmw _ _) ?_|refine grp_w (haw _ _) ?_)<;>try first|omega|assumption)|(refine g_d ?_;refine d_args ?_;(first|refine d_fn (awhole_c _ _) ?_|refine d_fnW (hmw _ _) ?_|refine d_fnW (haw _ _) ?_|refine d_fnQ (fun _=>awhole_c _ _) ?_)<;>try first|omega|assumption)|(refine g_d ?_;(first|refine d_fnY (awhole_c _ _) ?_)<;>try first|omega|assumption)))
      all_goals(try(exfalso;omega))
      all_goals(refine nextL_ hny () (by omega) (by omega))
    · have hje:i=a.leads.length:=by omega
      subst hje
      have hga:=hlp
      have hgb:=hlp
      generalize ldP a s0 a.leads.length=s at *
      (have FX:=And.intro hlp (And.intro hll (And.intro hld (And.intro hga hgb)));repeat'(first|(refine sx ?_ ?_<;>intro h<;>first|(exfalso;omega)|skip)|(refine g_op ?_;refine g_call ?_;refine g_args ?_;(first|refine s_fn (awhole_c _ _) ?_)<;>try first|omega|assumption)|refine ny ?_|refine WA_block ?_|(refine uC33_87_5 ?_;refine⟨by kernel_rfl,?_⟩)|(refine uC33_87_10 ?_;refine⟨by kernel_rfl,?_⟩)|((first|refine grp_cons (fun _=>awhole_c _ _) ?_)<;>try first|omega|assumption)|(refine g_d ?_;refine d_args ?_;(first|refine d_fn (awhole_c _ _) ?_|refine d_fnQ (fun _=>awhole_c _ _) ?_)<;>try first|omega|assumption)|(refine g_d ?_;(first|refine d_fnY (awhole_c _ _) ?_)<;>try first|omega|assumption)))
      all_goals(try(exfalso;omega))
      all_goals(refine r_esW hQ ?_ ?_<;>try with_reducible rfl)
theorem uC33_88_5{N:Nat}{l:List Oper}{t:List (Nat×V)}{m:Mem}{Q:Exit→List (Nat×V)→Mem→Prop}(h:RgT Tryz.prog N l t m Q 96 (fun i=>if i==21 then .w else if i==19 || i==20 then .f else if i==1 || i==4 || i==8 || i==9 || i==11 || i==13 || i==14 || i==15 || i==17 then .q else .p) [.one 0,.one 1,.one 2,.one 3,.one 4,.one 5,.one 6,.one 7,.one 8,.one 9,.one 10,.one 11,.one 12,.one 13,.one 14,.one 15,.one 16,.one 17,.one 18,.one 19,.one 20,.one 21]):WA Tryz.prog N (.region 5 l.toArray true) t m Q:=d_rgT h
theorem friction_w(k:Nat)(a:ActR)(hp:PtsOk a)(l:List Rat)(hle:l.length≤a.parts.length)(hs:∀ i,i<l.length→sm (l.getD i 0))(g:Bool):CallW Tryz.prog 88 [.ptr k 0 0,.agg (actV a),.lst (frsV l)] k (.cells .own 96 1 [[.bool (g)]]) (.cells .own 96 1 [[.bool ((frcP a l g l.length).2)]]) (.agg [.int .i64 (Rat.num ((frcP a l g l.length).1)),.int .i64 ((Rat.den ((frcP a l g l.length).1):Nat):Int)]):=by
  have hlp:=prtsV_length (l:=a.parts)
  have hll:=frsV_length (l:=l)
  have hfew:=hp.few
  have hga:=hlp
  have hgb:=hlp
  have hmw:=hlp
  have haw:=hlp
  have hmx:=hlp
  unfold actV
  refine CallW_in (tvs:=[.ptr 0 0 0,.v (.agg [.int .i64 a.dip,.lst (prtsV a.parts),.lst (evsV a.evs),.lst (ldsV a.leads)]),.v (.lst (frsV l))]) Tryz.func88 rfl Tryz.ntmps88 Tryz.results88 (by kernel_rfl) (by simp) (by simp [flatL,V.flat]) rfl fun m Q hQ=>?_
  simp only [List.map_cons,List.map_nil,TV.inst]
  (have FX:=And.intro hlp (And.intro hll (And.intro hga (And.intro hgb hmx)));repeat'(first|(refine sx ?_ ?_<;>intro h<;>first|(exfalso;omega)|skip)|(refine g_op ?_;refine g_call ?_;refine g_args ?_;(first|refine s_fn (awhole_c _ _) ?_)<;>try first|omega|assumption)|refine ny ?_|refine WA_block ?_|(refine uC33_88_5 ?_;refine⟨by kernel_rfl,?_⟩)|((first|refine grp_cons (fun _=>awhole_c _ _) ?_)<;>try first|omega|assumption)|(refine g_d ?_;refine d_args ?_;(first|refine d_fn (awhole_c _ _) ?_|refine d_fnQ (fun _=>awhole_c _ _) ?_)<;>try first|omega|assumption)|(refine g_d ?_;(first|refine d_fnY (awhole_c _ _) ?_)<;>try first|omega|assumption)))
  refine WA_whileK (σ:=Nat) [0,4,6,7,11,12,13] (fun i=>[.ptr (lend m).length 0 0,.ptr ((lend m).length+1) 0 0,.ptr ((lend m).length+2) 0 0,.ptr ((lend m).length+3) 0 0,.lst (frsV l),.int .i64 l.length,.int .i64 i]) (fun i=>[(.cells .own 96 1 [[.bool ((frcP a l g i).2)]]),actB a,.cells .own 43 2 [[.int .i64 0,.int .i64 0]],.cells .own 43 2 [[.int .i64 (frcP a l g i).1.num,.int .i64 ((frcP a l g i).1.den:Int)]]]) 4 (fun i=>i≤l.length) (fun i=>l.length - i) 0 (Nat.zero_le _) tv_ rfl (fun _=>rfl) (by intro s s' _ _;simp [conB,conS,V.keeps,V.plain,Blk.flat,flatL,plainL,V.flat]) (by intro s s' _ _;simp [conB,conS,V.keeps,V.plain,Blk.flat,flatL,plainL,V.flat]) ?_
  rintro i hi1 K hK
  simp only [zipT]
  clear FX hga hgb hmw haw hmx
  rcases Nat.lt_or_ge i l.length with hi|hi
  · have hga:=frsV_get hi
    have hgb:=prtsV_get (l:=a.parts) (i:=i) (by omega)
    have hf:=hs i hi
    have hw:=(ptErr_zero (hp.pt i (by omega))).2.2.2.2.2
    have hsu:frcP a l g (i+1)=adP (frcP a l g i) (((a.parts.getD i p0).fr:Rat) * absQ (l.getD i 0)):=rfl
    have hsq:=sm_frcP a l g i
    have hnx:=hK (i+1)
    rw [hsu] at hnx
    generalize frcP a l g i=s at *
    obtain⟨q,g1⟩:=s
    dsimp only at hsq
    generalize a.parts.getD i p0=pt at *
    generalize l.getD i 0=f at *
    unfold prtV at hgb
    unfold frV at hga
    obtain⟨a1,a2⟩:=absQ_num f
    obtain⟨f1,f2⟩:=sm_num hf
    have hmx:(if f.num< -f.num then -f.num else f.num)=(absQ f).num:=by
      rw [a1];split<;>split<;>omega
    have hmw:∀ k g,CallW Tryz.prog 82 [.ptr k 0 0,.agg [.int .i64 pt.fr,.int .i64 1],.agg [.int .i64 (absQ f).num,.int .i64 (f.den:Int)]] k (.cells .own 96 1 [[.bool (g)]]) (.cells .own 96 1 [[.bool (g || !smB ((pt.fr:Rat) * absQ f))]]) (.agg [.int .i64 (Rat.num (cut ((pt.fr:Rat) * absQ f))),.int .i64 ((Rat.den (cut ((pt.fr:Rat) * absQ f)):Nat):Int)]):=fun k g=>by
      have h:=mul_w k (pt.fr:Rat) (absQ f) g (sm_int (by omega)) (sm_abs hf)
      rw [a2] at h
      exact h
    have haw:=fun k g=>add_w k q (cut ((pt.fr:Rat) * absQ f)) g hsq (sm_cut _)
    have e1:(adP (q,g1) ((pt.fr:Rat) * absQ f)).1=cut (q+cut ((pt.fr:Rat) * absQ f)):=rfl
    have e2:(adP (q,g1) ((pt.fr:Rat) * absQ f)).2=((g1 || !smB ((pt.fr:Rat) * absQ f)) || !smB (q+cut ((pt.fr:Rat) * absQ f))):=rfl
    rw [e1,e2] at hnx
    have hny:=fun(_:Unit)=>hnx
    generalize absQ f=af at *
    (have FX:=And.intro hlp (And.intro hll (And.intro hga (And.intro hgb hmx)));repeat'(first|(refine sx ?_ ?_<;>intro h<;>first|(exfalso;omega)|skip)|(refine g_op ?_;refine g_call ?_;refine g_args ?_;(first|refine s_fn (awhole_c _ _) ?_|refine s_fnW (hmw _ _) ?_|refine s_fnW (haw _ _) ?_)<;>try first|omega|assumption)|refine ny ?_|refine WA_block ?_|(refine uC33_88_5 ?_;refine⟨by kernel_rfl,?_⟩)|((first|refine grp_cons (fun _=>awhole_c _ _) ?_|refine grp_w (hmw _ _) ?_|refine grp_w (haw _ _) ?_)<;>try first|omega|assumption)|(refine g_d ?_;refine d_args ?_;(first|refine d_fn (awhole_c _ _) ?_|refine d_fnW (hmw _ _) ?_|refine d_fnW (haw _ _) ?_|refine d_fnQ (fun _=>awhole_c _ _) ?_)<;>try first|omega|assumption)|(refine g_d ?_;(first|refine d_fnY (awhole_c _ _) ?_)<;>try first|omega|assumption)))
    all_goals(try(exfalso;omega))
    all_goals(refine nextL_ hny () (by omega) (by omega))
  · have hie:i=l.length:=by omega
    subst hie
    generalize frcP a l g l.length=s0 at *
    have hga:=hlp
    have hgb:=hlp
    have hmx:=hlp
    (have FX:=And.intro hlp (And.intro hll (And.intro hga (And.intro hgb hmx)));repeat'(first|(refine sx ?_ ?_<;>intro h<;>first|(exfalso;omega)|skip)|(refine g_op ?_;refine g_call ?_;refine g_args ?_;(first|refine s_fn (awhole_c _ _) ?_)<;>try first|omega|assumption)|refine ny ?_|refine WA_block ?_|(refine uC33_88_5 ?_;refine⟨by kernel_rfl,?_⟩)|((first|refine grp_cons (fun _=>awhole_c _ _) ?_)<;>try first|omega|assumption)|(refine g_d ?_;refine d_args ?_;(first|refine d_fn (awhole_c _ _) ?_|refine d_fnQ (fun _=>awhole_c _ _) ?_)<;>try first|omega|assumption)|(refine g_d ?_;(first|refine d_fnY (awhole_c _ _) ?_)<;>try first|omega|assumption)))
    all_goals(try(exfalso;omega))
    all_goals(refine r_esW hQ ?_ ?_<;>try with_reducible rfl)
end Go.Proofs.YtomkbpoicjabfaaGreatDoor
namespace Go.Proofs.YtomkbpoicjabfaaGreatDoor
open Go.RowKit
attribute [local irreducible] WA WOs WDs WAn qThen qBlock tput
set_option maxHeartbeats 1000000
set_option maxRecDepth 20000
set_option linter.unusedSimpArgs false
set_option linter.unusedVariables false
attribute [local irreducible] smB cut sm
theorem dip_q{a:ActR}{n d:Int}(h:dipErr a n d=0):frErr n d=0∧(toQ (n,d)).num=n∧((toQ (n,d)).den:Int)=d∧sm (toQ (n,d))∧0≤n∧n≤a.dip * d:=by
  unfold dipErr at h
  split at h
  · contradiction
  · rename_i h0
    have h0:frErr n d=0:=by omega
    obtain⟨h1,h2⟩:=frErr_q h0
    unfold rawQ at h1
    injection h1 with h3 h4
    split at h
    · simp at h
    · exact⟨h0,h3,h4,h2,by omega,by omega⟩
end Go.Proofs.YtomkbpoicjabfaaGreatDoor
