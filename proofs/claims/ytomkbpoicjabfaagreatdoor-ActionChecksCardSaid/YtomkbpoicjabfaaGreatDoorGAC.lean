import Derived.Test.YtomkbpoicjabfaaGreatDoorGAB
set_option linter.unusedSimpArgs false
set_option linter.unusedVariables false
/- contracts: computing with fractions -/
namespace Go.Proofs.YtomkbpoicjabfaaGreatDoor
open Go.RowKit
attribute [local irreducible] WA WOs WDs WAn qThen qBlock tput
set_option maxHeartbeats 1000000
set_option maxRecDepth 20000
set_option linter.unusedSimpArgs false
set_option linter.unusedVariables false
theorem uC3_107_4{N:Nat}{l:List Oper}{t:List (Nat×V)}{m:Mem}{Q:Exit→List (Nat×V)→Mem→Prop}(h:RgN Tryz.prog N l t m Q (fun i=>if i==8 then .f else if i==7 then .a else .p) [.one 0,.one 1,.one 2,.one 3,.one 4,.one 5,.one 6,.one 7,.one 8]):WA Tryz.prog N (.region 4 l.toArray true) t m Q:=d_rgN h
theorem fit_w(b:Nat)(n d:Int)(g:Bool)(hd:d≠0)(hn:B64 n)(hd2:B64 d):CallW Tryz.prog 107 [.ptr b 0 0,.int .i64 n,.int .i64 d] b (.cells .own 96 1 [[.bool (g)]]) (.cells .own 96 1 [[.bool (g || !smB (Rat.divInt n d))]]) (.agg [.int .i64 (Rat.num (cut (Rat.divInt n d))),.int .i64 ((Rat.den (cut (Rat.divInt n d)):Nat):Int)]):=by
  obtain⟨b1,b2,b3,b4⟩:=fit_bd hd hn hd2
  have e1:=(fit_num (n:=n) hd).symm
  have e2:=(fit_den (n:=n) hd).symm
  have hq0:=den_pos' (Rat.divInt n d)
  generalize Rat.divInt n d=q at *
  have hck:=fun m=>acheck_c q.num q.den b1 b2 m
  rw [frErr_raw] at hck
  by_cases hneg:d<0
  · rw [if_pos hneg] at e1 e2
    by_cases hs:sm q
    · rw [cut_sm hs,smB_of hs,Bool.not_true,Bool.or_false]
      rw [if_pos hs] at hck
      refine CallW_in (tvs:=[.ptr 0 0 0,.v (.int .i64 n),.v (.int .i64 d)]) Tryz.func107 rfl Tryz.ntmps107 Tryz.results107 (by kernel_rfl) (by simp) (by simp [flatL,V.flat]) rfl fun m Q hQ=>?_
      simp only [List.map_cons,List.map_nil,TV.inst]
      (have FX:=And.intro e1 e2;repeat'(first|(refine sx ?_ ?_<;>intro h<;>first|(exfalso;omega)|skip)|(refine g_op ?_;refine g_call ?_;refine g_args ?_;(first|refine s_fn (agcd_c _ _ ?_ ?_ ?_ ?_ _) ?_|refine s_fn (hck _) ?_|refine s_fn (awhole_c _ _) ?_)<;>try first|omega|assumption)|refine ny ?_|refine WA_block ?_|(refine uC3_107_4 ?_;refine⟨by kernel_rfl,?_⟩)|((first|refine grp_cons (fun _=>agcd_c _ _ ?_ ?_ ?_ ?_ _) ?_|refine grp_cons (fun _=>hck _) ?_|refine grp_cons (fun _=>awhole_c _ _) ?_)<;>try first|omega|assumption)|(refine g_d ?_;refine d_args ?_;(first|refine d_fn (agcd_c _ _ ?_ ?_ ?_ ?_ _) ?_|refine d_fn (hck _) ?_|refine d_fn (awhole_c _ _) ?_|refine d_fnQ (fun _=>agcd_c _ _ ?_ ?_ ?_ ?_ _) ?_|refine d_fnQ (fun _=>hck _) ?_|refine d_fnQ (fun _=>awhole_c _ _) ?_)<;>try first|omega|assumption)|(refine g_d ?_;(first|refine d_fnY (agcd_c _ _ ?_ ?_ ?_ ?_ _) ?_|refine d_fnY (hck _) ?_|refine d_fnY (awhole_c _ _) ?_)<;>try first|omega|assumption)))
      all_goals(refine r_esW hQ ?_ ?_<;>try with_reducible rfl)
    · have hb:smB q=false:=decide_eq_false hs
      have hc:cut q=0:=if_neg hs
      rw [hc,hb,Bool.not_false,Bool.or_true]
      rw [if_neg hs] at hck
      refine CallW_in (tvs:=[.ptr 0 0 0,.v (.int .i64 n),.v (.int .i64 d)]) Tryz.func107 rfl Tryz.ntmps107 Tryz.results107 (by kernel_rfl) (by simp) (by simp [flatL,V.flat]) rfl fun m Q hQ=>?_
      simp only [List.map_cons,List.map_nil,TV.inst]
      (have FX:=And.intro e1 e2;repeat'(first|(refine sx ?_ ?_<;>intro h<;>first|(exfalso;omega)|skip)|(refine g_op ?_;refine g_call ?_;refine g_args ?_;(first|refine s_fn (agcd_c _ _ ?_ ?_ ?_ ?_ _) ?_|refine s_fn (hck _) ?_|refine s_fn (awhole_c _ _) ?_)<;>try first|omega|assumption)|refine ny ?_|refine WA_block ?_|(refine uC3_107_4 ?_;refine⟨by kernel_rfl,?_⟩)|((first|refine grp_cons (fun _=>agcd_c _ _ ?_ ?_ ?_ ?_ _) ?_|refine grp_cons (fun _=>hck _) ?_|refine grp_cons (fun _=>awhole_c _ _) ?_)<;>try first|omega|assumption)|(refine g_d ?_;refine d_args ?_;(first|refine d_fn (agcd_c _ _ ?_ ?_ ?_ ?_ _) ?_|refine d_fn (hck _) ?_|refine d_fn (awhole_c _ _) ?_|refine d_fnQ (fun _=>agcd_c _ _ ?_ ?_ ?_ ?_ _) ?_|refine d_fnQ (fun _=>hck _) ?_|refine d_fnQ (fun _=>awhole_c _ _) ?_)<;>try first|omega|assumption)|(refine g_d ?_;(first|refine d_fnY (agcd_c _ _ ?_ ?_ ?_ ?_ _) ?_|refine d_fnY (hck _) ?_|refine d_fnY (awhole_c _ _) ?_)<;>try first|omega|assumption)))
      all_goals((refine r_esW hQ ?_ ?_<;>try with_reducible rfl);rfl)
  · rw [if_neg hneg] at e1 e2
    have e3:d / (Int.gcd n d:Int)=q.den:=by rw [←e2,Int.tdiv_eq_ediv_of_nonneg (by omega)]
    by_cases hs:sm q
    · rw [cut_sm hs,smB_of hs,Bool.not_true,Bool.or_false]
      rw [if_pos hs] at hck
      refine CallW_in (tvs:=[.ptr 0 0 0,.v (.int .i64 n),.v (.int .i64 d)]) Tryz.func107 rfl Tryz.ntmps107 Tryz.results107 (by kernel_rfl) (by simp) (by simp [flatL,V.flat]) rfl fun m Q hQ=>?_
      simp only [List.map_cons,List.map_nil,TV.inst]
      (have FX:=And.intro e1 (And.intro e2 e3);repeat'(first|(refine sx ?_ ?_<;>intro h<;>first|(exfalso;omega)|skip)|(refine g_op ?_;refine g_call ?_;refine g_args ?_;(first|refine s_fn (agcd_c _ _ ?_ ?_ ?_ ?_ _) ?_|refine s_fn (hck _) ?_|refine s_fn (awhole_c _ _) ?_)<;>try first|omega|assumption)|refine ny ?_|refine WA_block ?_|(refine uC3_107_4 ?_;refine⟨by kernel_rfl,?_⟩)|((first|refine grp_cons (fun _=>agcd_c _ _ ?_ ?_ ?_ ?_ _) ?_|refine grp_cons (fun _=>hck _) ?_|refine grp_cons (fun _=>awhole_c _ _) ?_)<;>try first|omega|assumption)|(refine g_d ?_;refine d_args ?_;(first|refine d_fn (agcd_c _ _ ?_ ?_ ?_ ?_ _) ?_|refine d_fn (hck _) ?_|refine d_fn (awhole_c _ _) ?_|refine d_fnQ (fun _=>agcd_c _ _ ?_ ?_ ?_ ?_ _) ?_|refine d_fnQ (fun _=>hck _) ?_|refine d_fnQ (fun _=>awhole_c _ _) ?_)<;>try first|omega|assumption)|(refine g_d ?_;(first|refine d_fnY (agcd_c _ _ ?_ ?_ ?_ ?_ _) ?_|refine d_fnY (hck _) ?_|refine d_fnY (awhole_c _ _) ?_)<;>try first|omega|assumption)))
      all_goals(refine r_esW hQ ?_ ?_<;>try with_reducible rfl)
    · have hb:smB q=false:=decide_eq_false hs
      have hc:cut q=0:=if_neg hs
      rw [hc,hb,Bool.not_false,Bool.or_true]
      rw [if_neg hs] at hck
      refine CallW_in (tvs:=[.ptr 0 0 0,.v (.int .i64 n),.v (.int .i64 d)]) Tryz.func107 rfl Tryz.ntmps107 Tryz.results107 (by kernel_rfl) (by simp) (by simp [flatL,V.flat]) rfl fun m Q hQ=>?_
      simp only [List.map_cons,List.map_nil,TV.inst]
      (have FX:=And.intro e1 (And.intro e2 e3);repeat'(first|(refine sx ?_ ?_<;>intro h<;>first|(exfalso;omega)|skip)|(refine g_op ?_;refine g_call ?_;refine g_args ?_;(first|refine s_fn (agcd_c _ _ ?_ ?_ ?_ ?_ _) ?_|refine s_fn (hck _) ?_|refine s_fn (awhole_c _ _) ?_)<;>try first|omega|assumption)|refine ny ?_|refine WA_block ?_|(refine uC3_107_4 ?_;refine⟨by kernel_rfl,?_⟩)|((first|refine grp_cons (fun _=>agcd_c _ _ ?_ ?_ ?_ ?_ _) ?_|refine grp_cons (fun _=>hck _) ?_|refine grp_cons (fun _=>awhole_c _ _) ?_)<;>try first|omega|assumption)|(refine g_d ?_;refine d_args ?_;(first|refine d_fn (agcd_c _ _ ?_ ?_ ?_ ?_ _) ?_|refine d_fn (hck _) ?_|refine d_fn (awhole_c _ _) ?_|refine d_fnQ (fun _=>agcd_c _ _ ?_ ?_ ?_ ?_ _) ?_|refine d_fnQ (fun _=>hck _) ?_|refine d_fnQ (fun _=>awhole_c _ _) ?_)<;>try first|omega|assumption)|(refine g_d ?_;(first|refine d_fnY (agcd_c _ _ ?_ ?_ ?_ ?_ _) ?_|refine d_fnY (hck _) ?_|refine d_fnY (awhole_c _ _) ?_)<;>try first|omega|assumption)))
      all_goals((refine r_esW hQ ?_ ?_<;>try with_reducible rfl);rfl)
attribute [local irreducible] smB
theorem sm_dn{a b:Rat}(ha:sm a)(hb:sm b)(h0:b.num≠0):(-1000000000000000000≤(a.den:Int) * b.num∧(a.den:Int) * b.num≤1000000000000000000)∧(a.den:Int) * b.num≠0:=by
  have:=den_pos' a
  exact⟨sm_mul ⟨by omega,ha.2.2⟩ ⟨hb.1,hb.2.1⟩,Int.mul_ne_zero (by omega) h0⟩

theorem add_w(k:Nat)(a b:Rat)(g:Bool)(ha:sm a)(hb:sm b):CallW Tryz.prog 81 [.ptr k 0 0,.agg [.int .i64 (Rat.num (a)),.int .i64 ((Rat.den (a):Nat):Int)],.agg [.int .i64 (Rat.num (b)),.int .i64 ((Rat.den (b):Nat):Int)]] k (.cells .own 96 1 [[.bool (g)]]) (.cells .own 96 1 [[.bool (g || !smB (a+b))]]) (.agg [.int .i64 (Rat.num (cut (a+b))),.int .i64 ((Rat.den (cut (a+b)):Nat):Int)]):=by
  rw [←add_fit a b]
  have q1:=sm_prod ha hb
  have q2:=sm_prod hb ha
  have q3:=sm_den ha hb
  have e1:B64 (a.num * (b.den:Int)+b.num * (a.den:Int)):=by constructor<;>omega
  have e2:B64 ((a.den:Int) * (b.den:Int)):=by constructor<;>omega
  have e3:(a.den:Int) * (b.den:Int)≠0:=by omega
  refine CallW_in (tvs:=[.ptr 0 0 0,.v (.agg [.int .i64 (Rat.num (a)),.int .i64 ((Rat.den (a):Nat):Int)]),.v (.agg [.int .i64 (Rat.num (b)),.int .i64 ((Rat.den (b):Nat):Int)])]) Tryz.func81 rfl Tryz.ntmps81 Tryz.results81 (by kernel_rfl) (by simp) (by simp [flatL,V.flat]) rfl fun m Q hQ=>?_
  simp only [List.map_cons,List.map_nil,TV.inst]
  (have FX:=And.intro q1 (And.intro q2 q3);repeat'(first|(refine sx ?_ ?_<;>intro h<;>first|(exfalso;omega)|skip)|(refine g_op ?_;refine g_call ?_;refine g_args ?_;(first|refine s_fnW (fit_w _ _ _ _ ?_ ?_ ?_) ?_)<;>try first|omega|assumption)|refine ny ?_|refine WA_block ?_))
  all_goals(refine r_esW hQ ?_ ?_<;>try with_reducible rfl)

theorem sub_w(k:Nat)(a b:Rat)(g:Bool)(ha:sm a)(hb:sm b):CallW Tryz.prog 83 [.ptr k 0 0,.agg [.int .i64 (Rat.num (a)),.int .i64 ((Rat.den (a):Nat):Int)],.agg [.int .i64 (Rat.num (b)),.int .i64 ((Rat.den (b):Nat):Int)]] k (.cells .own 96 1 [[.bool (g)]]) (.cells .own 96 1 [[.bool (g || !smB (a - b))]]) (.agg [.int .i64 (Rat.num (cut (a - b))),.int .i64 ((Rat.den (cut (a - b)):Nat):Int)]):=by
  rw [←sub_fit a b]
  have q1:=sm_prod ha hb
  have q2:=sm_prod hb ha
  have q3:=sm_den ha hb
  have e1:B64 (a.num * (b.den:Int) - b.num * (a.den:Int)):=by constructor<;>omega
  have e2:B64 ((a.den:Int) * (b.den:Int)):=by constructor<;>omega
  have e3:(a.den:Int) * (b.den:Int)≠0:=by omega
  refine CallW_in (tvs:=[.ptr 0 0 0,.v (.agg [.int .i64 (Rat.num (a)),.int .i64 ((Rat.den (a):Nat):Int)]),.v (.agg [.int .i64 (Rat.num (b)),.int .i64 ((Rat.den (b):Nat):Int)])]) Tryz.func83 rfl Tryz.ntmps83 Tryz.results83 (by kernel_rfl) (by simp) (by simp [flatL,V.flat]) rfl fun m Q hQ=>?_
  simp only [List.map_cons,List.map_nil,TV.inst]
  (have FX:=And.intro q1 (And.intro q2 q3);repeat'(first|(refine sx ?_ ?_<;>intro h<;>first|(exfalso;omega)|skip)|(refine g_op ?_;refine g_call ?_;refine g_args ?_;(first|refine s_fnW (fit_w _ _ _ _ ?_ ?_ ?_) ?_)<;>try first|omega|assumption)|refine ny ?_|refine WA_block ?_))
  all_goals(refine r_esW hQ ?_ ?_<;>try with_reducible rfl)

theorem mul_w(k:Nat)(a b:Rat)(g:Bool)(ha:sm a)(hb:sm b):CallW Tryz.prog 82 [.ptr k 0 0,.agg [.int .i64 (Rat.num (a)),.int .i64 ((Rat.den (a):Nat):Int)],.agg [.int .i64 (Rat.num (b)),.int .i64 ((Rat.den (b):Nat):Int)]] k (.cells .own 96 1 [[.bool (g)]]) (.cells .own 96 1 [[.bool (g || !smB (a * b))]]) (.agg [.int .i64 (Rat.num (cut (a * b))),.int .i64 ((Rat.den (cut (a * b)):Nat):Int)]):=by
  rw [←mul_fit a b]
  have q1:=sm_mul ⟨ha.1,ha.2.1⟩ ⟨hb.1,hb.2.1⟩
  have q3:=sm_den ha hb
  have e1:B64 (a.num * b.num):=by constructor<;>omega
  have e2:B64 ((a.den:Int) * (b.den:Int)):=by constructor<;>omega
  have e3:(a.den:Int) * (b.den:Int)≠0:=by omega
  refine CallW_in (tvs:=[.ptr 0 0 0,.v (.agg [.int .i64 (Rat.num (a)),.int .i64 ((Rat.den (a):Nat):Int)]),.v (.agg [.int .i64 (Rat.num (b)),.int .i64 ((Rat.den (b):Nat):Int)])]) Tryz.func82 rfl Tryz.ntmps82 Tryz.results82 (by kernel_rfl) (by simp) (by simp [flatL,V.flat]) rfl fun m Q hQ=>?_
  simp only [List.map_cons,List.map_nil,TV.inst]
  (have FX:=And.intro q1 q3;repeat'(first|(refine sx ?_ ?_<;>intro h<;>first|(exfalso;omega)|skip)|(refine g_op ?_;refine g_call ?_;refine g_args ?_;(first|refine s_fnW (fit_w _ _ _ _ ?_ ?_ ?_) ?_)<;>try first|omega|assumption)|refine ny ?_|refine WA_block ?_))
  all_goals(refine r_esW hQ ?_ ?_<;>try with_reducible rfl)

theorem quo_w(k:Nat)(a b:Rat)(g:Bool)(ha:sm a)(hb:sm b)(h0:b≠0):CallW Tryz.prog 108 [.ptr k 0 0,.agg [.int .i64 (Rat.num (a)),.int .i64 ((Rat.den (a):Nat):Int)],.agg [.int .i64 (Rat.num (b)),.int .i64 ((Rat.den (b):Nat):Int)]] k (.cells .own 96 1 [[.bool (g)]]) (.cells .own 96 1 [[.bool (g || !smB (a / b))]]) (.agg [.int .i64 (Rat.num (cut (a / b))),.int .i64 ((Rat.den (cut (a / b)):Nat):Int)]):=by
  rw [←div_fit a b]
  have q1:=sm_prod ha hb
  have hb0:=num_ne h0
  obtain⟨q3,e3⟩:=sm_dn ha hb hb0
  have e1:B64 (a.num * (b.den:Int)):=by constructor<;>omega
  have e2:B64 ((a.den:Int) * b.num):=by constructor<;>omega
  refine CallW_in (tvs:=[.ptr 0 0 0,.v (.agg [.int .i64 (Rat.num (a)),.int .i64 ((Rat.den (a):Nat):Int)]),.v (.agg [.int .i64 (Rat.num (b)),.int .i64 ((Rat.den (b):Nat):Int)])]) Tryz.func108 rfl Tryz.ntmps108 Tryz.results108 (by kernel_rfl) (by simp) (by simp [flatL,V.flat]) rfl fun m Q hQ=>?_
  simp only [List.map_cons,List.map_nil,TV.inst]
  (have FX:=And.intro q1 (And.intro q3 hb0);repeat'(first|(refine sx ?_ ?_<;>intro h<;>first|(exfalso;omega)|skip)|(refine g_op ?_;refine g_call ?_;refine g_args ?_;(first|refine s_fnW (fit_w _ _ _ _ ?_ ?_ ?_) ?_)<;>try first|omega|assumption)|refine ny ?_|refine WA_block ?_))
  all_goals first|contradiction|(refine r_esW hQ ?_ ?_<;>try with_reducible rfl)
theorem quo0_w(k:Nat)(a:Rat)(g:Bool):CallW Tryz.prog 108 [.ptr k 0 0,.agg [.int .i64 (Rat.num (a)),.int .i64 ((Rat.den (a):Nat):Int)],.agg [.int .i64 0,.int .i64 1]] k (.cells .own 96 1 [[.bool (g)]]) (.cells .own 96 1 [[.bool (true)]]) (.agg [.int .i64 0,.int .i64 1]):=by
  refine CallW_in (tvs:=[.ptr 0 0 0,.v (.agg [.int .i64 (Rat.num (a)),.int .i64 ((Rat.den (a):Nat):Int)]),.v (.agg [.int .i64 0,.int .i64 1])]) Tryz.func108 rfl Tryz.ntmps108 Tryz.results108 (by kernel_rfl) (by simp) (by simp [flatL,V.flat]) rfl fun m Q hQ=>?_
  simp only [List.map_cons,List.map_nil,TV.inst]
  (repeat'(first|(refine sx ?_ ?_<;>intro h<;>first|(exfalso;omega)|skip)|(refine g_op ?_;refine g_call ?_;refine g_args ?_;(first|refine s_fn (awhole_c _ _) ?_)<;>try first|omega|assumption)|refine ny ?_|refine WA_block ?_))
  all_goals(refine r_esW hQ ?_ ?_<;>try with_reducible rfl)
def quoQ(a b:Rat):Rat:=if b=0 then 0 else cut (a / b)
def quoB(a b:Rat):Bool:=if b=0 then true else !smB (a / b)
theorem quoQ_w(k:Nat)(a b:Rat)(g:Bool)(ha:sm a)(hb:sm b):CallW Tryz.prog 108 [.ptr k 0 0,.agg [.int .i64 (Rat.num (a)),.int .i64 ((Rat.den (a):Nat):Int)],.agg [.int .i64 (Rat.num (b)),.int .i64 ((Rat.den (b):Nat):Int)]] k (.cells .own 96 1 [[.bool (g)]]) (.cells .own 96 1 [[.bool (g || quoB a b)]]) (.agg [.int .i64 (Rat.num (quoQ a b)),.int .i64 ((Rat.den (quoQ a b):Nat):Int)]):=by
  by_cases h:b=0
  · subst h
    have h1:quoB a 0=true:=if_pos rfl
    have h2:quoQ a 0=0:=if_pos rfl
    rw [h1,h2,Bool.or_true]
    exact quo0_w k a g
  · have h1:quoB a b=!smB (a / b):=if_neg h
    have h2:quoQ a b=cut (a / b):=if_neg h
    rw [h1,h2]
    exact quo_w k a b g ha hb h
end Go.Proofs.YtomkbpoicjabfaaGreatDoor
namespace Go.Proofs.YtomkbpoicjabfaaGreatDoor
open Go.RowKit
attribute [local irreducible] WA WOs WDs WAn qThen qBlock tput
set_option maxHeartbeats 1000000
set_option maxRecDepth 20000
set_option linter.unusedSimpArgs false
set_option linter.unusedVariables false
attribute [local irreducible] smB cut
theorem smB_no{q:Rat}(h:¬ sm q):smB q=false:=by
  cases hb:smB q with
  |false=>rfl
  |true=>exact(h (smB_iff.1 hb)).elim
def ptV(p:Pt):List V:=[.int .i64 p.1.num,.int .i64 (p.1.den:Int),.int .i64 p.2.num,.int .i64 (p.2.den:Int)]
/-- the slope, and whether it is large, as the program finds them -/
def slP(a b:Pt):Rat:=quoQ (cut (b.2 - a.2)) (cut (b.1 - a.1))
def slG(g:Bool)(a b:Pt):Bool:=((g || !smB (b.2 - a.2)) || !smB (b.1 - a.1)) || quoB (cut (b.2 - a.2)) (cut (b.1 - a.1))
theorem sm_quoQ(a b:Rat):sm (quoQ a b):=by
  unfold quoQ;split
  · exact sm_zero
  · exact sm_cut _
theorem sm_slP(a b:Pt):sm (slP a b):=sm_quoQ _ _
theorem sub_ne{a b:Rat}(h:a<b):b - a≠0:=by
  intro e
  have:b=a:=by grind
  rw [this] at h
  exact Rat.lt_irrefl h
theorem slP_ok{a b:Pt}(h:slOk a b)(hlt:a.1<b.1)(g:Bool):slP a b=sl a b∧slG g a b=g:=by
  obtain⟨h1,h2,h3⟩:=h
  have hne:=sub_ne hlt
  unfold slP slG quoQ quoB
  rw [cut_sm h2,cut_sm h1,if_neg hne,if_neg hne,smB_of h1,smB_of h2]
  unfold sl at h3
  rw [cut_sm h3,smB_of h3]
  exact⟨rfl,by simp⟩
theorem slG_iff{a b:Pt}(hlt:a.1<b.1):slG false a b=false↔slOk a b:=by
  refine⟨fun h=>?_,fun h=>(slP_ok h hlt false).2⟩
  unfold slG quoB at h
  simp only [Bool.or_eq_false_iff,Bool.not_eq_false',Bool.false_or] at h
  obtain⟨⟨h1,h2⟩,h3⟩:=h
  have s1:=smB_iff.1 h1
  have s2:=smB_iff.1 h2
  rw [cut_sm s1,cut_sm s2,if_neg (sub_ne hlt)] at h3
  have h4:smB ((b.2 - a.2) / (b.1 - a.1))=true:=by simpa using h3
  exact⟨s1,s2,smB_iff.1 h4⟩
theorem slG_true(a b:Pt):slG true a b=true:=by unfold slG;simp
theorem uC4_84_1{N:Nat}{l:List Oper}{t:List (Nat×V)}{m:Mem}{Q:Exit→List (Nat×V)→Mem→Prop}(h:RgT Tryz.prog N l t m Q 96 (fun i=>if i==14 then .w else if i==6 || i==12 || i==13 then .f else if i==3 || i==5 || i==9 || i==11 then .q else .p) [.one 0,.one 1,.one 2,.one 3,.one 4,.one 5,.one 7,.one 8,.one 9,.one 10,.one 11,.one 6,.one 12,.one 13,.one 14]):WA Tryz.prog N (.region 1 l.toArray true) t m Q:=d_rgT h
theorem slope_w(k:Nat)(a b:Pt)(g:Bool)(a1:sm a.1)(a2:sm a.2)(b1:sm b.1)(b2:sm b.2):CallW Tryz.prog 84 [.ptr k 0 0,.agg (ptV a),.agg (ptV b)] k (.cells .own 96 1 [[.bool (g)]]) (.cells .own 96 1 [[.bool (slG g a b)]]) (.agg [.int .i64 (Rat.num (slP a b)),.int .i64 ((Rat.den (slP a b):Nat):Int)]):=by
  obtain⟨x,y⟩:=a
  obtain⟨u,v⟩:=b
  dsimp only at *
  unfold ptV slP slG
  dsimp only
  refine CallW_in (tvs:=[.ptr 0 0 0,.v (.agg [.int .i64 x.num,.int .i64 (x.den:Int),.int .i64 y.num,.int .i64 (y.den:Int)]),.v (.agg [.int .i64 u.num,.int .i64 (u.den:Int),.int .i64 v.num,.int .i64 (v.den:Int)])]) Tryz.func84 rfl Tryz.ntmps84 Tryz.results84 (by kernel_rfl) (by simp) (by simp [flatL,V.flat]) rfl fun m Q hQ=>?_
  simp only [List.map_cons,List.map_nil,TV.inst]
  (repeat'(first|(refine sx ?_ ?_<;>intro h<;>first|(exfalso;omega)|skip)|(refine g_op ?_;refine g_call ?_;refine g_args ?_;(first|refine s_fnW (sub_w _ _ _ _ ?_ ?_) ?_|refine s_fnW (quoQ_w _ _ _ _ (sm_cut _) (sm_cut _)) ?_)<;>try first|omega|assumption)|refine ny ?_|refine WA_block ?_|(refine uC4_84_1 ?_;refine⟨by kernel_rfl,?_⟩)|((first|refine grp_w (sub_w _ _ _ _ ?_ ?_) ?_|refine grp_w (quoQ_w _ _ _ _ (sm_cut _) (sm_cut _)) ?_)<;>try first|omega|assumption)|(refine g_d ?_;refine d_args ?_;(first|refine d_fnW (sub_w _ _ _ _ ?_ ?_) ?_|refine d_fnW (quoQ_w _ _ _ _ (sm_cut _) (sm_cut _)) ?_)<;>try first|omega|assumption)))
  all_goals(refine r_esW hQ ?_ ?_<;>try with_reducible rfl)
end Go.Proofs.YtomkbpoicjabfaaGreatDoor
