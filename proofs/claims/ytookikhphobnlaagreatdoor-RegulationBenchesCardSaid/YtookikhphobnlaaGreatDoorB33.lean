/- contract: the chapter's bench -/
import Derived.Test.YtookikhphobnlaaGreatDoorGAQ
import Derived.Test.YtookikhphobnlaaGreatDoorB17
set_option linter.unusedSimpArgs false
set_option linter.unusedVariables false
namespace Go.Proofs.YtookikhphobnlaaGreatDoor
open Go.RowKit
attribute [local irreducible] WA WOs WDs WAn qThen qBlock tput
set_option maxHeartbeats 1000000
set_option maxRecDepth 20000
set_option linter.unusedSimpArgs false
set_option linter.unusedVariables false
def exB:BnR:=⟨[⟨[108,101,116,45,111,102,102],30,10,20⟩,⟨[100,114,111,112],5,0,8⟩,⟨[99,97,116,99,104],0, -5,5⟩],
  [⟨[98,117,116,116,111,110],[⟨[108,101,116,45,111,102,102], -4⟩,⟨[100,114,111,112],1⟩], -10,10,2,[]⟩,
   ⟨[115,99,114,101,119],[⟨[100,114,111,112], -2⟩], -3,3,1,[[98,117,116,116,111,110]]⟩,
   ⟨[99,104,101,99,107],[⟨[99,97,116,99,104],5⟩],0,4,4,[]⟩]⟩
def WkLL:List (List V)→List (List V)→Prop
  |[],[]=>True
  |a::r,b::r'=>(WkL a b∧b.all V.one=true)∧WkLL r r'
  |_,_=>False
theorem WkLL_get:∀ {l l':List (List V)},WkLL l l'→l'.length=l.length∧∀ (i:Nat) e',l'[i]?=some e'→∃ e,l[i]?=some e∧WkL e e'∧e'.all V.one=true
  |[],[],_=>⟨rfl,fun i v h=>by simp at h⟩
  | a::r,b::r',h=>by
    obtain⟨h1,h2⟩:=WkLL_get h.2
    refine⟨by simp [h1],fun i v' hv=>?_⟩
    cases i with
    |zero=>simp at hv;subst hv;exact⟨a,rfl,h.1⟩
    |succ i=>exact h2 i v' (by simpa using hv)
  |[],_::_,h=>h.elim
  |_::_,[],h=>h.elim
theorem wk_lst{es es':List (List V)}(h:WkLL es es'):WkV (.lst es) (.lst es'):=by
  obtain⟨h1,h2⟩:=WkLL_get h
  intro w ρ B x hr
  cases hr with
  | lnil a c hc ha=>
    have:es'=[]:=List.eq_nil_of_length_eq_zero (by simpa using h1)
    subst this
    exact .lnil a c hc ha
  | lst _ b off c s Y hb hB hc hm hs hY hV hO=>
    rw [←h1]
    refine .lst es' b off c s Y hb hB (by omega) hm (fun e' he=>?_) (fun i j e' v' e1 e2=>?_) (fun i j e' v' e1 e2=>?_) (fun i j e' v' e1 e2=>?_)
    · obtain⟨i,hi,rfl⟩:=List.getElem_of_mem he
      obtain⟨e,g1,g2,_⟩:=h2 i _ (List.getElem?_eq_getElem hi)
      rw [(WkL_get g2).1]
      exact hs e (List.mem_of_getElem? g1)
    · obtain⟨e,g1,g2,_⟩:=h2 i e' e1
      obtain⟨v,g3,_⟩:=(WkL_get g2).2 j v' e2
      exact hY i j e v g1 g3
    · obtain⟨e,g1,g2,_⟩:=h2 i e' e1
      obtain⟨v,g3,g4⟩:=(WkL_get g2).2 j v' e2
      exact g4 _ _ _ _ (hV i j e v g1 g3)
    · obtain⟨e,g1,g2,g5⟩:=h2 i e' e1
      exact List.all_eq_true.1 g5 v' (List.mem_of_getElem? e2)
theorem fin_agp{m0 D X B:Mem}{l l2:List (List V)}{R:V→Option Mem→Prop}(hB:B=lend m0++D)(hl:plainLL l=true)(hl2:plainLL l2=true)(h:R (.agg [.lst l,.lst l2]) none):
    Fin m0 R (.agg [.lst l,.lst l2]) (B++X):=by
  subst hB
  refine .inr ⟨D++X,_,by simp,?_,h⟩
  show(frzs (frz _ _ 3) _).map V.agg=_
  rw [frzs_cons (frz_ls hl) (frzs_cons (frz_ls hl2) rfl)]
  rfl

theorem lbench_c(m:Mem):Gives Tryz.prog 24 [] m (.agg (bnV exB)):=by
  suffices key:CallA Tryz.prog 24 [] m (fun v mo=>mo=none∧WkV v (.agg (bnV exB))) from Gives_of key fun v mo h=>h
  refine CallA_in Tryz.func24 rfl Tryz.ntmps24 Tryz.results24 (by kernel_rfl) (by simp) fun Q hQ=>?_
  refine WA_stop fun K0 hK0=>?_
  (repeat'(first|(refine sx ?_ ?_<;>intro h<;>first|(exfalso;omega)|skip)|refine ny ?_|refine WA_block ?_))
  refine hK0 _ _ ?_
  refine WA_stop fun K1 hK1=>?_
  (repeat'(first|(refine sx ?_ ?_<;>intro h<;>first|(exfalso;omega)|skip)|refine ny ?_|refine WA_block ?_))
  refine hK1 _ _ ?_
  clear hK0 hK1
  have hne:∀ (a c d:Nat),(a+c=a+d)=(c=d):=fun a c d=>by simp
  refine WA_fzM (j:=2) rfl ?_
  simp only [List.map_cons,List.map_nil,frzV,frzC,List.set_cons_succ,List.set_cons_zero,argT,hne,false_and,and_false,if_false,true_and,Nat.le_refl,if_true,List.length_cons,List.length_nil,List.take_succ_cons,List.take_zero,List.take_nil,Nat.reduceAdd,Nat.reduceLeDiff,Nat.add_left_cancel_iff,Nat.reduceEqDiff]
  refine WA_fzM (j:=3) rfl ?_
  simp only [List.map_cons,List.map_nil,frzV,frzC,List.set_cons_succ,List.set_cons_zero,argT,hne,false_and,and_false,if_false,true_and,Nat.le_refl,if_true,List.length_cons,List.length_nil,List.take_succ_cons,List.take_zero,List.take_nil,Nat.reduceAdd,Nat.reduceLeDiff,Nat.add_left_cancel_iff,Nat.reduceEqDiff]
  refine WA_fzM (j:=4) rfl ?_
  simp only [List.map_cons,List.map_nil,frzV,frzC,List.set_cons_succ,List.set_cons_zero,argT,hne,false_and,and_false,if_false,true_and,Nat.le_refl,if_true,List.length_cons,List.length_nil,List.take_succ_cons,List.take_zero,List.take_nil,Nat.reduceAdd,Nat.reduceLeDiff,Nat.add_left_cancel_iff,Nat.reduceEqDiff]
  refine WA_fzM (j:=5) rfl ?_
  simp only [List.map_cons,List.map_nil,frzV,frzC,List.set_cons_succ,List.set_cons_zero,argT,hne,false_and,and_false,if_false,true_and,Nat.le_refl,if_true,List.length_cons,List.length_nil,List.take_succ_cons,List.take_zero,List.take_nil,Nat.reduceAdd,Nat.reduceLeDiff,Nat.add_left_cancel_iff,Nat.reduceEqDiff]
  refine WA_fzM (j:=6) rfl ?_
  simp only [List.map_cons,List.map_nil,frzV,frzC,List.set_cons_succ,List.set_cons_zero,argT,hne,false_and,and_false,if_false,true_and,Nat.le_refl,if_true,List.length_cons,List.length_nil,List.take_succ_cons,List.take_zero,List.take_nil,Nat.reduceAdd,Nat.reduceLeDiff,Nat.add_left_cancel_iff,Nat.reduceEqDiff]
  refine WA_fzM (j:=1) rfl ?_
  simp only [List.map_cons,List.map_nil,frzV,frzC,List.set_cons_succ,List.set_cons_zero,argT,hne,false_and,and_false,if_false,true_and,Nat.le_refl,if_true,List.length_cons,List.length_nil,List.take_succ_cons,List.take_zero,List.take_nil,Nat.reduceAdd,Nat.reduceLeDiff,Nat.add_left_cancel_iff,Nat.reduceEqDiff]
  (repeat'(first|(refine sx ?_ ?_<;>intro h<;>first|(exfalso;omega)|skip)|refine ny ?_|refine WA_block ?_))
  refine r_esA hQ (fin_agp (D:=[]) (by simp) ?_ ?_ ⟨rfl,?_⟩)
  · rfl
  · rfl
  exact wk_agg ⟨WkV.refl _,wk_lst ⟨⟨⟨WkV.refl _,WkV.refl _,WkV.refl _,WkV.refl _,WkV.refl _,wk_nil,trivial⟩,rfl⟩,⟨⟨WkV.refl _,WkV.refl _,WkV.refl _,WkV.refl _,WkV.refl _,WkV.refl _,trivial⟩,rfl⟩,⟨⟨WkV.refl _,WkV.refl _,WkV.refl _,WkV.refl _,WkV.refl _,wk_nil,trivial⟩,rfl⟩,trivial⟩,trivial⟩
theorem exB_bl:Bl exB:=by
  refine⟨by decide,by decide,by decide,by decide,by decide,by decide⟩
theorem exB_ok:bnErr exB=0:=by decide +kernel
theorem exB_st:bsErr exB [3,0,0]=0:=by decide +kernel
theorem exB_va:valsP exB [3,0,0] exB.ms.length=[18,8,0]:=by decide +kernel
theorem exB_tr:¬ 100000<trK exB.ads exB.ads.length:=by decide +kernel
theorem exB_fw:(fwB exB).f=true∧(fwB exB).l=[3,0,0]∧(fwB exB).p=2:=by decide +kernel
theorem exB_se:stI exB 5=some 2∧stO exB 2=[[2,1,0],[4,2,0]]:=by decide +kernel
theorem ex_val(m:Mem):Gives Tryz.prog 23 [.agg (bnV exB),.lst (nsV [3,0,0])] m (.tup [.lst (nsV [18,8,0]),.int .i64 0]):=by
  have h:=gValues_ok exB exB_bl [3,0,0] exB_st m
  rw [exB_va] at h
  exact h
theorem ex_few(m:Mem):Gives Tryz.prog 25 [.agg (bnV exB)] m (.tup [.lst (nsV [3,0,0]),.int .i64 2,.int .i64 0]):=by
  have h:=gfewest_ok exB exB_bl exB_ok m
  unfold fwV at h
  obtain⟨h1,h2,h3⟩:=exB_fw
  rw [if_neg exB_tr,if_pos h1,h2,h3] at h
  exact h
theorem ex_set(m:Mem):Gives Tryz.prog 26 [.agg (bnV exB),.int .i64 5] m (.tup [.lst (rwV [[2,1,0],[4,2,0]]),.int .i64 0]):=by
  have h:=gSettle_ok exB exB_bl exB_ok 5 (by decide) m
  unfold setV at h
  obtain⟨h1,h2⟩:=exB_se
  rw [h1] at h
  dsimp only at h
  rw [h2] at h
  exact h
theorem bints_s(l k:List Int)(n:Nat)(hn:n=k.length)(hl:l.length≤100000)(M:Mem)(kk:Nat)(st:Sta)(hk:M[kk]?=some (.cells st 3 1 (nsV k))):Gives Tryz.prog 20 [.lst (nsV l),.sl kk n] M (.bool (decide (l=k))):=by
  subst hn
  refine Gives_fz hk (by simp [V.flat]) ?_
  have e:([.lst (nsV l),.sl kk k.length]:List V).map (frzV kk (nsV k))=[.lst (nsV l),.lst (nsV k)]:=by
    simp only [List.map_cons,List.map_nil,fz_nsV]
    rfl
  rw [e]
  exact bints_c l k hl _
theorem bints_e(l:List Int)(n:Nat)(hn:n=l.length)(hl:l.length≤100000)(M:Mem)(kk:Nat)(st:Sta)(hk:M[kk]?=some (.cells st 3 1 (nsV l))):Gives Tryz.prog 20 [.lst (nsV l),.sl kk n] M (.bool true):=by
  have h:=bints_s l l n hn hl M kk st hk
  rwa [decide_eq_true rfl] at h
theorem uB33_27_6{N:Nat}{l:List Oper}{t:List (Nat×V)}{m:Mem}{Q:Exit→List (Nat×V)→Mem→Prop}(h:RgN Tryz.prog N l t m Q (fun i=>if i==3 || i==7 || i==8 || i==9 then .q else .p) [.one 0,.one 1,.one 2,.one 3,.one 4,.one 5,.one 6,.one 7,.one 8,.one 9]):WA Tryz.prog N (.region 6 l.toArray true) t m Q:=d_rgN h
theorem blists_two(l1 l2:List Int)(h1:l1.length≤100000)(h2:l2.length≤100000)(M:Mem)(k1 k2 k3:Nat)(s1 s2 s3:Sta)(h3:M[k1]?=some (.cells s1 3 1 (nsV l1)))(h4:M[k2]?=some (.cells s2 3 1 (nsV l2)))(h5:M[k3]?=some (.cells s3 43 1 [[.sl k1 l1.length],[.sl k2 l2.length]])):Gives Tryz.prog 27 [.lst (rwV [l1,l2]),.sl k3 2] M (.bool true):=by
  have g3:=lend_get2 h3
  have g4:=lend_get2 h4
  have g5:=lend_get2 h5
  have e:rwV [l1,l2]=[[V.lst (nsV l1)],[V.lst (nsV l2)]]:=rfl
  rw [e]
  refine Gives_in Tryz.func27 rfl Tryz.ntmps27 Tryz.results27 (by kernel_rfl) (by simp) rfl fun Q hQ=>?_
  (have FX:=g5;repeat'(first|(refine sx ?_ ?_<;>intro h<;>first|(exfalso;omega)|skip)|(refine g_op ?_;refine g_call ?_;refine g_args ?_;(first|refine s_fn (bints_s l1 l1 _ rfl h1 _ k1 _ (g3 _)) ?_|refine s_fn (bints_s l2 l2 _ rfl h2 _ k2 _ (g4 _)) ?_)<;>try first|omega|assumption)|refine ny ?_|refine WA_block ?_|(refine uB33_27_6 ?_;refine⟨by kernel_rfl,?_⟩)|((first|refine grp_cons (fun _=>bints_s l1 l1 _ rfl h1 _ k1 _ (g3 _)) ?_|refine grp_cons (fun _=>bints_s l2 l2 _ rfl h2 _ k2 _ (g4 _)) ?_)<;>try first|omega|assumption)|(refine g_d ?_;refine d_args ?_;(first|refine d_fn (bints_s l1 l1 _ rfl h1 _ k1 _ (g3 _)) ?_|refine d_fn (bints_s l2 l2 _ rfl h2 _ k2 _ (g4 _)) ?_|refine d_fnQ (fun _=>bints_s l1 l1 _ rfl h1 _ k1 _ (g3 _)) ?_|refine d_fnQ (fun _=>bints_s l2 l2 _ rfl h2 _ k2 _ (g4 _)) ?_)<;>try first|omega|assumption)|(refine g_d ?_;(first|refine d_fnY (bints_s l1 l1 _ rfl h1 _ k1 _ (g3 _)) ?_|refine d_fnY (bints_s l2 l2 _ rfl h2 _ k2 _ (g4 _)) ?_)<;>try first|omega|assumption)))
  refine WA_rounds 3 ?_
  (have FX:=g5;repeat'(first|(refine sx ?_ ?_<;>intro h<;>first|(exfalso;omega)|skip)|(refine g_op ?_;refine g_call ?_;refine g_args ?_;(first|refine s_fn (bints_s l1 l1 _ rfl h1 _ k1 _ (g3 _)) ?_|refine s_fn (bints_s l2 l2 _ rfl h2 _ k2 _ (g4 _)) ?_)<;>try first|omega|assumption)|refine ny ?_|refine WA_block ?_|(refine uB33_27_6 ?_;refine⟨by kernel_rfl,?_⟩)|((first|refine grp_cons (fun _=>bints_s l1 l1 _ rfl h1 _ k1 _ (g3 _)) ?_|refine grp_cons (fun _=>bints_s l2 l2 _ rfl h2 _ k2 _ (g4 _)) ?_)<;>try first|omega|assumption)|(refine g_d ?_;refine d_args ?_;(first|refine d_fn (bints_s l1 l1 _ rfl h1 _ k1 _ (g3 _)) ?_|refine d_fn (bints_s l2 l2 _ rfl h2 _ k2 _ (g4 _)) ?_|refine d_fnQ (fun _=>bints_s l1 l1 _ rfl h1 _ k1 _ (g3 _)) ?_|refine d_fnQ (fun _=>bints_s l2 l2 _ rfl h2 _ k2 _ (g4 _)) ?_)<;>try first|omega|assumption)|(refine g_d ?_;(first|refine d_fnY (bints_s l1 l1 _ rfl h1 _ k1 _ (g3 _)) ?_|refine d_fnY (bints_s l2 l2 _ rfl h2 _ k2 _ (g4 _)) ?_)<;>try first|omega|assumption)))
  all_goals(try(exfalso;first|omega|exact absurd rfl (by assumption)))
  all_goals((refine r_es hQ ?_;try with_reducible rfl))

theorem lawake_c(m:Mem):Gives Tryz.prog 5 [] m (.bool true):=by
  have hva:=exB_ok
  refine Gives_in Tryz.func5 rfl Tryz.ntmps5 Tryz.results5 (by kernel_rfl) (by simp) rfl fun Q hQ=>?_
  (repeat'(first|(refine sx ?_ ?_<;>intro h<;>first|(exfalso;omega)|skip)|(refine g_op ?_;refine g_call ?_;refine g_args ?_;(first|refine s_fn (lbench_c _) ?_|refine s_fn (hva _) ?_|refine s_fn (ex_few _) ?_|refine s_fn (ex_set _) ?_|refine s_fn (bints_e [18,8,0] 3 rfl (by decide) _ _ .own ?_) ?_|refine s_fn (bints_e [3,0,0] 3 rfl (by decide) _ _ .own ?_) ?_|refine s_fn (blists_two [2,1,0] [4,2,0] (by decide) (by decide) _ ((lend m).length+3) ((lend m).length+4) ((lend m).length+5) .own .own .own ?_ ?_ ?_) ?_)<;>try first|omega|assumption)|refine ny ?_|refine WA_block ?_))
  refine g_op ?_;refine g_call ?_;refine g_args ?_;refine s_fzE (B:=lend m) (n:=3) (es:=nsV [3,0,0]) 0 1 (ex_val _) ?_ (hn:=rfl)
  (repeat'(first|(refine sx ?_ ?_<;>intro h<;>first|(exfalso;omega)|skip)|(refine g_op ?_;refine g_call ?_;refine g_args ?_;(first|refine s_fn (lbench_c _) ?_|refine s_fn (hva _) ?_|refine s_fn (ex_few _) ?_|refine s_fn (ex_set _) ?_|refine s_fn (bints_e [18,8,0] 3 rfl (by decide) _ _ .own ?_) ?_|refine s_fn (bints_e [3,0,0] 3 rfl (by decide) _ _ .own ?_) ?_|refine s_fn (blists_two [2,1,0] [4,2,0] (by decide) (by decide) _ ((lend m).length+3) ((lend m).length+4) ((lend m).length+5) .own .own .own ?_ ?_ ?_) ?_)<;>try first|omega|assumption)|refine ny ?_|refine WA_block ?_))
  all_goals try(simp [nsV];done)
  all_goals(refine r_es hQ ?_;try with_reducible rfl)
end Go.Proofs.YtookikhphobnlaaGreatDoor
