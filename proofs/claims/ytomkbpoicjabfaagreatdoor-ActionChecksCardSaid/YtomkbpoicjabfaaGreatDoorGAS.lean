import Derived.Test.YtomkbpoicjabfaaGreatDoorC30
import Derived.Test.YtomkbpoicjabfaaGreatDoorGAQ
import Derived.Test.YtomkbpoicjabfaaGreatDoorGAJ
set_option linter.unusedSimpArgs false
set_option linter.unusedVariables false
/- contracts: the order of events, and what has happened -/
namespace Go.Proofs.YtomkbpoicjabfaaGreatDoor
open Go.RowKit
attribute [local irreducible] WA WOs WDs WAn qThen qBlock tput
set_option maxHeartbeats 1000000
set_option maxRecDepth 20000
set_option linter.unusedSimpArgs false
set_option linter.unusedVariables false
attribute [local irreducible] smB cut sm
def txV(o:Nms):List (List V):=o.map fun s=>[V.str s]
theorem txV_length{o:Nms}:(txV o).length=o.length:=by simp [txV]
theorem txV_plain(o:Nms):plainLL (txV o)=true:=by
  induction o with
  |nil=>rfl
  |cons x xs ih=>simp only [txV,List.map_cons,plainLL,plainL,V.plain,Bool.true_and] at ih ⊢;exact ih
def txSt(k:Nat):Nms→TV
  |[]=> .v .nilsl
  |p::r=> .sl k (r.length+1)
def txE:Nms→List TB
  |[]=>[]
  |p::r=>[.cells .own 9 1 ((txV (p::r)).map (List.map TV.v))]
def orE(a:ActR)(o:Nms):List TB:=actT a::txE o
def orS(l:List Hp)(o:Nms)(i:Nat):List TV:=[.ptr 0 0 0,.v (.int .i64 0),txSt 1 o,.v (.lst (hpsV l)),.v (.int .i64 l.length),.v (.int .i64 i)]
theorem orE_ok{a:ActR}{o:Nms}:(orE a o).all (TB.ok (orE a o).length)=true:=by
  unfold orE actT
  cases o with
  |nil=>simp [TB.ok,TV.okT,txE]
  |cons p r=>simp only [txE,List.all_cons,TB.ok,TV.okT,List.all_nil,Bool.and_true,Bool.and_self,tv_ok]
theorem orS_ok{a:ActR}{l:List Hp}{o:Nms}{i:Nat}:(orS l o i).all (TV.okT (orE a o).length)=true:=by
  unfold orE orS
  cases o with
  |nil=>simp [TV.okT,txE,txSt]
  |cons p r=>simp [TV.okT,txE,txSt]
theorem hapN_succ{a:ActR}{l:List Hp}{i:Nat}(h:i<l.length):hapN a (l.take (i+1))=hapN a (l.take i)++[(a.evs.getD (l.getD i hp0).1 e0).name]:=by
  rw [List.take_succ_eq_append_getElem h]
  unfold hapN
  rw [List.map_append]
  have:l.getD i hp0=l[i]:=by rw [List.getD_eq_getElem?_getD,List.getElem?_eq_getElem h];rfl
  rw [this];rfl
theorem hapS_num{a:ActR}{l:List Hp}(h:hapS a=some l){i:Nat}(hi:i<l.length):(l.getD i hp0).1<a.evs.length:=by
  have hm:l.getD i hp0∈l:=by
    rw [List.getD_eq_getElem?_getD,List.getElem?_eq_getElem hi]
    exact List.getElem_mem _
  exact((hapS_mem h (i:=(l.getD i hp0).1) (x:=(l.getD i hp0).2)).1 hm).1
def ordV(a:ActR):V:=if acErr a≠0 then .tup [.lst [],.int .i64 (acErr a)] else match hapS a with
  |some l=> .tup [.lst (txV (hapN a l)),.int .i64 0]
  |none=> .tup [.lst [],.int .i64 8]
theorem wk_tnil(u:V):WkV (.tup [.nilsl,u]) (.tup [.lst [],u]):=wk_tup ⟨wk_nil,WkV.refl _,trivial⟩
theorem wk_toV(es:List (List V))(u:V):WkV (.tup [oV es,u]) (.tup [.lst es,u]):=wk_tup ⟨wk_oV _,WkV.refl _,trivial⟩

theorem aorder_c (a:ActR) (ha:Lt a) (hev:acErr a=0→a.evs.length≤12) (m:Mem):Gives Tryz.prog 20 [.agg (actV a)] m (ordV a):=by
  have hlen:=evsV_length (l:=a.evs)
  unfold ordV
  by_cases h:acErr a=0
  · rw [if_neg (by omega)]
    have hhp:=fun m=>ahapp_c a ha h (hev h) m
    unfold hapV at hhp
    have hx0:=h
    cases hS:hapS a with
    | none=>
      rw [hS] at hhp
      dsimp only at hhp ⊢
      refine Gives_weak (v:= .tup [.nilsl,.int .i64 8]) ?_ (wk_tnil _)
      have hle:=hlen
      have hga:=hlen
      have hgb:=hlen
      have hll:=hlen
      have hlt:=hlen
      unfold actV at hhp ⊢
      refine Gives_in Tryz.func20 rfl Tryz.ntmps20 Tryz.results20 (by kernel_rfl) (by simp) rfl fun Q hQ=>?_
      (have FX:=And.intro hx0 (And.intro hlen (And.intro hle (And.intro hga (And.intro hgb (And.intro hll hlt)))));repeat'(first|(refine sx ?_ ?_<;>intro h<;>first|(exfalso;omega)|skip)|(refine g_op ?_;refine g_call ?_;refine g_args ?_;(first|refine s_fn (acheckaction_c a ha _) ?_|refine s_fn (hhp _) ?_)<;>try first|omega|assumption)|refine ny ?_|refine WA_block ?_))
      all_goals(try(exfalso;omega))
      refine WA_rounds 1 ?_
      (have FX:=And.intro hx0 (And.intro hlen (And.intro hle (And.intro hga (And.intro hgb (And.intro hll hlt)))));repeat'(first|(refine sx ?_ ?_<;>intro h<;>first|(exfalso;omega)|skip)|(refine g_op ?_;refine g_call ?_;refine g_args ?_;(first|refine s_fn (acheckaction_c a ha _) ?_|refine s_fn (hhp _) ?_)<;>try first|omega|assumption)|refine ny ?_|refine WA_block ?_))
      all_goals(try(exfalso;omega))
      all_goals(refine r_es hQ ?_;try with_reducible rfl)
    | some l=>
      rw [hS] at hhp
      dsimp only at hhp ⊢
      refine Gives_weak (v:= .tup [oV (txV (hapN a l)),.int .i64 0]) ?_ (wk_toV _ _)
      obtain⟨_,hln⟩:=hapS_srt hS
      have hle:=hpsV_length (l:=l)
      have hga:=hlen
      have hgb:=hlen
      have hll:=hlen
      have hlt:=hlen
      unfold actV at hhp ⊢
      refine CallA_in Tryz.func20 rfl Tryz.ntmps20 Tryz.results20 (by kernel_rfl) (by simp) fun Q hQ=>?_
      (have FX:=And.intro hx0 (And.intro hlen (And.intro hle (And.intro hga (And.intro hgb (And.intro hll hlt)))));repeat'(first|(refine sx ?_ ?_<;>intro h<;>first|(exfalso;omega)|skip)|(refine g_op ?_;refine g_call ?_;refine g_args ?_;(first|refine s_fn (acheckaction_c a ha _) ?_|refine s_fn (hhp _) ?_)<;>try first|omega|assumption)|refine ny ?_|refine WA_block ?_))
      all_goals(try(exfalso;omega))
      refine WA_whileJ (σ:=Nat) (L:=lend m) [1,6,7,20,21,22] (fun i=>orS l (hapN a (l.take i)) i) (fun i=>orE a (hapN a (l.take i))) (fun i=>i≤l.length) (fun i=>l.length - i) 0 [0] (Nat.zero_le _) ?_ rfl rfl (by decide) (by decide) (fun _ _=>orS_ok) (fun _ _=>orE_ok) ?_
      · simp only [orS,hapN,List.take_zero,txSt,List.map_cons,List.map_nil,TV.inst,List.getD_cons_zero,List.getD_cons_succ]
        exact tv_
      rintro i hi1 B ⟨D,hB⟩ K hK
      clear FX hga hgb hll hlt
      have hol:(hapN a (l.take i)).length=i:=by rw [hapN_len,List.length_take];omega
      rcases Nat.lt_or_ge i l.length with hi|hi
      · have hsu:=hapN_succ (a:=a) hi
        have hga:=hpsV_get hi
        have hgb:=evsV_get (hapS_num hS hi)
        have hnx:=hK (i+1)
        rw [hsu] at hnx
        have hny:=fun(_:Unit)=>hnx
        clear hnx hsu hK
        obtain⟨⟨pn,pq⟩,hp⟩:∃ p,l.getD i hp0=p:=⟨_,rfl⟩
        rw [hp] at hga hgb hny
        unfold hpV at hga
        unfold evV at hgb
        dsimp only at hga hgb hny
        generalize a.evs.getD pn e0=ev at *
        generalize hapN a (l.take i)=o at *
        cases o with
        | nil=>
          have hll:=hlen
          have hlt:=hlen
          simp only [orS,orE,actT,txSt,txE]
          simp only [List.map_cons,List.map_nil,TB.inst,TV.inst,tv_map,zipT,List.cons_append,List.nil_append,Nat.add_zero]
          (have FX:=And.intro hx0 (And.intro hlen (And.intro hle (And.intro hga (And.intro hgb (And.intro hll hlt)))));repeat'(first|(refine sx ?_ ?_<;>intro h<;>first|(exfalso;omega)|skip)|(refine g_op ?_;refine g_call ?_;refine g_args ?_;(first|refine s_fn (acheckaction_c a ha _) ?_|refine s_fn (hhp _) ?_)<;>try first|omega|assumption)|refine ny ?_|refine WA_block ?_))
          all_goals(try(exfalso;omega))
          all_goals((refine nextU_ hny (()) [0,3] (hi) (by omega) ?_ (ht:=?_);(focus (simp only [orE,actT,txE,List.map_cons,List.map_nil,TB.inst,TV.inst,tv_map,List.cons_append,List.nil_append];first|rfl|(simp [ptsV,ptV];done)|(simp [hpsV,hpV];done)|(simp [frsV,frV];done)|(simp [txV];done)|(simp [prtsV,prtV];done)));(simp only [orS,txSt,List.length_nil,Nat.zero_add,List.map_cons,List.map_nil,TV.inst,List.getD_cons_zero,List.getD_cons_succ];exact tv_)))
        | cons p r=>
          have hll:(txV (p::r)).length=r.length+1:=txV_length
          have hlt:(txV (p::r)).take (r.length+1)=txV (p::r):=by rw [List.take_of_length_le (by rw [hll];exact Nat.le_refl _)]
          simp only [List.length_cons] at hol
          simp only [orS,orE,actT,txSt,txE]
          simp only [List.map_cons,List.map_nil,TB.inst,TV.inst,tv_map,zipT,List.cons_append,List.nil_append,Nat.add_zero]
          (have FX:=And.intro hx0 (And.intro hlen (And.intro hle (And.intro hga (And.intro hgb (And.intro hll hlt)))));repeat'(first|(refine sx ?_ ?_<;>intro h<;>first|(exfalso;omega)|skip)|(refine g_op ?_;refine g_call ?_;refine g_args ?_;(first|refine s_fn (acheckaction_c a ha _) ?_|refine s_fn (hhp _) ?_)<;>try first|omega|assumption)|refine ny ?_|refine WA_block ?_))
          all_goals(try(exfalso;omega))
          all_goals((refine nextU_ hny (()) [0,4] (hi) (by omega) ?_ (ht:=?_);(focus (simp only [orE,actT,txE,List.map_cons,List.map_nil,TB.inst,TV.inst,tv_map,List.cons_append,List.nil_append];first|rfl|(simp [ptsV,ptV];done)|(simp [hpsV,hpV];done)|(simp [frsV,frV];done)|(simp [txV];done)|(simp [prtsV,prtV];done)));(simp only [orS,txSt,List.cons_append,List.length_append,List.length_cons,List.length_nil,Nat.zero_add,List.map_cons,List.map_nil,TV.inst,List.getD_cons_zero,List.getD_cons_succ];exact tv_)))
      · have hie:i=l.length:=by omega
        subst hie
        rw [List.take_of_length_le (Nat.le_refl _)]
        have hga:=hlen
        have hgb:=hlen
        have hll:=hlen
        have hlt:=hlen
        clear hK hol
        generalize hapN a l=o at *
        cases o with
        | nil=>
          have e0:oV (txV [])=V.nilsl:=rfl
          rw [e0] at hQ
          simp only [orS,orE,actT,txSt,txE]
          simp only [List.map_cons,List.map_nil,TB.inst,TV.inst,tv_map,zipT,List.cons_append,List.nil_append,Nat.add_zero]
          (have FX:=And.intro hx0 (And.intro hlen (And.intro hle (And.intro hga (And.intro hgb (And.intro hll hlt)))));repeat'(first|(refine sx ?_ ?_<;>intro h<;>first|(exfalso;omega)|skip)|(refine g_op ?_;refine g_call ?_;refine g_args ?_;(first|refine s_fn (acheckaction_c a ha _) ?_|refine s_fn (hhp _) ?_)<;>try first|omega|assumption)|refine ny ?_|refine WA_block ?_))
          all_goals(try(exfalso;omega))
          all_goals(refine r_esA hQ (.inl ⟨rfl,rfl,rfl⟩))
        | cons p r=>
          have hrl:(txV (p::r)).length=r.length+1:=txV_length
          have e0:oV (txV (p::r))= .lst (txV (p::r)):=rfl
          rw [e0] at hQ
          simp only [orS,orE,actT,txSt,txE]
          simp only [List.map_cons,List.map_nil,TB.inst,TV.inst,tv_map,zipT,List.cons_append,List.nil_append,Nat.add_zero]
          (have FX:=And.intro hx0 (And.intro hlen (And.intro hle (And.intro hga (And.intro hgb (And.intro hll hlt)))));repeat'(first|(refine sx ?_ ?_<;>intro h<;>first|(exfalso;omega)|skip)|(refine g_op ?_;refine g_call ?_;refine g_args ?_;(first|refine s_fn (acheckaction_c a ha _) ?_|refine s_fn (hhp _) ?_)<;>try first|omega|assumption)|refine ny ?_|refine WA_block ?_))
          all_goals(try(exfalso;omega))
          all_goals(refine r_esA hQ ?_)
          all_goals(refine fin_sl2 (D:=D) (j:=1) hB rfl (by rw [hrl];exact Nat.le_refl _) (by rw [List.take_of_length_le (by rw [hrl];exact Nat.le_refl _)];exact txV_plain _) (fun m L=>frz_int m L 3 _ _) ⟨?_,rfl⟩)
          all_goals(rw [List.take_of_length_le (by rw [hrl];exact Nat.le_refl _)])
  · rw [if_pos h]
    refine Gives_weak (v:= .tup [.nilsl,.int .i64 (acErr a)]) ?_ (wk_tnil _)
    have hx0:=h
    have hle:=hlen
    have hga:=hlen
    have hgb:=hlen
    have hll:=hlen
    have hlt:=hlen
    unfold actV
    refine Gives_in Tryz.func20 rfl Tryz.ntmps20 Tryz.results20 (by kernel_rfl) (by simp) rfl fun Q hQ=>?_
    (have FX:=And.intro hx0 (And.intro hlen (And.intro hle (And.intro hga (And.intro hgb (And.intro hll hlt)))));repeat'(first|(refine sx ?_ ?_<;>intro h<;>first|(exfalso;omega)|skip)|(refine g_op ?_;refine g_call ?_;refine g_args ?_;(first|refine s_fn (acheckaction_c a ha _) ?_)<;>try first|omega|assumption)|refine ny ?_|refine WA_block ?_))
    all_goals(try(exfalso;omega))
    all_goals(refine r_es hQ ?_;try with_reducible rfl)
section
variable {m0 D X B:Mem}
theorem fin_as{j k:Nat}{st:Sta}{ty sz:Nat}{es:List (List V)}{R:V→Option Mem→Prop}(hB:B=lend m0++D)(hX:X[j]?=some (.cells st ty sz es))(hk:k≤es.length)(hp:plainLL (es.take k)=true)(h:R (.agg [.lst (es.take k)]) none):
    Fin m0 R (.agg [.sl (B.length+j) k]) (B++X):=by
  subst hB
  refine .inr ⟨D++X,_,by simp,?_,h⟩
  show(frzs (frz _ _ 3) _).map V.agg=_
  simp only [frzs,frz_sl (n:=2) hX hk hp,Option.map_some]
/-- a value that is handed back as it is told there -/
def FrzTo(m0 M:Mem)(v u:V):Prop:=frz M m0.length 3 v=some u
theorem frzTo_int(k:IntKind)(i:Int)(M:Mem):FrzTo m0 M (.int k i) (.int k i):=frz_int _ _ _ _ _
theorem frzTo_nil(M:Mem):FrzTo m0 M .nilsl .nilsl:=frz_plain _ _ _ rfl (by simp) (by simp) (by simp) (by simp)
theorem frzTo_sl{j k:Nat}{st:Sta}{ty sz:Nat}{es:List (List V)}(hX:X[j]?=some (.cells st ty sz es))(hk:k=es.length)(hp:plainLL es=true):FrzTo m0 (lend m0++X) (.sl ((lend m0).length+j) k) (.lst es):=by
  subst hk
  have h:=frz_sl (m0:=m0) (D:=[]) (X:=X) (n:=2) (j:=j) (k:=es.length) hX (Nat.le_refl _) (by rw [List.take_of_length_le (Nat.le_refl _)];exact hp)
  rw [List.append_nil,List.take_of_length_le (Nat.le_refl _)] at h
  exact h
theorem fin_a4{v1 v2 v3 v4 u1 u2 u3 u4:V}{R:V→Option Mem→Prop}(h1:FrzTo m0 (lend m0++X) v1 u1)(h2:FrzTo m0 (lend m0++X) v2 u2)(h3:FrzTo m0 (lend m0++X) v3 u3)(h4:FrzTo m0 (lend m0++X) v4 u4)(h:R (.agg [u1,u2,u3,u4]) none):Fin m0 R (.agg [v1,v2,v3,v4]) (lend m0++X):=by
  refine .inr ⟨X,_,rfl,?_,h⟩
  unfold FrzTo at h1 h2 h3 h4
  show(frzs (frz _ _ 3) _).map V.agg=_
  simp only [frzs,h1,h2,h3,h4,Option.map_some]
end

theorem lknee_c(x y:Int)(m:Mem):Gives Tryz.prog 50 [.int .i64 x,.int .i64 y] m (.agg [.int .i64 x,.int .i64 1,.int .i64 y,.int .i64 1]):=by
  refine Gives_in Tryz.func50 rfl Tryz.ntmps50 Tryz.results50 (by kernel_rfl) (by simp) rfl fun Q hQ=>?_
  (repeat'(first|(refine sx ?_ ?_<;>intro h<;>first|(exfalso;omega)|skip)|(refine g_op ?_;refine g_call ?_;refine g_args ?_;(first|refine s_fn (rwhole_c _ _) ?_)<;>try first|omega|assumption)|refine ny ?_|refine WA_block ?_))
  all_goals(refine r_es hQ ?_;try with_reducible rfl)
def wk(x y:Int):Rk:=((x,1),(y,1))
theorem uC37_16_5{N:Nat}{l:List Oper}{t:List (Nat×V)}{m:Mem}{Q:Exit→List (Nat×V)→Mem→Prop}(h:RgN Tryz.prog N l t m Q (fun i=>if i==13 || i==15 then .w else if i==12 then .a else if i==1 || i==5 || i==10 || i==11 then .q else .p) [.one 0,.one 1,.one 2,.one 3,.one 4,.one 5,.one 6,.one 7,.one 8,.one 9,.one 10,.one 11,.one 12,.one 13,.one 14,.one 15]):WA Tryz.prog N (.region 5 l.toArray true) t m Q:=d_rgN h
theorem lcurve4_c(a b c d:Int)(M:Mem)(k:Nat)(st:Sta)(hk:M[k]?=some (.cells st 3 1 [[.int .i64 a],[.int .i64 b],[.int .i64 c],[.int .i64 d]])):Gives Tryz.prog 16 [.sl k 4] M (.agg [.lst (rksV [wk a b,wk c d])]):=by
  have hkl:=lend_get2 hk
  refine CallA_in Tryz.func16 rfl Tryz.ntmps16 Tryz.results16 (by kernel_rfl) (by simp) fun Q hQ=>?_
  (have FX:=hkl;repeat'(first|(refine sx ?_ ?_<;>intro h<;>first|(exfalso;omega)|skip)|(refine g_op ?_;refine g_call ?_;refine g_args ?_;(first|refine s_fn (lknee_c _ _ _) ?_)<;>try first|omega|assumption)|refine ny ?_|refine WA_block ?_|(refine uC37_16_5 ?_;refine⟨by kernel_rfl,?_⟩)|((first|refine grp_cons (fun _=>lknee_c _ _ _) ?_)<;>try first|omega|assumption)|(refine g_d ?_;refine d_args ?_;(first|refine d_fn (lknee_c _ _ _) ?_|refine d_fnQ (fun _=>lknee_c _ _ _) ?_)<;>try first|omega|assumption)|(refine g_d ?_;(first|refine d_fnY (lknee_c _ _ _) ?_)<;>try first|omega|assumption)))
  refine WA_rounds 3 ?_
  (have FX:=hkl;repeat'(first|(refine sx ?_ ?_<;>intro h<;>first|(exfalso;omega)|skip)|(refine g_op ?_;refine g_call ?_;refine g_args ?_;(first|refine s_fn (lknee_c _ _ _) ?_)<;>try first|omega|assumption)|refine ny ?_|refine WA_block ?_|(refine uC37_16_5 ?_;refine⟨by kernel_rfl,?_⟩)|((first|refine grp_cons (fun _=>lknee_c _ _ _) ?_)<;>try first|omega|assumption)|(refine g_d ?_;refine d_args ?_;(first|refine d_fn (lknee_c _ _ _) ?_|refine d_fnQ (fun _=>lknee_c _ _ _) ?_)<;>try first|omega|assumption)|(refine g_d ?_;(first|refine d_fnY (lknee_c _ _ _) ?_)<;>try first|omega|assumption)))
  all_goals(try(exfalso;omega))
  all_goals(refine r_esA hQ (fin_as (D:=[]) (B:=lend M) (j:=5) (k:=2) (by simp) rfl (by simp) rfl ⟨rfl,rfl⟩))
theorem lcurve6_c(a b c d e f:Int)(M:Mem)(k:Nat)(st:Sta)(hk:M[k]?=some (.cells st 3 1 [[.int .i64 a],[.int .i64 b],[.int .i64 c],[.int .i64 d],[.int .i64 e],[.int .i64 f]])):Gives Tryz.prog 16 [.sl k 6] M (.agg [.lst (rksV [wk a b,wk c d,wk e f])]):=by
  have hkl:=lend_get2 hk
  refine CallA_in Tryz.func16 rfl Tryz.ntmps16 Tryz.results16 (by kernel_rfl) (by simp) fun Q hQ=>?_
  (have FX:=hkl;repeat'(first|(refine sx ?_ ?_<;>intro h<;>first|(exfalso;omega)|skip)|(refine g_op ?_;refine g_call ?_;refine g_args ?_;(first|refine s_fn (lknee_c _ _ _) ?_)<;>try first|omega|assumption)|refine ny ?_|refine WA_block ?_|(refine uC37_16_5 ?_;refine⟨by kernel_rfl,?_⟩)|((first|refine grp_cons (fun _=>lknee_c _ _ _) ?_)<;>try first|omega|assumption)|(refine g_d ?_;refine d_args ?_;(first|refine d_fn (lknee_c _ _ _) ?_|refine d_fnQ (fun _=>lknee_c _ _ _) ?_)<;>try first|omega|assumption)|(refine g_d ?_;(first|refine d_fnY (lknee_c _ _ _) ?_)<;>try first|omega|assumption)))
  refine WA_rounds 4 ?_
  (have FX:=hkl;repeat'(first|(refine sx ?_ ?_<;>intro h<;>first|(exfalso;omega)|skip)|(refine g_op ?_;refine g_call ?_;refine g_args ?_;(first|refine s_fn (lknee_c _ _ _) ?_)<;>try first|omega|assumption)|refine ny ?_|refine WA_block ?_|(refine uC37_16_5 ?_;refine⟨by kernel_rfl,?_⟩)|((first|refine grp_cons (fun _=>lknee_c _ _ _) ?_)<;>try first|omega|assumption)|(refine g_d ?_;refine d_args ?_;(first|refine d_fn (lknee_c _ _ _) ?_|refine d_fnQ (fun _=>lknee_c _ _ _) ?_)<;>try first|omega|assumption)|(refine g_d ?_;(first|refine d_fnY (lknee_c _ _ _) ?_)<;>try first|omega|assumption)))
  all_goals(try(exfalso;omega))
  all_goals(refine r_esA hQ (fin_as (D:=[]) (B:=lend M) (j:=7) (k:=3) (by simp) rfl (by simp) rfl ⟨rfl,rfl⟩))

theorem lcurve_c(l:List Rk)(hl:l.length≤100000)(m:Mem):Gives Tryz.prog 32 [.agg [.lst (rksV l)]] m (.agg [.lst (rksV l)]):=by
  have hlen:=rksV_length (l:=l)
  have hal:∀ n,n=4→(rksV l).all (fun e=>e.length==n)=true:=fun n h=>rksV_all h
  refine CallA_in Tryz.func32 rfl Tryz.ntmps32 Tryz.results32 (by kernel_rfl) (by simp) fun Q hQ=>?_
  (have FX:=And.intro hlen hal;repeat'(first|(refine sx ?_ ?_<;>intro h<;>first|(exfalso;omega)|skip)|refine ny ?_|refine WA_block ?_))
  all_goals(try(exfalso;omega))
  all_goals(refine r_esA hQ (fin_as (D:=[]) (B:=lend m) (j:=3) (by simp) rfl (by rw [hlen];exact Nat.le_refl _) (by rw [List.take_of_length_le (by rw [hlen];exact Nat.le_refl _)];exact rksV_plain _) ⟨?_,rfl⟩))
  all_goals(rw [List.take_of_length_le (by rw [hlen];exact Nat.le_refl _)])
theorem uC37_21_6{N:Nat}{l:List Oper}{t:List (Nat×V)}{m:Mem}{Q:Exit→List (Nat×V)→Mem→Prop}(h:RgN Tryz.prog N l t m Q (fun i=>if i==3 || i==7 || i==8 then .q else .p) [.one 0,.one 1,.one 2,.one 3,.one 4,.one 5,.one 6,.one 7,.one 8]):WA Tryz.prog N (.region 6 l.toArray true) t m Q:=d_rgN h
theorem btexts_same(s t:List UInt8)(M:Mem)(k:Nat)(st:Sta)(hk:M[k]?=some (.cells st 9 1 [[.str s],[.str t]])):Gives Tryz.prog 21 [.lst [[.str s],[.str t]],.sl k 2] M (.bool true):=by
  have hkl:=lend_get2 hk
  refine Gives_in Tryz.func21 rfl Tryz.ntmps21 Tryz.results21 (by kernel_rfl) (by simp) rfl fun Q hQ=>?_
  (have FX:=hkl;repeat'(first|(refine sx ?_ ?_<;>intro h<;>first|(exfalso;omega)|skip)|refine ny ?_|refine WA_block ?_|(refine uC37_21_6 ?_;refine⟨by kernel_rfl,?_⟩)))
  refine WA_rounds 3 ?_
  (have FX:=hkl;repeat'(first|(refine sx ?_ ?_<;>intro h<;>first|(exfalso;omega)|skip)|refine ny ?_|refine WA_block ?_|(refine uC37_21_6 ?_;refine⟨by kernel_rfl,?_⟩)))
  all_goals(try(exfalso;first|omega|contradiction))
  all_goals(refine r_es hQ ?_;try with_reducible rfl)
def sane(n d:Int):Prop:=(-1152921504606846976≤n∧n≤1152921504606846976)∧(-1152921504606846976≤d∧d≤1152921504606846976)
instance(n d:Int):Decidable (sane n d):=inferInstanceAs (Decidable (_∧_))
/-- few corners, or far too many, all of them sane -/
def few(l:List Rk)(most:Int):Prop:=¬ (most<l.length∧l.length≤60∨63<l.length)∧∀ i,i<l.length→sane (l.getD i rk0).1.1 (l.getD i rk0).1.2∧sane (l.getD i rk0).2.1 (l.getD i rk0).2.2
instance(l:List Rk)(most:Int):Decidable (few l most):=inferInstanceAs (Decidable (_∧_))
end Go.Proofs.YtomkbpoicjabfaaGreatDoor
