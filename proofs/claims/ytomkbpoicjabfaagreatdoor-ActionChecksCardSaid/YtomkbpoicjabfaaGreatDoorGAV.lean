import Derived.Test.YtomkbpoicjabfaaGreatDoorGAS
import Derived.Test.YtomkbpoicjabfaaGreatDoorGAE
import Derived.Test.YtomkbpoicjabfaaGreatDoorC43
set_option linter.unusedSimpArgs false
set_option linter.unusedVariables false
/- contract: the copy of an action -/
namespace Go.Proofs.YtomkbpoicjabfaaGreatDoor
open Go.RowKit
attribute [local irreducible] WA WOs WDs WAn qThen qBlock tput
set_option maxHeartbeats 1000000
set_option maxRecDepth 20000
set_option linter.unusedSimpArgs false
set_option linter.unusedVariables false
attribute [local irreducible] smB cut sm
section
variable {m0 D X B:Mem}
theorem frzTo_slB{j k:Nat}{st:Sta}{ty sz:Nat}{es:List (List V)}(hB:B=lend m0++D)(hX:X[j]?=some (.cells st ty sz es))(hk:k=es.length)(hp:plainLL es=true):FrzTo m0 (B++X) (.sl (B.length+j) k) (.lst es):=by
  subst hB
  have h:=frzTo_sl (m0:=m0) (X:=D++X) (j:=D.length+j) (k:=k) (st:=st) (ty:=ty) (sz:=sz) (es:=es) (by rw [List.getElem?_append_right (Nat.le_add_right _ _),Nat.add_sub_cancel_left];exact hX) hk hp
  rw [List.append_assoc,List.length_append,Nat.add_assoc]
  exact h
theorem fin_a4B{v1 v2 v3 v4 u1 u2 u3 u4:V}{R:V→Option Mem→Prop}(hB:B=lend m0++D)(h1:FrzTo m0 (B++X) v1 u1)(h2:FrzTo m0 (B++X) v2 u2)(h3:FrzTo m0 (B++X) v3 u3)(h4:FrzTo m0 (B++X) v4 u4)(h:R (.agg [u1,u2,u3,u4]) none):Fin m0 R (.agg [v1,v2,v3,v4]) (B++X):=by
  subst hB
  rw [List.append_assoc] at h1 h2 h3 h4 ⊢
  exact fin_a4 h1 h2 h3 h4 h
end
theorem evsV_plain(l:List EvR):plainLL (evsV l)=true:=by
  induction l with
  |nil=>rfl
  |cons x xs ih=>simp only [evsV,List.map_cons,plainLL,evV,plainL,V.plain,Bool.true_and] at ih ⊢;exact ih
theorem ldsV_plain(l:List (Int×Int)):plainLL (ldsV l)=true:=by
  induction l with
  |nil=>rfl
  |cons x xs ih=>simp only [ldsV,List.map_cons,plainLL,ldV,plainL,V.plain,Bool.true_and] at ih ⊢;exact ih
theorem prtsV_plain(l:List PartR):plainLL (prtsV l)=true:=by
  induction l with
  |nil=>rfl
  |cons x xs ih=>simp only [prtsV,List.map_cons,plainLL,prtV,plainL,V.plain,Bool.true_and,rksV_plain] at ih ⊢;exact ih
theorem evsV_l4{l:List EvR}{n:Nat}(h:n=4):(evsV l).all (fun e=>e.length==n)=true:=by subst h;simp [evsV,evV]
theorem ldsV_l2{l:List (Int×Int)}{n:Nat}(h:n=2):(ldsV l).all (fun e=>e.length==n)=true:=by subst h;simp [ldsV,ldV]
def cpSt:List PartR→TV
  |[]=> .v .nilsl
  |_::r=> .sl 5 (r.length+1)
def cpEx:List PartR→List TB
  |[]=>[]
  |p::r=>[.cells .own 71 5 ((prtsV (p::r)).map (List.map TV.v))]
def outT(a:ActR)(l:List PartR):TB:= .cells .own 27 4 [[.v (.int .i64 a.dip),cpSt l,.sl 3 a.evs.length,.sl 4 a.leads.length]]
def zacT:TB:= .cells .own 27 4 [[.v (.int .i64 0),.v .nilsl,.v .nilsl,.v .nilsl]]
def evT(a:ActR):TB:= .cells .own 74 4 ((evsV a.evs).map (List.map TV.v))
def ldT(a:ActR):TB:= .cells .own 76 2 ((ldsV a.leads).map (List.map TV.v))
def caE(a:ActR)(l:List PartR):List TB:=actT a::zacT::outT a l::evT a::ldT a::cpEx l
def caS(i:Nat):List TV:=[.ptr 0 0 0,.ptr 1 0 0,.ptr 2 0 0,.v (.int .i64 i)]
theorem caE_ok{a:ActR}{l:List PartR}:(caE a l).all (TB.ok (caE a l).length)=true:=by
  unfold caE actT zacT outT evT ldT
  cases l with
  |nil=>simp only [cpEx,cpSt,List.all_cons,TB.ok,TV.okT,List.all_nil,Bool.and_true,Bool.and_self,tv_ok,List.length_cons,List.length_nil];decide
  |cons p r=>simp only [cpEx,cpSt,List.all_cons,TB.ok,TV.okT,List.all_nil,Bool.and_true,Bool.and_self,tv_ok,List.length_cons,List.length_nil];decide
theorem caS_ok{a:ActR}{l:List PartR}{i:Nat}:(caS i).all (TV.okT (caE a l).length)=true:=by
  unfold caE caS
  simp [TV.okT]
theorem uC44_11_1{N:Nat}{l:List Oper}{t:List (Nat×V)}{m:Mem}{Q:Exit→List (Nat×V)→Mem→Prop}(h:RgN Tryz.prog N l t m Q (fun i=>if i==5 || i==9 || i==12 then .f else if i==2 || i==6 || i==11 then .a else if i==1 || i==4 || i==8 then .q else .p) [.one 0,.one 1,.one 3,.one 4,.one 7,.one 8,.grp false [5,9] [2,6,11],.one 10,.one 12]):WA Tryz.prog N (.region 1 l.toArray true) t m Q:=d_rgN h
theorem lcopied_c (a:ActR) (h1:a.evs.length≤100) (h2:a.leads.length≤100) (h3:a.parts.length≤100) (h4:∀ i,i<a.parts.length→(a.parts.getD i p0).cor.length≤100) (m:Mem):Gives Tryz.prog 11 [.agg (actV a)] m (.agg (actV a)):=by
  have hlen:=prtsV_length (l:=a.parts)
  have hev:=evsV_length (l:=a.evs)
  have hld:=ldsV_length (l:=a.leads)
  have hea:∀ n,n=4→(evsV a.evs).all (fun e=>e.length==n)=true:=fun n h=>evsV_l4 h
  have hla:∀ n,n=2→(ldsV a.leads).all (fun e=>e.length==n)=true:=fun n h=>ldsV_l2 h
  suffices key:CallA Tryz.prog 11 [.agg (actV a)] m (fun v' mo=>v'= .agg [.int .i64 a.dip,oV (prtsV a.parts),.lst (evsV a.evs),.lst (ldsV a.leads)]∧mo=none) from
    Gives_weak key (wk_agg ⟨WkV.refl _,wk_oV _,WkV.refl _,WkV.refl _,trivial⟩)
  unfold actV
  refine CallA_in Tryz.func11 rfl Tryz.ntmps11 Tryz.results11 (by kernel_rfl) (by simp) fun Q hQ=>?_
  refine WA_cutT2 (σ:=Unit) (L:=lend m) [1,2,3] (fun _=>[.ptr 0 0 0,.ptr 1 0 0,.ptr 2 0 0]) (fun _=>caE a []) (fun _=>True) (by decide) (fun _ _=>by unfold caE;simp [TV.okT]) (fun _ _=>caE_ok) (fun K1 hK1=>?_) (fun _ _ B1 hB1=>?_)
  · (have FX:=And.intro hev (And.intro hld (And.intro hea hla));repeat' first|(first|(refine sx ?_ ?_<;>intro h<;>first|(exfalso;omega)|skip)|(refine g_op ?_;refine g_call ?_;refine g_args ?_;(first|refine s_fn (lcurve_c _ ?_ _) ?_)<;>try first|omega|assumption)|refine ny ?_|refine WA_block ?_|(refine uC44_11_1 ?_;refine⟨by kernel_rfl,?_⟩)|((first|refine grp_cons (fun _=>lcurve_c _ ?_ _) ?_)<;>try first|omega|assumption)|(refine g_d ?_;refine d_args ?_;(first|refine d_fn (lcurve_c _ ?_ _) ?_|refine d_fnQ (fun _=>lcurve_c _ ?_ _) ?_)<;>try first|omega|assumption)|(refine g_d ?_;(first|refine d_fnY (lcurve_c _ ?_ _) ?_)<;>try first|omega|assumption))|refine d_alt ?_|refine wg_0 ?_|refine wg_b ?_|refine wg_c ?_ ?_|refine wg_n ?_|refine wm_cons ?_ ?_|exact wm_nil|refine wg_op ?_)
    all_goals first
      |((refine nextU_ hK1 (()) [0,1,6,3,5] (trivial) (trivial) ?_ (ht:=?_);(focus (simp only [caE,actT,zacT,outT,evT,ldT,cpEx,cpSt,List.map_cons,List.map_nil,TB.inst,TV.inst,tv_map,List.cons_append,List.nil_append];first|rfl|(simp [ptsV,ptV];done)|(simp [hpsV,hpV];done)|(simp [frsV,frV];done)|(simp [txV];done)|(simp [prtsV,prtV];done)));(simp only [List.length_cons,List.map_cons,List.map_nil,TV.inst,List.getD_cons_zero,List.getD_cons_succ];exact tv_)))
      |((refine nextU_ hK1 (()) [0,1,5,3,6] (trivial) (trivial) ?_ (ht:=?_);(focus (simp only [caE,actT,zacT,outT,evT,ldT,cpEx,cpSt,List.map_cons,List.map_nil,TB.inst,TV.inst,tv_map,List.cons_append,List.nil_append];first|rfl|(simp [ptsV,ptV];done)|(simp [hpsV,hpV];done)|(simp [frsV,frV];done)|(simp [txV];done)|(simp [prtsV,prtV];done)));(simp only [List.length_cons,List.map_cons,List.map_nil,TV.inst,List.getD_cons_zero,List.getD_cons_succ];exact tv_)))
      |((refine nextU_ hK1 (()) [0,1,4,3,6] (trivial) (trivial) ?_ (ht:=?_);(focus (simp only [caE,actT,zacT,outT,evT,ldT,cpEx,cpSt,List.map_cons,List.map_nil,TB.inst,TV.inst,tv_map,List.cons_append,List.nil_append];first|rfl|(simp [ptsV,ptV];done)|(simp [hpsV,hpV];done)|(simp [frsV,frV];done)|(simp [txV];done)|(simp [prtsV,prtV];done)));(simp only [List.length_cons,List.map_cons,List.map_nil,TV.inst,List.getD_cons_zero,List.getD_cons_succ];exact tv_)))
      |((refine nextU_ hK1 (()) [0,1,6,4,5] (trivial) (trivial) ?_ (ht:=?_);(focus (simp only [caE,actT,zacT,outT,evT,ldT,cpEx,cpSt,List.map_cons,List.map_nil,TB.inst,TV.inst,tv_map,List.cons_append,List.nil_append];first|rfl|(simp [ptsV,ptV];done)|(simp [hpsV,hpV];done)|(simp [frsV,frV];done)|(simp [txV];done)|(simp [prtsV,prtV];done)));(simp only [List.length_cons,List.map_cons,List.map_nil,TV.inst,List.getD_cons_zero,List.getD_cons_succ];exact tv_)))
      |((refine nextU_ hK1 (()) [0,1,5,4,6] (trivial) (trivial) ?_ (ht:=?_);(focus (simp only [caE,actT,zacT,outT,evT,ldT,cpEx,cpSt,List.map_cons,List.map_nil,TB.inst,TV.inst,tv_map,List.cons_append,List.nil_append];first|rfl|(simp [ptsV,ptV];done)|(simp [hpsV,hpV];done)|(simp [frsV,frV];done)|(simp [txV];done)|(simp [prtsV,prtV];done)));(simp only [List.length_cons,List.map_cons,List.map_nil,TV.inst,List.getD_cons_zero,List.getD_cons_succ];exact tv_)))
      |((refine nextU_ hK1 (()) [0,1,4,5,6] (trivial) (trivial) ?_ (ht:=?_);(focus (simp only [caE,actT,zacT,outT,evT,ldT,cpEx,cpSt,List.map_cons,List.map_nil,TB.inst,TV.inst,tv_map,List.cons_append,List.nil_append];first|rfl|(simp [ptsV,ptV];done)|(simp [hpsV,hpV];done)|(simp [frsV,frV];done)|(simp [txV];done)|(simp [prtsV,prtV];done)));(simp only [List.length_cons,List.map_cons,List.map_nil,TV.inst,List.getD_cons_zero,List.getD_cons_succ];exact tv_)))
      |((refine nextU_ hK1 (()) [0,1,3,4,6] (trivial) (trivial) ?_ (ht:=?_);(focus (simp only [caE,actT,zacT,outT,evT,ldT,cpEx,cpSt,List.map_cons,List.map_nil,TB.inst,TV.inst,tv_map,List.cons_append,List.nil_append];first|rfl|(simp [ptsV,ptV];done)|(simp [hpsV,hpV];done)|(simp [frsV,frV];done)|(simp [txV];done)|(simp [prtsV,prtV];done)));(simp only [List.length_cons,List.map_cons,List.map_nil,TV.inst,List.getD_cons_zero,List.getD_cons_succ];exact tv_)))
      |((refine nextU_ hK1 (()) [0,1,3,5,6] (trivial) (trivial) ?_ (ht:=?_);(focus (simp only [caE,actT,zacT,outT,evT,ldT,cpEx,cpSt,List.map_cons,List.map_nil,TB.inst,TV.inst,tv_map,List.cons_append,List.nil_append];first|rfl|(simp [ptsV,ptV];done)|(simp [hpsV,hpV];done)|(simp [frsV,frV];done)|(simp [txV];done)|(simp [prtsV,prtV];done)));(simp only [List.length_cons,List.map_cons,List.map_nil,TV.inst,List.getD_cons_zero,List.getD_cons_succ];exact tv_)))
      |((refine nextU_ hK1 (()) [0,1,2,4,6] (trivial) (trivial) ?_ (ht:=?_);(focus (simp only [caE,actT,zacT,outT,evT,ldT,cpEx,cpSt,List.map_cons,List.map_nil,TB.inst,TV.inst,tv_map,List.cons_append,List.nil_append];first|rfl|(simp [ptsV,ptV];done)|(simp [hpsV,hpV];done)|(simp [frsV,frV];done)|(simp [txV];done)|(simp [prtsV,prtV];done)));(simp only [List.length_cons,List.map_cons,List.map_nil,TV.inst,List.getD_cons_zero,List.getD_cons_succ];exact tv_)))
      |((refine nextU_ hK1 (()) [0,1,2,5,6] (trivial) (trivial) ?_ (ht:=?_);(focus (simp only [caE,actT,zacT,outT,evT,ldT,cpEx,cpSt,List.map_cons,List.map_nil,TB.inst,TV.inst,tv_map,List.cons_append,List.nil_append];first|rfl|(simp [ptsV,ptV];done)|(simp [hpsV,hpV];done)|(simp [frsV,frV];done)|(simp [txV];done)|(simp [prtsV,prtV];done)));(simp only [List.length_cons,List.map_cons,List.map_nil,TV.inst,List.getD_cons_zero,List.getD_cons_succ];exact tv_)))
  · obtain⟨D1,hB1⟩:=hB1
    simp only [zipT,List.map_cons,List.map_nil,TV.inst,Nat.add_zero]
    (have FX:=And.intro hev (And.intro hld (And.intro hea hla));repeat'(first|(refine sx ?_ ?_<;>intro h<;>first|(exfalso;omega)|skip)|(refine g_op ?_;refine g_call ?_;refine g_args ?_;(first|refine s_fn (lcurve_c _ ?_ _) ?_)<;>try first|omega|assumption)|refine ny ?_|refine WA_block ?_|(refine uC44_11_1 ?_;refine⟨by kernel_rfl,?_⟩)|((first|refine grp_cons (fun _=>lcurve_c _ ?_ _) ?_)<;>try first|omega|assumption)|(refine g_d ?_;refine d_args ?_;(first|refine d_fn (lcurve_c _ ?_ _) ?_|refine d_fnQ (fun _=>lcurve_c _ ?_ _) ?_)<;>try first|omega|assumption)|(refine g_d ?_;(first|refine d_fnY (lcurve_c _ ?_ _) ?_)<;>try first|omega|assumption)))
    refine WA_whileT (σ:=Nat) (L:=B1) [1,2,3,4] (fun i=>caS i) (fun i=>caE a (a.parts.take i)) (fun i=>i≤a.parts.length) (fun i=>a.parts.length - i) 0 (Nat.zero_le _) ?_ rfl (by decide) (fun _ _=>caS_ok (l:=a.parts.take _)) (fun _ _=>caE_ok) ?_
    · simp only [caS,List.map_cons,List.map_nil,TV.inst]
      exact tv_
    rintro i hi B ⟨D2,hB2⟩ K hK
    have hB:B=lend m++(D1++D2):=by rw [hB2,hB1,List.append_assoc]
    clear FX hB1 hB2
    rcases Nat.lt_or_ge i a.parts.length with hlt|hge
    · have hga:=prtsV_get hlt
      have h4':=h4 i hlt
      have hsu:a.parts.take (i+1)=a.parts.take i++[a.parts.getD i p0]:=by
        rw [List.take_succ_eq_append_getElem hlt]
        have:a.parts.getD i p0=a.parts[i]:=by rw [List.getD_eq_getElem?_getD,List.getElem?_eq_getElem hlt];rfl
        rw [this]
      have hnx:=hK (i+1)
      rw [hsu] at hnx
      have hny:=fun(_:Unit)=>hnx
      clear hnx hsu hK
      have hol:(a.parts.take i).length=i:=by rw [List.length_take];omega
      generalize a.parts.getD i p0=p at *
      have hcu:=fun m=>lcurve_c p.cor (by omega) m
      obtain⟨nm,dr,co,wt,fr⟩:=p
      unfold prtV at hga
      dsimp only at hga hcu h4'
      generalize a.parts.take i=l at *
      cases l with
      | nil=>
        have hll:=hlen
        have hlt2:=hlen
        simp only [caS,caE,actT,zacT,outT,evT,ldT,cpEx,cpSt]
        simp only [List.map_cons,List.map_nil,TB.inst,TV.inst,tv_map,zipT,List.cons_append,List.nil_append,Nat.add_zero]
        (have FX:=And.intro hlen (And.intro hga (And.intro hll hlt2));repeat'(first|(refine sx ?_ ?_<;>intro h<;>first|(exfalso;omega)|skip)|(refine g_op ?_;refine g_call ?_;refine g_args ?_;(first|refine s_fn (hcu _) ?_)<;>try first|omega|assumption)|refine ny ?_|refine WA_block ?_|(refine uC44_11_1 ?_;refine⟨by kernel_rfl,?_⟩)|((first|refine grp_cons (fun _=>hcu _) ?_)<;>try first|omega|assumption)|(refine g_d ?_;refine d_args ?_;(first|refine d_fn (hcu _) ?_|refine d_fnQ (fun _=>hcu _) ?_)<;>try first|omega|assumption)|(refine g_d ?_;(first|refine d_fnY (hcu _) ?_)<;>try first|omega|assumption)))
        all_goals(try(exfalso;omega))
        all_goals((refine nextU_ hny (()) [0,1,2,3,4,7] (hlt) (by omega) ?_ (ht:=?_);(focus (simp only [caE,actT,zacT,outT,evT,ldT,cpEx,cpSt,List.map_cons,List.map_nil,TB.inst,TV.inst,tv_map,List.cons_append,List.nil_append];first|rfl|(simp [ptsV,ptV];done)|(simp [hpsV,hpV];done)|(simp [frsV,frV];done)|(simp [txV];done)|(simp [prtsV,prtV];done)));(simp only [caS,List.length_nil,Nat.zero_add,List.map_cons,List.map_nil,TV.inst,List.getD_cons_zero,List.getD_cons_succ];exact tv_)))
      | cons q r=>
        have hll:(prtsV (q::r)).length=r.length+1:=prtsV_length
        have hlt2:(prtsV (q::r)).take (r.length+1)=prtsV (q::r):=by rw [List.take_of_length_le (by rw [hll];exact Nat.le_refl _)]
        simp only [List.length_cons] at hol
        simp only [caS,caE,actT,zacT,outT,evT,ldT,cpEx,cpSt]
        simp only [List.map_cons,List.map_nil,TB.inst,TV.inst,tv_map,zipT,List.cons_append,List.nil_append,Nat.add_zero]
        (have FX:=And.intro hlen (And.intro hga (And.intro hll hlt2));repeat'(first|(refine sx ?_ ?_<;>intro h<;>first|(exfalso;omega)|skip)|(refine g_op ?_;refine g_call ?_;refine g_args ?_;(first|refine s_fn (hcu _) ?_)<;>try first|omega|assumption)|refine ny ?_|refine WA_block ?_|(refine uC44_11_1 ?_;refine⟨by kernel_rfl,?_⟩)|((first|refine grp_cons (fun _=>hcu _) ?_)<;>try first|omega|assumption)|(refine g_d ?_;refine d_args ?_;(first|refine d_fn (hcu _) ?_|refine d_fnQ (fun _=>hcu _) ?_)<;>try first|omega|assumption)|(refine g_d ?_;(first|refine d_fnY (hcu _) ?_)<;>try first|omega|assumption)))
        all_goals(try(exfalso;omega))
        all_goals((refine nextU_ hny (()) [0,1,2,3,4,8] (hlt) (by omega) ?_ (ht:=?_);(focus (simp only [caE,actT,zacT,outT,evT,ldT,cpEx,cpSt,List.map_cons,List.map_nil,TB.inst,TV.inst,tv_map,List.cons_append,List.nil_append];first|rfl|(simp [ptsV,ptV];done)|(simp [hpsV,hpV];done)|(simp [frsV,frV];done)|(simp [txV];done)|(simp [prtsV,prtV];done)));(simp only [caS,List.cons_append,List.length_append,List.length_cons,List.length_nil,Nat.zero_add,List.map_cons,List.map_nil,TV.inst,List.getD_cons_zero,List.getD_cons_succ];exact tv_)))
    · have hie:i=a.parts.length:=by omega
      rw [List.take_of_length_le (by omega)]
      clear hK
      have hga:=hlen
      have hll:=hlen
      have hlt2:=hlen
      have hev':=hev
      have hld':=hld
      generalize hpe:a.parts=l at hQ ⊢
      cases l with
      | nil=>
        have e0:oV (prtsV [])=V.nilsl:=rfl
        rw [e0] at hQ
        simp only [caS,caE,actT,zacT,outT,evT,ldT,cpEx,cpSt]
        simp only [List.map_cons,List.map_nil,TB.inst,TV.inst,tv_map,zipT,List.cons_append,List.nil_append,Nat.add_zero]
        (have FX:=And.intro hlen (And.intro hga (And.intro hll hlt2));repeat'(first|(refine sx ?_ ?_<;>intro h<;>first|(exfalso;omega)|skip)|refine ny ?_|refine WA_block ?_|(refine uC44_11_1 ?_;refine⟨by kernel_rfl,?_⟩)))
        all_goals(try(exfalso;omega))
        all_goals(refine r_esA hQ (fin_a4B hB (frzTo_int _ _ _) (frzTo_nil _) (frzTo_slB (j:=3) hB rfl hev.symm (evsV_plain _)) (frzTo_slB (j:=4) hB rfl hld.symm (ldsV_plain _)) ⟨rfl,rfl⟩))
      | cons q r=>
        have e0:oV (prtsV (q::r))= .lst (prtsV (q::r)):=rfl
        rw [e0] at hQ
        simp only [caS,caE,actT,zacT,outT,evT,ldT,cpEx,cpSt]
        simp only [List.map_cons,List.map_nil,TB.inst,TV.inst,tv_map,zipT,List.cons_append,List.nil_append,Nat.add_zero]
        (have FX:=And.intro hlen (And.intro hga (And.intro hll hlt2));repeat'(first|(refine sx ?_ ?_<;>intro h<;>first|(exfalso;omega)|skip)|refine ny ?_|refine WA_block ?_|(refine uC44_11_1 ?_;refine⟨by kernel_rfl,?_⟩)))
        all_goals(try(exfalso;omega))
        all_goals(refine r_esA hQ (fin_a4B hB (frzTo_int _ _ _) (frzTo_slB (j:=5) hB rfl prtsV_length.symm (prtsV_plain _)) (frzTo_slB (j:=3) hB rfl hev.symm (evsV_plain _)) (frzTo_slB (j:=4) hB rfl hld.symm (ldsV_plain _)) ⟨rfl,rfl⟩))
end Go.Proofs.YtomkbpoicjabfaaGreatDoor
namespace Go.Proofs.YtomkbpoicjabfaaGreatDoor
open Go.RowKit
attribute [local irreducible] WA WOs WDs WAn qThen qBlock tput
set_option maxHeartbeats 1000000
set_option maxRecDepth 20000
set_option linter.unusedSimpArgs false
set_option linter.unusedVariables false
theorem lcopied_l(a:ActR)(h:light a)(m:Mem):Gives Tryz.prog 11 [.agg (actV a)] m (.agg (actV a)):=by
  obtain⟨h1,h2,_⟩:=h
  unfold lenLight at h1
  refine lcopied_c a (by omega) (by omega) (by omega) (fun i hi=>?_) m
  have:=h2 i hi
  unfold ptLight at this
  omega
end Go.Proofs.YtomkbpoicjabfaaGreatDoor
