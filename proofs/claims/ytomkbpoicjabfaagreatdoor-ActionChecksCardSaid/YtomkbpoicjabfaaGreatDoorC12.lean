/- contracts: the corners between two numbers -/
import Derived.Test.YtomkbpoicjabfaaGreatDoorGAJ
import Derived.Test.YtomkbpoicjabfaaGreatDoorC11
set_option linter.unusedSimpArgs false
set_option linter.unusedVariables false
namespace Go.Proofs.YtomkbpoicjabfaaGreatDoor
open Go.RowKit
attribute [local irreducible] WA WOs WDs WAn qThen qBlock tput
set_option maxHeartbeats 1000000
set_option maxRecDepth 20000
set_option linter.unusedSimpArgs false
set_option linter.unusedVariables false
attribute [local irreducible] smB cut sm
def betw(c:List Pt)(lo hi:Rat):List Pt:=c.filter fun k=>decide (lo<k.1∧k.1<hi)
def betwP(c:List Pt)(u v:Rat):List Pt:=if v<u then (betw c v u).reverse else betw c u v
theorem betw_succ{c:List Pt}{lo hi:Rat}{i:Nat}(h:i<c.length):betw (c.take (i+1)) lo hi=betw (c.take i) lo hi++(if lo<(at' c i).1∧(at' c i).1<hi then [at' c i] else []):=by
  unfold betw
  have hg:c[i]=at' c i:=by have:=at_get h;rw [List.getElem?_eq_getElem h] at this;exact Option.some.inj this
  rw [List.take_succ_eq_append_getElem h,List.filter_append,hg]
  congr 1
  by_cases h1:lo<(at' c i).1∧(at' c i).1<hi
  · rw [if_pos h1,List.filter_cons,if_pos (decide_eq_true h1)];rfl
  · rw [if_neg h1,List.filter_cons,if_neg (by simpa using h1)];rfl
theorem betw_len(c:List Pt)(lo hi:Rat):(betw c lo hi).length≤c.length:=List.length_filter_le _ _
theorem betw_mem{c:List Pt}{lo hi:Rat}{k:Pt}(h:k∈betw c lo hi):k∈c∧lo<k.1∧k.1<hi:=by
  unfold betw at h
  rw [List.mem_filter] at h
  exact⟨h.1,of_decide_eq_true h.2⟩
/-- a list that grows: its slot, and its block -/
def oSt(k:Nat):List Pt→TV
  |[]=> .v .nilsl
  |p::r=> .sl k (r.length+1)
def oE:List Pt→List TB
  |[]=>[]
  |p::r=>[.cells .own 80 4 ((ptsV (p::r)).map (List.map TV.v))]
theorem cmpQ_gt{p q:Rat}:0<cmpQ p q↔q<p:=by
  unfold cmpQ
  by_cases h1:p<q
  · rw [if_pos h1];simp;exact Rat.not_lt.2 (Rat.le_of_lt h1)
  · rw [if_neg h1]
    by_cases h2:q<p
    · rw [if_pos h2];simp [h2]
    · rw [if_neg h2];simp [h2]
theorem cmpQ_lt{p q:Rat}:cmpQ p q<0↔p<q:=by
  unfold cmpQ
  by_cases h1:p<q
  · rw [if_pos h1];simp [h1]
  · rw [if_neg h1]
    by_cases h2:q<p
    · rw [if_pos h2];simp [h1]
    · rw [if_neg h2];simp [h1]
def btE(c:List Pt)(u v lo hi:Rat)(i:Nat):List TB:= .cells .own 43 2 [[.v (.int .i64 u.num),.v (.int .i64 (u.den:Int))]]:: .cells .own 43 2 [[.v (.int .i64 v.num),.v (.int .i64 (v.den:Int))]]:: .cells .own 43 2 [[.v (.int .i64 lo.num),.v (.int .i64 (lo.den:Int))]]:: .cells .own 43 2 [[.v (.int .i64 hi.num),.v (.int .i64 (hi.den:Int))]]::oE (betw (c.take i) lo hi)
theorem btE_ok{c:List Pt}{u v lo hi:Rat}{i:Nat}:(btE c u v lo hi i).all (TB.ok (btE c u v lo hi i).length)=true:=by
  unfold btE
  cases betw (c.take i) lo hi with
  |nil=>simp [TB.ok,TV.okT,oE]
  |cons p r=>simp only [oE,List.all_cons,TB.ok,TV.okT,List.all_nil,Bool.and_true,Bool.and_self,tv_ok]
def btS(c:List Pt)(lo hi:Rat)(i:Nat):List TV:=[.ptr 0 0 0,.ptr 1 0 0,.ptr 2 0 0,.ptr 3 0 0,oSt 4 (betw (c.take i) lo hi),.v (.lst (ptsV c)),.v (.int .i64 c.length),.v (.int .i64 i)]
theorem btS_ok{c:List Pt}{u v lo hi:Rat}{i:Nat}:(btS c lo hi i).all (TV.okT (btE c u v lo hi i).length)=true:=by
  unfold btE btS
  cases betw (c.take i) lo hi with
  |nil=>simp [TV.okT,oE,oSt]
  |cons p r=>simp [TV.okT,oE,oSt]
theorem uC12_153_1{N:Nat}{l:List Oper}{t:List (Nat×V)}{m:Mem}{Q:Exit→List (Nat×V)→Mem→Prop}(h:RgN Tryz.prog N l t m Q (fun i=>if i==4 || i==5 then .f else if i==2 || i==3 then .a else if i==0 || i==1 then .q else .p) [.one 0,.one 1,.grp true [] [2,3],.one 4,.one 5]):WA Tryz.prog N (.region 1 l.toArray true) t m Q:=d_rgN h
theorem between_up (c:List Pt) (u v:Rat) (hc:Valid c) (hu:sm u) (hv:sm v) (hle:¬ v<u) (m:Mem):Gives Tryz.prog 153 [.agg [.lst (ptsV c)],.agg [.int .i64 (Rat.num (u)),.int .i64 ((Rat.den (u):Nat):Int)],.agg [.int .i64 (Rat.num (v)),.int .i64 ((Rat.den (v):Nat):Int)]] m (oV (ptsV (betw c u v))):=by
  have hlen:=ptsV_length (c:=c)
  have hfew:=hc.few
  have hq:¬ 0<cmpQ u v:=fun h=>hle (cmpQ_gt.1 h)
  refine CallA_in Tryz.func153 rfl Tryz.ntmps153 Tryz.results153 (by kernel_rfl) (by simp) fun Q hQ=>?_
  (have FX:=hlen;repeat'(first|(refine sx ?_ ?_<;>intro h<;>first|(exfalso;omega)|skip)|(refine g_op ?_;refine g_call ?_;refine g_args ?_;(first|refine s_fn (acompare_c u v hu hv _) ?_)<;>try first|omega|assumption)|refine ny ?_|refine WA_block ?_|(refine uC12_153_1 ?_;refine⟨by kernel_rfl,?_⟩)|((first|refine grp_cons (fun _=>acompare_c u v hu hv _) ?_)<;>try first|omega|assumption)|(refine g_d ?_;refine d_args ?_;(first|refine d_fn (acompare_c u v hu hv _) ?_|refine d_fnQ (fun _=>acompare_c u v hu hv _) ?_)<;>try first|omega|assumption)|(refine g_d ?_;(first|refine d_fnY (acompare_c u v hu hv _) ?_)<;>try first|omega|assumption)))
  all_goals(try(exfalso;omega))
  all_goals refine WA_whileJ (σ:=Nat) (L:=lend m) [4,5,7,8,9,21,22,23] (btS c u v) (btE c u v u v) (fun i=>i≤c.length) (fun i=>c.length - i) 0 [1,2,5,6] (Nat.zero_le _) ?_ rfl rfl (by decide) (by decide) (fun _ _=>btS_ok) (fun _ _=>btE_ok) ?_
  · simp only [btS,betw,List.take_zero,List.filter_nil,oSt,List.map_cons,List.map_nil,TV.inst,List.getD_cons_zero,List.getD_cons_succ]
    exact tv_
  rintro i hi1 B ⟨D,hB⟩ K hK
  clear FX
  rcases Nat.lt_or_ge i c.length with hi|hi
  · have hga:=ptsV_get hi
    unfold ptV at hga
    have hs:=(hc.sm i hi).1
    have hsu:=betw_succ (lo:=u) (hi:=v) hi
    have h1:=cmpQ_gt (p:=(at' c i).1) (q:=u)
    have h2:=cmpQ_lt (p:=(at' c i).1) (q:=v)
    have hbl:=betw_len (c.take i) u v
    rw [List.length_take] at hbl
    by_cases hin:u<(at' c i).1∧(at' c i).1<v
    · rw [if_pos hin] at hsu
      have g1:=h1.2 hin.1
      have g2:=h2.2 hin.2
      obtain⟨l,hl⟩:∃ l,betw (c.take i) u v=l:=⟨_,rfl⟩
      rw [hl] at hsu
      cases l with
      | nil=>
        rw [List.nil_append] at hsu
        have hll:=hlen
        have hlt:=hlen
        simp only [btS,btE,hl,oSt,oE]
        simp only [List.map_cons,List.map_nil,TB.inst,TV.inst,tv_map,zipT,List.cons_append,List.nil_append,Nat.add_zero]
        (have FX:=And.intro hlen (And.intro hga (And.intro hll hlt));repeat'(first|(refine sx ?_ ?_<;>intro h<;>first|(exfalso;omega)|skip)|(refine g_op ?_;refine g_call ?_;refine g_args ?_;(first|refine s_fn (acompare_c (at' c i).1 u hs hu _) ?_|refine s_fn (acompare_c (at' c i).1 v hs hv _) ?_)<;>try first|omega|assumption)|refine ny ?_|refine WA_block ?_|(refine uC12_153_1 ?_;refine⟨by kernel_rfl,?_⟩)|((first|refine grp_cons (fun _=>acompare_c (at' c i).1 u hs hu _) ?_|refine grp_cons (fun _=>acompare_c (at' c i).1 v hs hv _) ?_)<;>try first|omega|assumption)|(refine g_d ?_;refine d_args ?_;(first|refine d_fn (acompare_c (at' c i).1 u hs hu _) ?_|refine d_fn (acompare_c (at' c i).1 v hs hv _) ?_|refine d_fnQ (fun _=>acompare_c (at' c i).1 u hs hu _) ?_|refine d_fnQ (fun _=>acompare_c (at' c i).1 v hs hv _) ?_)<;>try first|omega|assumption)|(refine g_d ?_;(first|refine d_fnY (acompare_c (at' c i).1 u hs hu _) ?_|refine d_fnY (acompare_c (at' c i).1 v hs hv _) ?_)<;>try first|omega|assumption)))
        all_goals(try(exfalso;omega))
        (refine nextU_ hK (i+1) [0,1,2,3,6] (hi) (by omega) ?_ (ht:=?_);(focus (simp only [btE,hsu,oE,List.map_cons,List.map_nil,TB.inst,TV.inst,tv_map,List.cons_append,List.nil_append];first|rfl|(simp [ptsV,ptV];done)|(simp [hpsV,hpV];done)|(simp [frsV,frV];done)|(simp [txV];done)|(simp [prtsV,prtV];done)));(simp only [btS,hsu,oSt,List.length_nil,Nat.zero_add,List.map_cons,List.map_nil,TV.inst,List.getD_cons_zero,List.getD_cons_succ];exact tv_))
      | cons p r=>
        rw [hl] at hbl
        rw [List.cons_append] at hsu
        have hll:(ptsV (p::r)).length=r.length+1:=ptsV_length
        have hlt:(ptsV (p::r)).take (r.length+1)=ptsV (p::r):=by rw [List.take_of_length_le (by rw [hll];exact Nat.le_refl _)]
        simp only [List.length_cons] at hbl
        simp only [btS,btE,hl,oSt,oE]
        simp only [List.map_cons,List.map_nil,TB.inst,TV.inst,tv_map,zipT,List.cons_append,List.nil_append,Nat.add_zero]
        (have FX:=And.intro hlen (And.intro hga (And.intro hll hlt));repeat'(first|(refine sx ?_ ?_<;>intro h<;>first|(exfalso;omega)|skip)|(refine g_op ?_;refine g_call ?_;refine g_args ?_;(first|refine s_fn (acompare_c (at' c i).1 u hs hu _) ?_|refine s_fn (acompare_c (at' c i).1 v hs hv _) ?_)<;>try first|omega|assumption)|refine ny ?_|refine WA_block ?_|(refine uC12_153_1 ?_;refine⟨by kernel_rfl,?_⟩)|((first|refine grp_cons (fun _=>acompare_c (at' c i).1 u hs hu _) ?_|refine grp_cons (fun _=>acompare_c (at' c i).1 v hs hv _) ?_)<;>try first|omega|assumption)|(refine g_d ?_;refine d_args ?_;(first|refine d_fn (acompare_c (at' c i).1 u hs hu _) ?_|refine d_fn (acompare_c (at' c i).1 v hs hv _) ?_|refine d_fnQ (fun _=>acompare_c (at' c i).1 u hs hu _) ?_|refine d_fnQ (fun _=>acompare_c (at' c i).1 v hs hv _) ?_)<;>try first|omega|assumption)|(refine g_d ?_;(first|refine d_fnY (acompare_c (at' c i).1 u hs hu _) ?_|refine d_fnY (acompare_c (at' c i).1 v hs hv _) ?_)<;>try first|omega|assumption)))
        all_goals(try(exfalso;omega))
        (refine nextU_ hK (i+1) [0,1,2,3,7] (hi) (by omega) ?_ (ht:=?_);(focus (simp only [btE,hsu,oE,List.map_cons,List.map_nil,TB.inst,TV.inst,tv_map,List.cons_append,List.nil_append];first|rfl|(simp [ptsV,ptV];done)|(simp [hpsV,hpV];done)|(simp [frsV,frV];done)|(simp [txV];done)|(simp [prtsV,prtV];done)));(simp only [btS,hsu,oSt,List.length_append,List.length_cons,List.length_nil,Nat.zero_add,List.map_cons,List.map_nil,TV.inst,List.getD_cons_zero,List.getD_cons_succ];exact tv_))
    · rw [if_neg hin,List.append_nil] at hsu
      have g0:¬ (0<cmpQ (at' c i).1 u∧cmpQ (at' c i).1 v<0):=fun h=>hin ⟨h1.1 h.1,h2.1 h.2⟩
      obtain⟨l,hl⟩:∃ l,betw (c.take i) u v=l:=⟨_,rfl⟩
      rw [hl] at hsu
      cases l with
      | nil=>
        have hll:=hlen
        have hlt:=hlen
        simp only [btS,btE,hl,oSt,oE]
        simp only [List.map_cons,List.map_nil,TB.inst,TV.inst,tv_map,zipT,List.cons_append,List.nil_append,Nat.add_zero]
        (have FX:=And.intro hlen (And.intro hga (And.intro hll hlt));repeat'(first|(refine sx ?_ ?_<;>intro h<;>first|(exfalso;omega)|skip)|(refine g_op ?_;refine g_call ?_;refine g_args ?_;(first|refine s_fn (acompare_c (at' c i).1 u hs hu _) ?_|refine s_fn (acompare_c (at' c i).1 v hs hv _) ?_)<;>try first|omega|assumption)|refine ny ?_|refine WA_block ?_|(refine uC12_153_1 ?_;refine⟨by kernel_rfl,?_⟩)|((first|refine grp_cons (fun _=>acompare_c (at' c i).1 u hs hu _) ?_|refine grp_cons (fun _=>acompare_c (at' c i).1 v hs hv _) ?_)<;>try first|omega|assumption)|(refine g_d ?_;refine d_args ?_;(first|refine d_fn (acompare_c (at' c i).1 u hs hu _) ?_|refine d_fn (acompare_c (at' c i).1 v hs hv _) ?_|refine d_fnQ (fun _=>acompare_c (at' c i).1 u hs hu _) ?_|refine d_fnQ (fun _=>acompare_c (at' c i).1 v hs hv _) ?_)<;>try first|omega|assumption)|(refine g_d ?_;(first|refine d_fnY (acompare_c (at' c i).1 u hs hu _) ?_|refine d_fnY (acompare_c (at' c i).1 v hs hv _) ?_)<;>try first|omega|assumption)))
        all_goals(try(exfalso;omega))
        all_goals((refine nextU_ hK (i+1) [0,1,2,3] (hi) (by omega) ?_ (ht:=?_);(focus (simp only [btE,hsu,oE,List.map_cons,List.map_nil,TB.inst,TV.inst,tv_map,List.cons_append,List.nil_append];first|rfl|(simp [ptsV,ptV];done)|(simp [hpsV,hpV];done)|(simp [frsV,frV];done)|(simp [txV];done)|(simp [prtsV,prtV];done)));(simp only [btS,hsu,oSt,List.map_cons,List.map_nil,TV.inst,List.getD_cons_zero,List.getD_cons_succ];exact tv_)))
      | cons p r=>
        rw [hl] at hbl
        have hll:(ptsV (p::r)).length=r.length+1:=ptsV_length
        have hlt:(ptsV (p::r)).take (r.length+1)=ptsV (p::r):=by rw [List.take_of_length_le (by rw [hll];exact Nat.le_refl _)]
        simp only [List.length_cons] at hbl
        simp only [btS,btE,hl,oSt,oE]
        simp only [List.map_cons,List.map_nil,TB.inst,TV.inst,tv_map,zipT,List.cons_append,List.nil_append,Nat.add_zero]
        (have FX:=And.intro hlen (And.intro hga (And.intro hll hlt));repeat'(first|(refine sx ?_ ?_<;>intro h<;>first|(exfalso;omega)|skip)|(refine g_op ?_;refine g_call ?_;refine g_args ?_;(first|refine s_fn (acompare_c (at' c i).1 u hs hu _) ?_|refine s_fn (acompare_c (at' c i).1 v hs hv _) ?_)<;>try first|omega|assumption)|refine ny ?_|refine WA_block ?_|(refine uC12_153_1 ?_;refine⟨by kernel_rfl,?_⟩)|((first|refine grp_cons (fun _=>acompare_c (at' c i).1 u hs hu _) ?_|refine grp_cons (fun _=>acompare_c (at' c i).1 v hs hv _) ?_)<;>try first|omega|assumption)|(refine g_d ?_;refine d_args ?_;(first|refine d_fn (acompare_c (at' c i).1 u hs hu _) ?_|refine d_fn (acompare_c (at' c i).1 v hs hv _) ?_|refine d_fnQ (fun _=>acompare_c (at' c i).1 u hs hu _) ?_|refine d_fnQ (fun _=>acompare_c (at' c i).1 v hs hv _) ?_)<;>try first|omega|assumption)|(refine g_d ?_;(first|refine d_fnY (acompare_c (at' c i).1 u hs hu _) ?_|refine d_fnY (acompare_c (at' c i).1 v hs hv _) ?_)<;>try first|omega|assumption)))
        all_goals(try(exfalso;omega))
        all_goals((refine nextU_ hK (i+1) [0,1,2,3,4] (hi) (by omega) ?_ (ht:=?_);(focus (simp only [btE,hsu,oE,List.map_cons,List.map_nil,TB.inst,TV.inst,tv_map,List.cons_append,List.nil_append];first|rfl|(simp [ptsV,ptV];done)|(simp [hpsV,hpV];done)|(simp [frsV,frV];done)|(simp [txV];done)|(simp [prtsV,prtV];done)));(simp only [btS,hsu,oSt,List.map_cons,List.map_nil,TV.inst,List.getD_cons_zero,List.getD_cons_succ];exact tv_)))
  · have hie:i=c.length:=by omega
    subst hie
    obtain⟨l,hl⟩:∃ l,betw c u v=l:=⟨_,rfl⟩
    have hl':betw (c.take c.length) u v=l:=by rw [List.take_length];exact hl
    rw [hl] at hQ
    cases l with
    | nil=>
      simp only [ptsV,List.map_nil,oV] at hQ
      simp only [btS,btE,hl',oSt,oE]
      simp only [List.map_cons,List.map_nil,TB.inst,TV.inst,tv_map,zipT,List.cons_append,List.nil_append,Nat.add_zero]
      (have FX:=hlen;repeat'(first|(refine sx ?_ ?_<;>intro h<;>first|(exfalso;omega)|skip)|(refine g_op ?_;refine g_call ?_;refine g_args ?_;(first|refine s_fn (acompare_c u v hu hv _) ?_)<;>try first|omega|assumption)|refine ny ?_|refine WA_block ?_|(refine uC12_153_1 ?_;refine⟨by kernel_rfl,?_⟩)|((first|refine grp_cons (fun _=>acompare_c u v hu hv _) ?_)<;>try first|omega|assumption)|(refine g_d ?_;refine d_args ?_;(first|refine d_fn (acompare_c u v hu hv _) ?_|refine d_fnQ (fun _=>acompare_c u v hu hv _) ?_)<;>try first|omega|assumption)|(refine g_d ?_;(first|refine d_fnY (acompare_c u v hu hv _) ?_)<;>try first|omega|assumption)))
      all_goals(try(exfalso;omega))
      all_goals(refine r_esA hQ (.inl ⟨rfl,rfl,rfl⟩))
    | cons p r=>
      have hll:(ptsV (p::r)).length=r.length+1:=ptsV_length
      simp only [btS,btE,hl',oSt,oE]
      simp only [List.map_cons,List.map_nil,TB.inst,TV.inst,tv_map,zipT,List.cons_append,List.nil_append,Nat.add_zero]
      (have FX:=hlen;repeat'(first|(refine sx ?_ ?_<;>intro h<;>first|(exfalso;omega)|skip)|(refine g_op ?_;refine g_call ?_;refine g_args ?_;(first|refine s_fn (acompare_c u v hu hv _) ?_)<;>try first|omega|assumption)|refine ny ?_|refine WA_block ?_|(refine uC12_153_1 ?_;refine⟨by kernel_rfl,?_⟩)|((first|refine grp_cons (fun _=>acompare_c u v hu hv _) ?_)<;>try first|omega|assumption)|(refine g_d ?_;refine d_args ?_;(first|refine d_fn (acompare_c u v hu hv _) ?_|refine d_fnQ (fun _=>acompare_c u v hu hv _) ?_)<;>try first|omega|assumption)|(refine g_d ?_;(first|refine d_fnY (acompare_c u v hu hv _) ?_)<;>try first|omega|assumption)))
      all_goals(try(exfalso;omega))
      all_goals(refine r_esA hQ ?_)
      all_goals(refine fin_sl (D:=D) (j:=4) hB rfl (by rw [hll];exact Nat.le_refl _) (by rw [List.take_of_length_le (by rw [hll];exact Nat.le_refl _)];exact ptsV_plain _) ⟨?_,rfl⟩)
      all_goals(rw [List.take_of_length_le (by rw [hll];exact Nat.le_refl _)];rfl)
theorem between_dn (c:List Pt) (u v:Rat) (hc:Valid c) (hu:sm u) (hv:sm v) (hlt0:v<u) (m:Mem):Gives Tryz.prog 153 [.agg [.lst (ptsV c)],.agg [.int .i64 (Rat.num (u)),.int .i64 ((Rat.den (u):Nat):Int)],.agg [.int .i64 (Rat.num (v)),.int .i64 ((Rat.den (v):Nat):Int)]] m (oV (ptsV (betw c v u).reverse)):=by
  have hlen:=ptsV_length (c:=c)
  have hfew:=hc.few
  have hq:0<cmpQ u v:=cmpQ_gt.2 hlt0
  refine CallA_in Tryz.func153 rfl Tryz.ntmps153 Tryz.results153 (by kernel_rfl) (by simp) fun Q hQ=>?_
  (have FX:=hlen;repeat'(first|(refine sx ?_ ?_<;>intro h<;>first|(exfalso;omega)|skip)|(refine g_op ?_;refine g_call ?_;refine g_args ?_;(first|refine s_fn (acompare_c u v hu hv _) ?_)<;>try first|omega|assumption)|refine ny ?_|refine WA_block ?_|(refine uC12_153_1 ?_;refine⟨by kernel_rfl,?_⟩)|((first|refine grp_cons (fun _=>acompare_c u v hu hv _) ?_)<;>try first|omega|assumption)|(refine g_d ?_;refine d_args ?_;(first|refine d_fn (acompare_c u v hu hv _) ?_|refine d_fnQ (fun _=>acompare_c u v hu hv _) ?_)<;>try first|omega|assumption)|(refine g_d ?_;(first|refine d_fnY (acompare_c u v hu hv _) ?_)<;>try first|omega|assumption)))
  all_goals(try(exfalso;omega))
  all_goals refine WA_whileJ (σ:=Nat) (L:=lend m) [4,5,7,8,9,21,22,23] (btS c v u) (btE c u v v u) (fun i=>i≤c.length) (fun i=>c.length - i) 0 [1,2,5,6] (Nat.zero_le _) ?_ rfl rfl (by decide) (by decide) (fun _ _=>btS_ok) (fun _ _=>btE_ok) ?_
  · simp only [btS,betw,List.take_zero,List.filter_nil,oSt,List.map_cons,List.map_nil,TV.inst,List.getD_cons_zero,List.getD_cons_succ]
    exact tv_
  rintro i hi1 B ⟨D,hB⟩ K hK
  clear FX
  rcases Nat.lt_or_ge i c.length with hi|hi
  · have hga:=ptsV_get hi
    unfold ptV at hga
    have hs:=(hc.sm i hi).1
    have hsu:=betw_succ (lo:=v) (hi:=u) hi
    have h1:=cmpQ_gt (p:=(at' c i).1) (q:=v)
    have h2:=cmpQ_lt (p:=(at' c i).1) (q:=u)
    have hbl:=betw_len (c.take i) v u
    rw [List.length_take] at hbl
    by_cases hin:v<(at' c i).1∧(at' c i).1<u
    · rw [if_pos hin] at hsu
      have g1:=h1.2 hin.1
      have g2:=h2.2 hin.2
      obtain⟨l,hl⟩:∃ l,betw (c.take i) v u=l:=⟨_,rfl⟩
      rw [hl] at hsu
      cases l with
      | nil=>
        rw [List.nil_append] at hsu
        have hll:=hlen
        have hlt:=hlen
        simp only [btS,btE,hl,oSt,oE]
        simp only [List.map_cons,List.map_nil,TB.inst,TV.inst,tv_map,zipT,List.cons_append,List.nil_append,Nat.add_zero]
        (have FX:=And.intro hlen (And.intro hga (And.intro hll hlt));repeat'(first|(refine sx ?_ ?_<;>intro h<;>first|(exfalso;omega)|skip)|(refine g_op ?_;refine g_call ?_;refine g_args ?_;(first|refine s_fn (acompare_c (at' c i).1 u hs hu _) ?_|refine s_fn (acompare_c (at' c i).1 v hs hv _) ?_)<;>try first|omega|assumption)|refine ny ?_|refine WA_block ?_|(refine uC12_153_1 ?_;refine⟨by kernel_rfl,?_⟩)|((first|refine grp_cons (fun _=>acompare_c (at' c i).1 u hs hu _) ?_|refine grp_cons (fun _=>acompare_c (at' c i).1 v hs hv _) ?_)<;>try first|omega|assumption)|(refine g_d ?_;refine d_args ?_;(first|refine d_fn (acompare_c (at' c i).1 u hs hu _) ?_|refine d_fn (acompare_c (at' c i).1 v hs hv _) ?_|refine d_fnQ (fun _=>acompare_c (at' c i).1 u hs hu _) ?_|refine d_fnQ (fun _=>acompare_c (at' c i).1 v hs hv _) ?_)<;>try first|omega|assumption)|(refine g_d ?_;(first|refine d_fnY (acompare_c (at' c i).1 u hs hu _) ?_|refine d_fnY (acompare_c (at' c i).1 v hs hv _) ?_)<;>try first|omega|assumption)))
        all_goals(try(exfalso;omega))
        (refine nextU_ hK (i+1) [0,1,2,3,6] (hi) (by omega) ?_ (ht:=?_);(focus (simp only [btE,hsu,oE,List.map_cons,List.map_nil,TB.inst,TV.inst,tv_map,List.cons_append,List.nil_append];first|rfl|(simp [ptsV,ptV];done)|(simp [hpsV,hpV];done)|(simp [frsV,frV];done)|(simp [txV];done)|(simp [prtsV,prtV];done)));(simp only [btS,hsu,oSt,List.length_nil,Nat.zero_add,List.map_cons,List.map_nil,TV.inst,List.getD_cons_zero,List.getD_cons_succ];exact tv_))
      | cons p r=>
        rw [hl] at hbl
        rw [List.cons_append] at hsu
        have hll:(ptsV (p::r)).length=r.length+1:=ptsV_length
        have hlt:(ptsV (p::r)).take (r.length+1)=ptsV (p::r):=by rw [List.take_of_length_le (by rw [hll];exact Nat.le_refl _)]
        simp only [List.length_cons] at hbl
        simp only [btS,btE,hl,oSt,oE]
        simp only [List.map_cons,List.map_nil,TB.inst,TV.inst,tv_map,zipT,List.cons_append,List.nil_append,Nat.add_zero]
        (have FX:=And.intro hlen (And.intro hga (And.intro hll hlt));repeat'(first|(refine sx ?_ ?_<;>intro h<;>first|(exfalso;omega)|skip)|(refine g_op ?_;refine g_call ?_;refine g_args ?_;(first|refine s_fn (acompare_c (at' c i).1 u hs hu _) ?_|refine s_fn (acompare_c (at' c i).1 v hs hv _) ?_)<;>try first|omega|assumption)|refine ny ?_|refine WA_block ?_|(refine uC12_153_1 ?_;refine⟨by kernel_rfl,?_⟩)|((first|refine grp_cons (fun _=>acompare_c (at' c i).1 u hs hu _) ?_|refine grp_cons (fun _=>acompare_c (at' c i).1 v hs hv _) ?_)<;>try first|omega|assumption)|(refine g_d ?_;refine d_args ?_;(first|refine d_fn (acompare_c (at' c i).1 u hs hu _) ?_|refine d_fn (acompare_c (at' c i).1 v hs hv _) ?_|refine d_fnQ (fun _=>acompare_c (at' c i).1 u hs hu _) ?_|refine d_fnQ (fun _=>acompare_c (at' c i).1 v hs hv _) ?_)<;>try first|omega|assumption)|(refine g_d ?_;(first|refine d_fnY (acompare_c (at' c i).1 u hs hu _) ?_|refine d_fnY (acompare_c (at' c i).1 v hs hv _) ?_)<;>try first|omega|assumption)))
        all_goals(try(exfalso;omega))
        (refine nextU_ hK (i+1) [0,1,2,3,7] (hi) (by omega) ?_ (ht:=?_);(focus (simp only [btE,hsu,oE,List.map_cons,List.map_nil,TB.inst,TV.inst,tv_map,List.cons_append,List.nil_append];first|rfl|(simp [ptsV,ptV];done)|(simp [hpsV,hpV];done)|(simp [frsV,frV];done)|(simp [txV];done)|(simp [prtsV,prtV];done)));(simp only [btS,hsu,oSt,List.length_append,List.length_cons,List.length_nil,Nat.zero_add,List.map_cons,List.map_nil,TV.inst,List.getD_cons_zero,List.getD_cons_succ];exact tv_))
    · rw [if_neg hin,List.append_nil] at hsu
      have g0:¬ (0<cmpQ (at' c i).1 v∧cmpQ (at' c i).1 u<0):=fun h=>hin ⟨h1.1 h.1,h2.1 h.2⟩
      obtain⟨l,hl⟩:∃ l,betw (c.take i) v u=l:=⟨_,rfl⟩
      rw [hl] at hsu
      cases l with
      | nil=>
        have hll:=hlen
        have hlt:=hlen
        simp only [btS,btE,hl,oSt,oE]
        simp only [List.map_cons,List.map_nil,TB.inst,TV.inst,tv_map,zipT,List.cons_append,List.nil_append,Nat.add_zero]
        (have FX:=And.intro hlen (And.intro hga (And.intro hll hlt));repeat'(first|(refine sx ?_ ?_<;>intro h<;>first|(exfalso;omega)|skip)|(refine g_op ?_;refine g_call ?_;refine g_args ?_;(first|refine s_fn (acompare_c (at' c i).1 u hs hu _) ?_|refine s_fn (acompare_c (at' c i).1 v hs hv _) ?_)<;>try first|omega|assumption)|refine ny ?_|refine WA_block ?_|(refine uC12_153_1 ?_;refine⟨by kernel_rfl,?_⟩)|((first|refine grp_cons (fun _=>acompare_c (at' c i).1 u hs hu _) ?_|refine grp_cons (fun _=>acompare_c (at' c i).1 v hs hv _) ?_)<;>try first|omega|assumption)|(refine g_d ?_;refine d_args ?_;(first|refine d_fn (acompare_c (at' c i).1 u hs hu _) ?_|refine d_fn (acompare_c (at' c i).1 v hs hv _) ?_|refine d_fnQ (fun _=>acompare_c (at' c i).1 u hs hu _) ?_|refine d_fnQ (fun _=>acompare_c (at' c i).1 v hs hv _) ?_)<;>try first|omega|assumption)|(refine g_d ?_;(first|refine d_fnY (acompare_c (at' c i).1 u hs hu _) ?_|refine d_fnY (acompare_c (at' c i).1 v hs hv _) ?_)<;>try first|omega|assumption)))
        all_goals(try(exfalso;omega))
        all_goals((refine nextU_ hK (i+1) [0,1,2,3] (hi) (by omega) ?_ (ht:=?_);(focus (simp only [btE,hsu,oE,List.map_cons,List.map_nil,TB.inst,TV.inst,tv_map,List.cons_append,List.nil_append];first|rfl|(simp [ptsV,ptV];done)|(simp [hpsV,hpV];done)|(simp [frsV,frV];done)|(simp [txV];done)|(simp [prtsV,prtV];done)));(simp only [btS,hsu,oSt,List.map_cons,List.map_nil,TV.inst,List.getD_cons_zero,List.getD_cons_succ];exact tv_)))
      | cons p r=>
        rw [hl] at hbl
        have hll:(ptsV (p::r)).length=r.length+1:=ptsV_length
        have hlt:(ptsV (p::r)).take (r.length+1)=ptsV (p::r):=by rw [List.take_of_length_le (by rw [hll];exact Nat.le_refl _)]
        simp only [List.length_cons] at hbl
        simp only [btS,btE,hl,oSt,oE]
        simp only [List.map_cons,List.map_nil,TB.inst,TV.inst,tv_map,zipT,List.cons_append,List.nil_append,Nat.add_zero]
        (have FX:=And.intro hlen (And.intro hga (And.intro hll hlt));repeat'(first|(refine sx ?_ ?_<;>intro h<;>first|(exfalso;omega)|skip)|(refine g_op ?_;refine g_call ?_;refine g_args ?_;(first|refine s_fn (acompare_c (at' c i).1 u hs hu _) ?_|refine s_fn (acompare_c (at' c i).1 v hs hv _) ?_)<;>try first|omega|assumption)|refine ny ?_|refine WA_block ?_|(refine uC12_153_1 ?_;refine⟨by kernel_rfl,?_⟩)|((first|refine grp_cons (fun _=>acompare_c (at' c i).1 u hs hu _) ?_|refine grp_cons (fun _=>acompare_c (at' c i).1 v hs hv _) ?_)<;>try first|omega|assumption)|(refine g_d ?_;refine d_args ?_;(first|refine d_fn (acompare_c (at' c i).1 u hs hu _) ?_|refine d_fn (acompare_c (at' c i).1 v hs hv _) ?_|refine d_fnQ (fun _=>acompare_c (at' c i).1 u hs hu _) ?_|refine d_fnQ (fun _=>acompare_c (at' c i).1 v hs hv _) ?_)<;>try first|omega|assumption)|(refine g_d ?_;(first|refine d_fnY (acompare_c (at' c i).1 u hs hu _) ?_|refine d_fnY (acompare_c (at' c i).1 v hs hv _) ?_)<;>try first|omega|assumption)))
        all_goals(try(exfalso;omega))
        all_goals((refine nextU_ hK (i+1) [0,1,2,3,4] (hi) (by omega) ?_ (ht:=?_);(focus (simp only [btE,hsu,oE,List.map_cons,List.map_nil,TB.inst,TV.inst,tv_map,List.cons_append,List.nil_append];first|rfl|(simp [ptsV,ptV];done)|(simp [hpsV,hpV];done)|(simp [frsV,frV];done)|(simp [txV];done)|(simp [prtsV,prtV];done)));(simp only [btS,hsu,oSt,List.map_cons,List.map_nil,TV.inst,List.getD_cons_zero,List.getD_cons_succ];exact tv_)))
  · have hie:i=c.length:=by omega
    subst hie
    obtain⟨l,hl⟩:∃ l,betw c v u=l:=⟨_,rfl⟩
    have hl':betw (c.take c.length) v u=l:=by rw [List.take_length];exact hl
    rw [hl] at hQ
    cases l with
    | nil=>
      simp only [ptsV,List.reverse_nil,List.map_nil,oV] at hQ
      simp only [btS,btE,hl',oSt,oE]
      simp only [List.map_cons,List.map_nil,TB.inst,TV.inst,tv_map,zipT,List.cons_append,List.nil_append,Nat.add_zero]
      (have FX:=hlen;repeat'(first|(refine sx ?_ ?_<;>intro h<;>first|(exfalso;omega)|skip)|(refine g_op ?_;refine g_call ?_;refine g_args ?_;(first|refine s_fn (acompare_c u v hu hv _) ?_|refine s_fn (reverse_nil _) ?_)<;>try first|omega|assumption)|refine ny ?_|refine WA_block ?_|(refine uC12_153_1 ?_;refine⟨by kernel_rfl,?_⟩)|((first|refine grp_cons (fun _=>acompare_c u v hu hv _) ?_|refine grp_cons (fun _=>reverse_nil _) ?_)<;>try first|omega|assumption)|(refine g_d ?_;refine d_args ?_;(first|refine d_fn (acompare_c u v hu hv _) ?_|refine d_fn (reverse_nil _) ?_|refine d_fnQ (fun _=>acompare_c u v hu hv _) ?_|refine d_fnQ (fun _=>reverse_nil _) ?_)<;>try first|omega|assumption)|(refine g_d ?_;(first|refine d_fnY (acompare_c u v hu hv _) ?_|refine d_fnY (reverse_nil _) ?_)<;>try first|omega|assumption)))
      all_goals(try(exfalso;omega))
      all_goals(refine r_esA hQ (.inl ⟨rfl,rfl,rfl⟩))
    | cons p r=>
      have hll:(ptsV (p::r)).length=r.length+1:=ptsV_length
      have hbl:=betw_len c v u
      rw [hl] at hbl
      have hrl:(ptsV (p::r).reverse).length=r.length+1:=by rw [ptsV_length];simp
      have hrv:=fun b=>reverse_w b (p::r) (by simp) (by omega)
      have hoV:oV (ptsV (p::r).reverse)= .lst (ptsV (p::r).reverse):=by
        cases hx:ptsV (p::r).reverse with
        |nil=>rw [hx] at hrl;simp at hrl
        |cons e es=>rfl
      rw [hoV] at hQ
      simp only [List.length_cons] at hrv
      simp only [btS,btE,hl',oSt,oE]
      simp only [List.map_cons,List.map_nil,TB.inst,TV.inst,tv_map,zipT,List.cons_append,List.nil_append,Nat.add_zero]
      (have FX:=hlen;repeat'(first|(refine sx ?_ ?_<;>intro h<;>first|(exfalso;omega)|skip)|(refine g_op ?_;refine g_call ?_;refine g_args ?_;(first|refine s_fn (acompare_c u v hu hv _) ?_|refine s_fnW (hrv _) ?_)<;>try first|omega|assumption)|refine ny ?_|refine WA_block ?_|(refine uC12_153_1 ?_;refine⟨by kernel_rfl,?_⟩)|((first|refine grp_cons (fun _=>acompare_c u v hu hv _) ?_|refine grp_w (hrv _) ?_)<;>try first|omega|assumption)|(refine g_d ?_;refine d_args ?_;(first|refine d_fn (acompare_c u v hu hv _) ?_|refine d_fnW (hrv _) ?_|refine d_fnQ (fun _=>acompare_c u v hu hv _) ?_)<;>try first|omega|assumption)|(refine g_d ?_;(first|refine d_fnY (acompare_c u v hu hv _) ?_)<;>try first|omega|assumption)))
      all_goals(try(exfalso;omega))
      all_goals(refine r_esA hQ ?_)
      all_goals(refine fin_sl (D:=D) (j:=4) hB rfl (by rw [hrl];exact Nat.le_refl _) (by rw [List.take_of_length_le (by rw [hrl];exact Nat.le_refl _)];exact ptsV_plain _) ⟨?_,rfl⟩)
      all_goals(rw [List.take_of_length_le (by rw [hrl];exact Nat.le_refl _)])
theorem between_c(c:List Pt)(u v:Rat)(hc:Valid c)(hu:sm u)(hv:sm v)(m:Mem):Gives Tryz.prog 153 [.agg [.lst (ptsV c)],.agg [.int .i64 (Rat.num (u)),.int .i64 ((Rat.den (u):Nat):Int)],.agg [.int .i64 (Rat.num (v)),.int .i64 ((Rat.den (v):Nat):Int)]] m (.lst (ptsV (betwP c u v))):=by
  unfold betwP
  by_cases h:v<u
  · rw [if_pos h];exact Gives_weak (between_dn c u v hc hu hv h m) (wk_oV _)
  · rw [if_neg h];exact Gives_weak (between_up c u v hc hu hv h m) (wk_oV _)
end Go.Proofs.YtomkbpoicjabfaaGreatDoor
