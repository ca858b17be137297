import Derived.Test.YtookikhphobnlaaGreatDoorGAP
import Derived.Test.YtookikhphobnlaaGreatDoorB9
set_option linter.unusedSimpArgs false
set_option linter.unusedVariables false
/- contracts: shallow benches, comparisons of lists, steps -/
namespace Go.Proofs.YtookikhphobnlaaGreatDoor
open Go.RowKit
attribute [local irreducible] WA WOs WDs WAn qThen qBlock tput
set_option maxHeartbeats 1000000
set_option maxRecDepth 20000
set_option linter.unusedSimpArgs false
set_option linter.unusedVariables false
theorem uB31_20_6{N:Nat}{l:List Oper}{t:List (Nat×V)}{m:Mem}{Q:Exit→List (Nat×V)→Mem→Prop}(h:RgN Tryz.prog N l t m Q (fun i=>if i==3 || i==7 then .q else .p) [.one 0,.one 1,.one 2,.one 3,.one 4,.one 5,.one 6,.one 7,.one 8]):WA Tryz.prog N (.region 6 l.toArray true) t m Q:=d_rgN h
theorem bints_c(l k:List Int)(hl:l.length≤100000)(m:Mem):Gives Tryz.prog 20 [.lst (nsV l),.lst (nsV k)] m (.bool (decide (l=k))):=by
  have hln:=nsV_length (l:=l)
  have hlk:=nsV_length (l:=k)
  have hga:=hln
  have hgb:=hln
  refine Gives_in Tryz.func20 rfl Tryz.ntmps20 Tryz.results20 (by kernel_rfl) (by simp) rfl fun Q hQ=>?_
  (have FX:=And.intro hln (And.intro hlk (And.intro hga hgb));repeat'(first|(refine sx ?_ ?_<;>intro h<;>first|(exfalso;omega)|skip)|refine ny ?_|refine WA_block ?_|(refine uB31_20_6 ?_;refine⟨by kernel_rfl,?_⟩)))
  all_goals(try(exfalso;omega))
  all_goals try
    ((refine r_es hQ ?_;try with_reducible rfl)
     exact congrArg V.bool (decide_eq_false (fun e=>by subst e;omega)).symm)
  have hlb:k.length=l.length:=by omega
  refine WA_while (σ:=Nat) [0,1,5] (fun i=>[.lst (nsV l),.lst (nsV k),.int .i64 i]) (fun _=>lend m++[]) (fun i=>i≤l.length∧∀ j,j<i→l.getD j 0=k.getD j 0) (fun i=>l.length - i) 0 ⟨Nat.zero_le _,fun j h=>absurd h (Nat.not_lt_zero _)⟩ tv_ rfl ?_
  rintro i ⟨hi1,hi2⟩ K hK
  simp only [zipT]
  clear FX hga hgb
  rcases Nat.lt_or_ge i l.length with hi|hi
  · have hga:=nsV_get (l:=l) (i:=i) hi
    have hgb:=nsV_get (l:=k) (i:=i) (by omega)
    have hbad:¬ l.getD i 0=k.getD i 0→decide (l=k)=false:=fun h=>decide_eq_false fun e=>h (by rw [e])
    have hsu:=ext_all hi2
    generalize l.getD i 0=x at *
    generalize k.getD i 0=y at *
    (have FX:=And.intro hln (And.intro hlk (And.intro hga hgb));repeat'(first|(refine sx ?_ ?_<;>intro h<;>first|(exfalso;omega)|skip)|refine ny ?_|refine WA_block ?_|(refine uB31_20_6 ?_;refine⟨by kernel_rfl,?_⟩)))
    all_goals(try(exfalso;omega))
    all_goals try
      ((refine r_es hQ ?_;try with_reducible rfl)
       exact congrArg V.bool (hbad (by omega)).symm)
    all_goals(refine next_ hK (i+1) ⟨hi,hsu (by omega)⟩ (by omega))
  · obtain rfl:i=l.length:=by omega
    have hga:=hln
    have hgb:=hln
    have he:l=k:=List.ext_getElem hlb.symm fun j h1 h2=>by
      have:=hi2 j h1
      rwa [List.getD_eq_getElem?_getD,List.getElem?_eq_getElem h1,List.getD_eq_getElem?_getD,List.getElem?_eq_getElem h2] at this
    (have FX:=And.intro hln (And.intro hlk (And.intro hga hgb));repeat'(first|(refine sx ?_ ?_<;>intro h<;>first|(exfalso;omega)|skip)|refine ny ?_|refine WA_block ?_|(refine uB31_20_6 ?_;refine⟨by kernel_rfl,?_⟩)))
    all_goals(try(exfalso;omega))
    all_goals((refine r_es hQ ?_;try with_reducible rfl))
    all_goals exact congrArg V.bool (decide_eq_true he).symm
end Go.Proofs.YtookikhphobnlaaGreatDoor
namespace Go.Proofs.YtookikhphobnlaaGreatDoor
open Go.RowKit
def niSt(k:Nat):List Int→TV
  |[]=> .v .nilsl
  |_::r=> .sl k (r.length+1)
def niE:List Int→List TB
  |[]=>[]
  |p::r=>[.cells .own 3 1 ((nsV (p::r)).map (List.map TV.v))]
end Go.Proofs.YtookikhphobnlaaGreatDoor
namespace Go.Proofs.YtookikhphobnlaaGreatDoor
open Go.RowKit
attribute [local irreducible] WA WOs WDs WAn qThen qBlock tput
set_option maxHeartbeats 1000000
set_option maxRecDepth 20000
set_option linter.unusedSimpArgs false
set_option linter.unusedVariables false

theorem niE_ok{out:List Int}:(niE out).all (TB.ok (niE out).length)=true:=by
  cases out with
  |nil=>simp [niE]
  |cons p r=>simp only [niE,List.all_cons,TB.ok,TV.okT,List.all_nil,Bool.and_true,Bool.and_self,tvs_ok,List.length_cons,List.length_nil]
theorem niS_ok{out:List Int}{l1 l2:List V}:(l1.map TV.v++niSt 0 out::l2.map TV.v).all (TV.okT (niE out).length)=true:=by
  have h:∀ (ls:List V) n,(ls.map TV.v).all (TV.okT n)=true:=fun ls n=>by simp [TV.okT]
  rw [List.all_append,List.all_cons,h,h]
  cases out with
  |nil=>simp [TV.okT,niSt]
  |cons p r=>simp [TV.okT,niSt,niE]
theorem fin_sli2{m0 D X B:Mem}{j k:Nat}{st:Sta}{ty sz:Nat}{es:List (List V)}{c:Int}{R:V→Option Mem→Prop}(hB:B=lend m0++D)(hX:X[j]?=some (.cells st ty sz es))(hk:es.length=k)(hp:plainLL es=true)(h:R (.tup [.lst es,.int .i64 c]) none):Fin m0 R (.tup [.sl (B.length+j) k,.int .i64 c]) (B++X):=by
  subst hB
  refine .inr ⟨D++X,_,by simp,?_,h⟩
  show(frzs (frz _ _ 3) [_,_]).map V.tup=_
  have e:frz ((lend m0++D)++X) m0.length 3 (.sl ((lend m0++D).length+j) k)=some (.lst es):=frz_own (m0:=m0) (D:=D) (n:=2) (j:=j) hX hk hp
  rw [frzs_cons e (frzs_cons (frz_int _ _ _ _ _) rfl)]
  rfl
theorem gValues_ok (b:BnR) (hb:Bl b) (l:List Int) (h0:bsErr b l=0) (m:Mem):Gives Tryz.prog 23 [.agg (bnV b),.lst (nsV l)] m (.tup [.lst (nsV (valsP b l b.ms.length)),.int .i64 0]):=by
  have hlm:=mssV_length (l:=b.ms)
  have hll:=hlm
  have hlt:=hlm
  have hva:=hlm
  unfold bsErr at h0
  have h:bnErr b=0:=by
    by_cases h:bnErr b=0
    · exact h
    · rw [if_pos h] at h0;exact h0
  rw [if_neg (by omega)] at h0
  have hbd:=bnd_ok (bn_ok h)
  have hfm:=hbd.fm
  have hst:=stErr_ok h0
  have hsb:=steps_bd hbd hst.2
  have hwi:=fun m=>gwith_ok b hb h l m
  rw [h0] at hwi
  suffices key:CallA Tryz.prog 23 [.agg (bnV b),.lst (nsV l)] m (fun v mo=>mo=none∧WkV v (.tup [.lst (nsV (valsP b l b.ms.length)),.int .i64 0])) from Gives_of key fun v mo h=>h
  unfold bnV at hwi ⊢
  refine CallA_in Tryz.func23 rfl Tryz.ntmps23 Tryz.results23 (by kernel_rfl) (by simp) fun Q hQ=>?_
  (have FX:=And.intro hlm (And.intro hll hlt);repeat'(first|(refine sx ?_ ?_<;>intro h<;>first|(exfalso;omega)|skip)|(refine g_op ?_;refine g_call ?_;refine g_args ?_;(first|refine s_fn (hwi _) ?_|refine s_fn (hva _) ?_)<;>try first|omega|assumption)|refine ny ?_|refine WA_block ?_))
  all_goals(try(exfalso;omega))
  refine WA_whileJ (σ:=Nat) (L:=lend m) [1,6,21,8,22] (fun i=>[.v (.lst (nsV l)),.v (.bp (bxC b) 0),.v (.int .i64 b.ms.length),niSt 0 (valsP b l i),.v (.int .i64 i)]) (fun i=>niE (valsP b l i)) (fun i=>i≤b.ms.length) (fun i=>b.ms.length - i) 0 [] (Nat.zero_le _) ?_ rfl rfl (by decide) (by decide) (fun s _=>niS_ok (l1:=[.lst (nsV l),.bp (bxC b) 0,.int .i64 b.ms.length]) (l2:=[.int .i64 s])) (fun _ _=>niE_ok) ?_
  · exact tv_
  rintro i hi1 B ⟨D,hB⟩ K hK
  clear FX hll hlt hva hwi
  have hwi:=hlm
  have hvl:=valsP_length b l i
  rcases Nat.lt_or_ge i b.ms.length with hi|hi
  · have hvs:=valsP_succ b l i
    have hva:=fun m=>gvalue_c b hbd l hst.1 hsb i hi m
    have hnx:=hK (i+1)
    have hny:=fun(_:Unit)=>hnx
    clear hnx hK
    rw [hvs] at hny
    generalize valP b l i=vv at *
    generalize valsP b l i=out at *
    cases out with
    | nil=>
      have hll:=hlm
      have hlt:=hlm
      simp only [niSt,niE]
      simp only [List.map_cons,List.map_nil,TB.inst,TV.inst,tv_map,zipT,List.cons_append,List.nil_append,Nat.add_zero]
      (have FX:=And.intro hlm (And.intro hll hlt);repeat'(first|(refine sx ?_ ?_<;>intro h<;>first|(exfalso;omega)|skip)|(refine g_op ?_;refine g_call ?_;refine g_args ?_;(first|refine s_fn (hwi _) ?_|refine s_fn (hva _) ?_)<;>try first|omega|assumption)|refine ny ?_|refine WA_block ?_))
      all_goals(try(exfalso;omega))
      all_goals((refine nextU_ hny (()) [1] (hi) (by omega) ?_ (ht:=?_);(focus (simp only [niE,List.cons_append,List.nil_append,List.map_cons,List.map_nil,TB.inst,TV.inst,tv_map,List.cons_append,List.nil_append];first|rfl|(simp [ptsV,ptV];done)|(simp [hpsV,hpV];done)|(simp [frsV,frV];done)|(simp [txV];done)|(simp [prtsV,prtV];done)));(simp only [niSt,List.cons_append,List.nil_append,List.length_append,List.length_cons,List.length_nil,Nat.zero_add,List.map_cons,List.map_nil,TV.inst,List.getD_cons_zero,List.getD_cons_succ];exact tv_)))
    | cons p r=>
      have hll:(nsV (p::r)).length=r.length+1:=nsV_length
      have hlt:(nsV (p::r)).take (r.length+1)=nsV (p::r):=by rw [List.take_of_length_le (by rw [hll];exact Nat.le_refl _)]
      have hrl:r.length+1=i:=by simpa using hvl
      have hsn:nsV (p::(r++[vv]))=nsV (p::r)++[[V.int .i64 vv]]:=nsV_snoc (p::r) vv
      simp only [niSt,niE]
      simp only [List.map_cons,List.map_nil,TB.inst,TV.inst,tv_map,zipT,List.cons_append,List.nil_append,Nat.add_zero]
      (have FX:=And.intro hlm (And.intro hll hlt);repeat'(first|(refine sx ?_ ?_<;>intro h<;>first|(exfalso;omega)|skip)|(refine g_op ?_;refine g_call ?_;refine g_args ?_;(first|refine s_fn (hwi _) ?_|refine s_fn (hva _) ?_)<;>try first|omega|assumption)|refine ny ?_|refine WA_block ?_))
      all_goals(try(exfalso;omega))
      all_goals((refine nextU_ hny (()) [2] (hi) (by omega) ?_ (ht:=?_);(focus (simp only [niE,hsn,List.cons_append,List.nil_append,List.map_cons,List.map_nil,TB.inst,TV.inst,tv_map,List.cons_append,List.nil_append];first|rfl|(simp [ptsV,ptV];done)|(simp [hpsV,hpV];done)|(simp [frsV,frV];done)|(simp [txV];done)|(simp [prtsV,prtV];done)));(simp only [niSt,List.cons_append,List.nil_append,List.length_append,List.length_cons,List.length_nil,Nat.zero_add,List.map_cons,List.map_nil,TV.inst,List.getD_cons_zero,List.getD_cons_succ];exact tv_)))
  · obtain rfl:i=b.ms.length:=by omega
    have hva:=hlm
    clear hK
    generalize valsP b l b.ms.length=out at *
    cases out with
    | nil=>
      have hll:=hlm
      have hlt:=hlm
      simp only [niSt,niE]
      simp only [List.map_cons,List.map_nil,TB.inst,TV.inst,tv_map,zipT,List.cons_append,List.nil_append,Nat.add_zero]
      (have FX:=And.intro hlm (And.intro hll hlt);repeat'(first|(refine sx ?_ ?_<;>intro h<;>first|(exfalso;omega)|skip)|(refine g_op ?_;refine g_call ?_;refine g_args ?_;(first|refine s_fn (hwi _) ?_|refine s_fn (hva _) ?_)<;>try first|omega|assumption)|refine ny ?_|refine WA_block ?_))
      all_goals(try(exfalso;omega))
      all_goals
        refine r_esA hQ (.inl ⟨rfl,rfl,?_⟩)
        exact wk_tup ⟨wk_nil,WkV.refl _,trivial⟩
    | cons p r=>
      have hll:(nsV (p::r)).length=r.length+1:=nsV_length
      have hlt:(nsV (p::r)).take (r.length+1)=nsV (p::r):=by rw [List.take_of_length_le (by rw [hll];exact Nat.le_refl _)]
      simp only [niSt,niE]
      simp only [List.map_cons,List.map_nil,TB.inst,TV.inst,tv_map,zipT,List.cons_append,List.nil_append,Nat.add_zero]
      (have FX:=And.intro hlm (And.intro hll hlt);repeat'(first|(refine sx ?_ ?_<;>intro h<;>first|(exfalso;omega)|skip)|(refine g_op ?_;refine g_call ?_;refine g_args ?_;(first|refine s_fn (hwi _) ?_|refine s_fn (hva _) ?_)<;>try first|omega|assumption)|refine ny ?_|refine WA_block ?_))
      all_goals(try(exfalso;omega))
      all_goals(refine r_esA hQ (fin_sli2 (j:=0) hB rfl hll (nsV_plain _) ⟨rfl,WkV.refl _⟩))
end Go.Proofs.YtookikhphobnlaaGreatDoor
