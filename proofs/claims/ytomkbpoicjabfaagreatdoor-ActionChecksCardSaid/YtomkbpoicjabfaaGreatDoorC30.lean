/- contracts: the events that happen -/
import Derived.Test.YtomkbpoicjabfaaGreatDoorC31
import Derived.Test.YtomkbpoicjabfaaGreatDoorGAR
set_option linter.unusedSimpArgs false
set_option linter.unusedVariables false
namespace Go.Proofs.YtomkbpoicjabfaaGreatDoor
open Go.RowKit
attribute [local irreducible] WA WOs WDs WAn qThen qBlock tput
set_option maxHeartbeats 1000000
set_option maxRecDepth 20000
set_option linter.unusedSimpArgs false
set_option linter.unusedVariables false
attribute [local irreducible] smB cut sm
def hpSt(k:Nat):List Hp→TV
  |[]=> .v .nilsl
  |p::r=> .sl k (r.length+1)
def hpE:List Hp→List TB
  |[]=>[]
  |p::r=>[.cells .own 106 3 ((hpsV (p::r)).map (List.map TV.v))]
def haE(a:ActR)(l:List Hp):List TB:=actT a::hpE l
def haS(a:ActR)(l:List Hp)(i:Nat):List TV:=[.ptr 0 0 0,hpSt 1 l,.v (.int .i64 a.evs.length),.v (.int .i64 i)]
theorem haE_ok{a:ActR}{l:List Hp}:(haE a l).all (TB.ok (haE a l).length)=true:=by
  unfold haE actT
  cases l with
  |nil=>simp [TB.ok,TV.okT,hpE]
  |cons p r=>simp only [hpE,List.all_cons,TB.ok,TV.okT,List.all_nil,Bool.and_true,Bool.and_self,tv_ok]
theorem haS_ok{a:ActR}{l:List Hp}{i:Nat}:(haS a l i).all (TV.okT (haE a l).length)=true:=by
  unfold haE haS
  cases l with
  |nil=>simp [TV.okT,hpE,hpSt]
  |cons p r=>simp [TV.okT,hpE,hpSt]
/-- the events before the one with number i that happen -/
def hapL(a:ActR)(i:Nat):List Hp:=(hapP a i).getD []
def hapV(a:ActR):V:=match hapS a with
  |some l=> .tup [.lst (hpsV l),.int .i64 0]
  |none=> .tup [.nilsl,.int .i64 8]
theorem hap_next{a:ActR}{i:Nat}{l:List Hp}(h:hapP a i=some l):(∀ x e,evtP a i=(some x,e)→hapP a (i+1)=some (l++[(i,x)]))∧(evtP a i=(none,12)→hapP a (i+1)=some l)∧(evtP a i=(none,8)→hapP a (i+1)=none):=by
  refine⟨fun x e hx=>?_,fun hx=>?_,fun hx=>?_⟩<;>simp only [hapP,h,hx]<;>rfl
theorem hap_sm{a:ActR}(h:acErr a=0){n:Nat}{l:List Hp}(hn:n≤a.evs.length)(hl:hapP a n=some l):∀ p∈l,sm p.2:=by
  intro p hp
  obtain⟨h1,h2⟩:=(hapP_num hl).2 p hp
  exact(evtP_sm h (by omega) h2).1

theorem ahapp_c (a:ActR) (ha:Lt a) (h:acErr a=0) (hle:a.evs.length≤12) (m:Mem):Gives Tryz.prog 53 [.agg (actV a)] m (hapV a):=by
  have hlen:=evsV_length (l:=a.evs)
  have hll:=hlen
  have hlt:=hlen
  unfold actV
  suffices key:CallA Tryz.prog 53 [.agg [.int .i64 a.dip,.lst (prtsV a.parts),.lst (evsV a.evs),.lst (ldsV a.leads)]] m (fun v' mo=>v'=(match hapS a with|some l=> .tup [oV (hpsV l),.int .i64 0]|none=> .tup [.nilsl,.int .i64 8])∧mo=none) by
    refine Gives_weak (v:=match hapS a with|some l=> .tup [oV (hpsV l),.int .i64 0]|none=> .tup [.nilsl,.int .i64 8]) key ?_
    unfold hapV
    cases hapS a with
    |none=>exact fun _ _ _ _ h=>h
    |some l=>exact wk_tup ⟨wk_oV _,WkV.refl _,trivial⟩
  refine CallA_in Tryz.func53 rfl Tryz.ntmps53 Tryz.results53 (by kernel_rfl) (by simp) fun Q hQ=>?_
  (have FX:=And.intro hlen (And.intro hll hlt);repeat'(first|(refine sx ?_ ?_<;>intro h<;>first|(exfalso;omega)|skip)|refine ny ?_|refine WA_block ?_))
  refine WA_whileJ (σ:=Nat) (L:=lend m) [1,4,10,11] (fun i=>haS a (hapL a i) i) (fun i=>haE a (hapL a i)) (fun i=>i≤a.evs.length∧(hapP a i).isSome=true) (fun i=>a.evs.length - i) 0 [0] ⟨Nat.zero_le _,rfl⟩ ?_ rfl rfl (by decide) (by decide) (fun _ _=>haS_ok) (fun _ _=>haE_ok) ?_
  · simp only [haS,hapL,hapP,Option.getD_some,hpSt,List.map_cons,List.map_nil,TV.inst,List.getD_cons_zero,List.getD_cons_succ]
    exact tv_
  rintro i ⟨hi1,his⟩ B ⟨D,hB⟩ K hK
  clear FX
  obtain⟨l,hl⟩:=Option.isSome_iff_exists.1 his
  have hlE:hapL a i=l:=by unfold hapL;rw [hl];rfl
  rw [hlE]
  have hln:=hapP_len hl
  rcases Nat.lt_or_ge i a.evs.length with hi|hi
  · obtain⟨n1,n2,n3⟩:=hap_next hl
    have hdo:=fun m=>adipof_c a ha h i hi m
    unfold actV at hdo
    rcases evtP_code a i with ⟨x,hx⟩|hx|hx
    · rw [hx] at hdo
      have hsu:=n1 x 0 hx
      have hsE:hapL a (i+1)=l++[(i,x)]:=by unfold hapL;rw [hsu];rfl
      have hnx:=hK (i+1)
      rw [hsE] at hnx
      have hny:=fun(_:Unit)=>hnx
      simp only [rchV,frO] at hdo
      cases l with
      | nil=>
        have hll:=hlen
        have hlt:=hlen
        simp only [haS,haE,actT,hpSt,hpE]
        simp only [List.map_cons,List.map_nil,TB.inst,TV.inst,tv_map,zipT,List.cons_append,List.nil_append,Nat.add_zero]
        (have FX:=And.intro hlen (And.intro hll hlt);repeat'(first|(refine sx ?_ ?_<;>intro h<;>first|(exfalso;omega)|skip)|(refine g_op ?_;refine g_call ?_;refine g_args ?_;(first|refine s_fn (hdo _) ?_)<;>try first|omega|assumption)|refine ny ?_|refine WA_block ?_))
        all_goals(try(exfalso;omega))
        all_goals((refine nextU_ hny (()) [0,3] (⟨hi,by rw [hsu];rfl⟩) (by omega) ?_ (ht:=?_);(focus (simp only [haE,actT,hpE,List.map_cons,List.map_nil,TB.inst,TV.inst,tv_map,List.cons_append,List.nil_append];first|rfl|(simp [ptsV,ptV];done)|(simp [hpsV,hpV];done)|(simp [frsV,frV];done)|(simp [txV];done)|(simp [prtsV,prtV];done)));(simp only [haS,hpSt,List.length_nil,Nat.zero_add,List.map_cons,List.map_nil,TV.inst,List.getD_cons_zero,List.getD_cons_succ];exact tv_)))
      | cons p r=>
        have hll:(hpsV (p::r)).length=r.length+1:=hpsV_length
        have hlt:(hpsV (p::r)).take (r.length+1)=hpsV (p::r):=by rw [List.take_of_length_le (by rw [hll];exact Nat.le_refl _)]
        simp only [List.length_cons] at hln
        simp only [haS,haE,actT,hpSt,hpE]
        simp only [List.map_cons,List.map_nil,TB.inst,TV.inst,tv_map,zipT,List.cons_append,List.nil_append,Nat.add_zero]
        (have FX:=And.intro hlen (And.intro hll hlt);repeat'(first|(refine sx ?_ ?_<;>intro h<;>first|(exfalso;omega)|skip)|(refine g_op ?_;refine g_call ?_;refine g_args ?_;(first|refine s_fn (hdo _) ?_)<;>try first|omega|assumption)|refine ny ?_|refine WA_block ?_))
        all_goals(try(exfalso;omega))
        all_goals((refine nextU_ hny (()) [0,4] (⟨hi,by rw [hsu];rfl⟩) (by omega) ?_ (ht:=?_);(focus (simp only [haE,actT,hpE,List.map_cons,List.map_nil,TB.inst,TV.inst,tv_map,List.cons_append,List.nil_append];first|rfl|(simp [ptsV,ptV];done)|(simp [hpsV,hpV];done)|(simp [frsV,frV];done)|(simp [txV];done)|(simp [prtsV,prtV];done)));(simp only [haS,hpSt,List.cons_append,List.length_append,List.length_cons,List.length_nil,Nat.zero_add,List.map_cons,List.map_nil,TV.inst,List.getD_cons_zero,List.getD_cons_succ];exact tv_)))
    · rw [hx] at hdo
      have hno:hapS a=none:=by unfold hapS;rw [hapP_up (n3 hx) hi];rfl
      rw [hno] at hQ
      dsimp only at hQ
      simp only [rchV,frO] at hdo
      cases l with
      | nil=>
        have hll:=hlen
        have hlt:=hlen
        simp only [haS,haE,actT,hpSt,hpE]
        simp only [List.map_cons,List.map_nil,TB.inst,TV.inst,tv_map,zipT,List.cons_append,List.nil_append,Nat.add_zero]
        (have FX:=And.intro hlen (And.intro hll hlt);repeat'(first|(refine sx ?_ ?_<;>intro h<;>first|(exfalso;omega)|skip)|(refine g_op ?_;refine g_call ?_;refine g_args ?_;(first|refine s_fn (hdo _) ?_)<;>try first|omega|assumption)|refine ny ?_|refine WA_block ?_))
        all_goals(try(exfalso;omega))
        all_goals(refine r_esA hQ (.inl ⟨rfl,rfl,rfl⟩))
      | cons p r=>
        have hll:=hlen
        have hlt:=hlen
        simp only [haS,haE,actT,hpSt,hpE]
        simp only [List.map_cons,List.map_nil,TB.inst,TV.inst,tv_map,zipT,List.cons_append,List.nil_append,Nat.add_zero]
        (have FX:=And.intro hlen (And.intro hll hlt);repeat'(first|(refine sx ?_ ?_<;>intro h<;>first|(exfalso;omega)|skip)|(refine g_op ?_;refine g_call ?_;refine g_args ?_;(first|refine s_fn (hdo _) ?_)<;>try first|omega|assumption)|refine ny ?_|refine WA_block ?_))
        all_goals(try(exfalso;omega))
        all_goals(refine r_esA hQ (.inl ⟨rfl,rfl,rfl⟩))
    · rw [hx] at hdo
      have hsu:=n2 hx
      have hsE:hapL a (i+1)=l:=by unfold hapL;rw [hsu];rfl
      have hnx:=hK (i+1)
      rw [hsE] at hnx
      have hny:=fun(_:Unit)=>hnx
      simp only [rchV,frO] at hdo
      cases l with
      | nil=>
        have hll:=hlen
        have hlt:=hlen
        simp only [haS,haE,actT,hpSt,hpE]
        simp only [List.map_cons,List.map_nil,TB.inst,TV.inst,tv_map,zipT,List.cons_append,List.nil_append,Nat.add_zero]
        (have FX:=And.intro hlen (And.intro hll hlt);repeat'(first|(refine sx ?_ ?_<;>intro h<;>first|(exfalso;omega)|skip)|(refine g_op ?_;refine g_call ?_;refine g_args ?_;(first|refine s_fn (hdo _) ?_)<;>try first|omega|assumption)|refine ny ?_|refine WA_block ?_))
        all_goals(try(exfalso;omega))
        all_goals((refine nextU_ hny (()) [0] (⟨hi,by rw [hsu];rfl⟩) (by omega) ?_ (ht:=?_);(focus (simp only [haE,actT,hpE,List.map_cons,List.map_nil,TB.inst,TV.inst,tv_map,List.cons_append,List.nil_append];first|rfl|(simp [ptsV,ptV];done)|(simp [hpsV,hpV];done)|(simp [frsV,frV];done)|(simp [txV];done)|(simp [prtsV,prtV];done)));(simp only [haS,hpSt,List.map_cons,List.map_nil,TV.inst,List.getD_cons_zero,List.getD_cons_succ];exact tv_)))
      | cons p r=>
        have hll:=hlen
        have hlt:=hlen
        simp only [haS,haE,actT,hpSt,hpE]
        simp only [List.map_cons,List.map_nil,TB.inst,TV.inst,tv_map,zipT,List.cons_append,List.nil_append,Nat.add_zero]
        (have FX:=And.intro hlen (And.intro hll hlt);repeat'(first|(refine sx ?_ ?_<;>intro h<;>first|(exfalso;omega)|skip)|(refine g_op ?_;refine g_call ?_;refine g_args ?_;(first|refine s_fn (hdo _) ?_)<;>try first|omega|assumption)|refine ny ?_|refine WA_block ?_))
        all_goals(try(exfalso;omega))
        all_goals((refine nextU_ hny (()) [0,1] (⟨hi,by rw [hsu];rfl⟩) (by omega) ?_ (ht:=?_);(focus (simp only [haE,actT,hpE,List.map_cons,List.map_nil,TB.inst,TV.inst,tv_map,List.cons_append,List.nil_append];first|rfl|(simp [ptsV,ptV];done)|(simp [hpsV,hpV];done)|(simp [frsV,frV];done)|(simp [txV];done)|(simp [prtsV,prtV];done)));(simp only [haS,hpSt,List.map_cons,List.map_nil,TV.inst,List.getD_cons_zero,List.getD_cons_succ];exact tv_)))
  · have hie:i=a.evs.length:=by omega
    subst hie
    have hS:hapS a=some (srtH l):=by unfold hapS;rw [hl];rfl
    have hnm:=(hapP_num hl).1
    have hsm:=hap_sm h (Nat.le_refl _) hl
    rw [hS] at hQ
    dsimp only at hQ
    cases l with
    | nil=>
      have e0:oV (hpsV (srtH []))=V.nilsl:=rfl
      rw [e0] at hQ
      have hll:=hlen
      have hlt:=hlen
      simp only [haS,haE,actT,hpSt,hpE]
      simp only [List.map_cons,List.map_nil,TB.inst,TV.inst,tv_map,zipT,List.cons_append,List.nil_append,Nat.add_zero]
      (have FX:=And.intro hlen (And.intro hll hlt);repeat'(first|(refine sx ?_ ?_<;>intro h<;>first|(exfalso;omega)|skip)|(refine g_op ?_;refine g_call ?_;refine g_args ?_;(first|refine s_fn (asortnil_c _) ?_)<;>try first|omega|assumption)|refine ny ?_|refine WA_block ?_))
      all_goals(try(exfalso;omega))
      all_goals(refine r_esA hQ (.inl ⟨rfl,rfl,rfl⟩))
    | cons p r=>
      have hrl:(hpsV (srtH (p::r))).length=r.length+1:=by rw [hpsV_length,srtH_len];rfl
      have hrv:=fun b=>asort_w b (p::r) hnm hsm (by simp) (by omega)
      simp only [List.length_cons] at hrv
      have hoV:oV (hpsV (srtH (p::r)))= .lst (hpsV (srtH (p::r))):=by
        cases hx:hpsV (srtH (p::r)) with
        |nil=>rw [hx] at hrl;simp at hrl
        |cons e es=>rfl
      rw [hoV] at hQ
      have hll:=hlen
      have hlt:=hlen
      simp only [haS,haE,actT,hpSt,hpE]
      simp only [List.map_cons,List.map_nil,TB.inst,TV.inst,tv_map,zipT,List.cons_append,List.nil_append,Nat.add_zero]
      (have FX:=And.intro hlen (And.intro hll hlt);repeat'(first|(refine sx ?_ ?_<;>intro h<;>first|(exfalso;omega)|skip)|(refine g_op ?_;refine g_call ?_;refine g_args ?_;(first|refine s_fnW (hrv _) ?_)<;>try first|omega|assumption)|refine ny ?_|refine WA_block ?_))
      all_goals(try(exfalso;omega))
      all_goals(refine r_esA hQ ?_)
      all_goals(refine fin_sl2 (D:=D) (j:=1) hB rfl (by rw [hrl];exact Nat.le_refl _) (by rw [List.take_of_length_le (by rw [hrl];exact Nat.le_refl _)];exact hpsV_plain _) (fun m L=>frz_int m L 3 _ _) ⟨?_,rfl⟩)
      all_goals(rw [List.take_of_length_le (by rw [hrl];exact Nat.le_refl _)])
end Go.Proofs.YtomkbpoicjabfaaGreatDoor
