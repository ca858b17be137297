/- contracts: light actions; positions, in cases -/
import Derived.Test.YtomkbpoicjabfaaGreatDoorGAU
import Derived.Test.YtomkbpoicjabfaaGreatDoorGAT
import Derived.Test.YtomkbpoicjabfaaGreatDoorC20
set_option linter.unusedSimpArgs false
set_option linter.unusedVariables false
namespace Go.Proofs.YtomkbpoicjabfaaGreatDoor
open Go.RowKit
attribute [local irreducible] WA WOs WDs WAn qThen qBlock tput
set_option maxHeartbeats 1000000
set_option maxRecDepth 20000
set_option linter.unusedSimpArgs false
set_option linter.unusedVariables false
set_option maxHeartbeats 4000000
def ptLight(p:PartR):Prop:=¬ (30<p.name.length∨30<p.driver.length∨6<p.cor.length∧p.cor.length≤12∨15<p.cor.length)
instance(p:PartR):Decidable (ptLight p):=inferInstanceAs (Decidable (¬ _))
def evLight(e:EvR):Prop:=¬ (30<e.name.length∨30<e.part.length)
instance(e:EvR):Decidable (evLight e):=inferInstanceAs (Decidable (¬ _))
def lenLight(a:ActR):Prop:=¬ (5<a.parts.length∧a.parts.length≤12∨15<a.parts.length∨6<a.evs.length∧a.evs.length≤20∨25<a.evs.length∨12<a.leads.length)
instance(a:ActR):Decidable (lenLight a):=inferInstanceAs (Decidable (¬ _))
def light(a:ActR):Prop:=lenLight a∧(∀ i,i<a.parts.length→ptLight (a.parts.getD i p0))∧∀ i,i<a.evs.length→evLight (a.evs.getD i e0)
instance(a:ActR):Decidable (light a):=inferInstanceAs (Decidable (_∧_))
theorem light_lt{a:ActR}(h:light a):Lt a:=by
  obtain⟨h1,h2,h3⟩:=h
  unfold lenLight at h1
  refine⟨by omega,by omega,by omega,fun i hi=>?_,fun i hi=>?_⟩
  · have:=h2 i hi;unfold ptLight at this;omega
  · have:=h3 i hi;unfold evLight at this;omega
theorem ext_all{p:Nat→Prop}{i:Nat}(h:∀ j,j<i→p j)(hi:p i):∀ j,j<i+1→p j:=by
  intro j hj
  rcases Nat.lt_or_ge j i with q|q
  · exact h j q
  · obtain rfl:j=i:=by omega
    exact hi

theorem llight_n(a:ActR)(hn:¬ lenLight a)(m:Mem):Gives Tryz.prog 9 [.agg (actV a)] m (.bool (decide (light a))):=by
  have hlp:=prtsV_length (l:=a.parts)
  have hle:=evsV_length (l:=a.evs)
  have hll:=ldsV_length (l:=a.leads)
  have hga:=hlp
  have hkl:=hlp
  have hf:decide (light a)=false:=decide_eq_false fun h=>hn h.1
  rw [hf]
  unfold lenLight at hn
  unfold actV
  refine Gives_in Tryz.func9 rfl Tryz.ntmps9 Tryz.results9 (by kernel_rfl) (by simp) rfl fun Q hQ=>?_
  (have FX:=And.intro hlp (And.intro hle (And.intro hll (And.intro hga hkl)));repeat'(first|(refine sx ?_ ?_<;>intro h<;>first|(exfalso;omega)|skip)|refine ny ?_|refine WA_block ?_))
  all_goals(try(exfalso;omega))
  all_goals(refine r_es hQ ?_;try with_reducible rfl)
theorem llight_c (a:ActR) (m:Mem):Gives Tryz.prog 9 [.agg (actV a)] m (.bool (decide (light a))):=by
  have hlp:=prtsV_length (l:=a.parts)
  have hle:=evsV_length (l:=a.evs)
  have hll:=ldsV_length (l:=a.leads)
  have hga:=hlp
  have hkl:=hlp
  by_cases hn:lenLight a
  · unfold lenLight at hn
    unfold actV
    refine Gives_in Tryz.func9 rfl Tryz.ntmps9 Tryz.results9 (by kernel_rfl) (by simp) rfl fun Q hQ=>?_
    (have FX:=And.intro hlp (And.intro hle (And.intro hll (And.intro hga hkl)));repeat'(first|(refine sx ?_ ?_<;>intro h<;>first|(exfalso;omega)|skip)|refine ny ?_|refine WA_block ?_))
    all_goals(try(exfalso;omega))
    all_goals
      refine WA_whileK (σ:=Nat) [1,3] (fun i=>[.ptr (lend m).length 0 0,.int .i64 i]) (fun _=>[actB a]) 1 (fun i=>i≤a.parts.length∧∀ j,j<i→ptLight (a.parts.getD j p0)) (fun i=>a.parts.length - i) 0 ⟨Nat.zero_le _,fun j h=>absurd h (Nat.not_lt_zero _)⟩ tv_ rfl (fun _=>rfl) (by intro s s' _ _;simp [conB,conS,V.keeps,V.plain,Blk.flat,flatL,plainL,V.flat]) (by intro s s' _ _;simp [conB,conS,V.keeps,V.plain,Blk.flat,flatL,plainL,V.flat]) ?_
      rintro i ⟨hi1,hi2⟩ K hK
      simp only [zipT]
      clear FX hga hkl
      rcases Nat.lt_or_ge i a.parts.length with hi|hi
      · have hga:=prtsV_get hi
        have hkl:=rksV_length (l:=(a.parts.getD i p0).cor)
        have hbad:¬ ptLight (a.parts.getD i p0)→decide (light a)=false:=fun h=>decide_eq_false fun hh=>h (hh.2.1 i hi)
        have hsu:=ext_all hi2
        generalize a.parts.getD i p0=p at *
        unfold prtV at hga
        unfold ptLight at hbad hsu
        (have FX:=And.intro hlp (And.intro hle (And.intro hll (And.intro hga hkl)));repeat'(first|(refine sx ?_ ?_<;>intro h<;>first|(exfalso;omega)|skip)|refine ny ?_|refine WA_block ?_))
        all_goals(try(exfalso;omega))
        all_goals try
          ((refine r_es hQ ?_;try with_reducible rfl)
           exact congrArg V.bool (hbad (by omega)).symm)
        all_goals(refine nextL_ hK (i+1) ⟨hi,hsu (by omega)⟩ (by omega))
      · have hie:i=a.parts.length:=by omega
        subst hie
        have hga:=hlp
        have hkl:=hlp
        (have FX:=And.intro hlp (And.intro hle (And.intro hll (And.intro hga hkl)));repeat'(first|(refine sx ?_ ?_<;>intro h<;>first|(exfalso;omega)|skip)|refine ny ?_|refine WA_block ?_))
        all_goals(try(exfalso;omega))
        clear FX hK
        refine WA_whileK (σ:=Nat) [1,5] (fun i=>[.ptr (lend m).length 0 0,.int .i64 i]) (fun _=>[actB a]) 1 (fun i=>i≤a.evs.length∧∀ j,j<i→evLight (a.evs.getD j e0)) (fun i=>a.evs.length - i) 0 ⟨Nat.zero_le _,fun j h=>absurd h (Nat.not_lt_zero _)⟩ tv_ rfl (fun _=>rfl) (by intro s s' _ _;simp [conB,conS,V.keeps,V.plain,Blk.flat,flatL,plainL,V.flat]) (by intro s s' _ _;simp [conB,conS,V.keeps,V.plain,Blk.flat,flatL,plainL,V.flat]) ?_
        rintro i ⟨hj1,hj2⟩ K hK
        simp only [zipT]
        clear hga hkl
        rcases Nat.lt_or_ge i a.evs.length with hj|hj
        · have hga:=evsV_get hj
          have hkl:=hlp
          have hbad:¬ evLight (a.evs.getD i e0)→decide (light a)=false:=fun h=>decide_eq_false fun hh=>h (hh.2.2 i hj)
          have hsu:=ext_all hj2
          generalize a.evs.getD i e0=e at *
          unfold evV at hga
          unfold evLight at hbad hsu
          (have FX:=And.intro hlp (And.intro hle (And.intro hll (And.intro hga hkl)));repeat'(first|(refine sx ?_ ?_<;>intro h<;>first|(exfalso;omega)|skip)|refine ny ?_|refine WA_block ?_))
          all_goals(try(exfalso;omega))
          all_goals try
            ((refine r_es hQ ?_;try with_reducible rfl)
             exact congrArg V.bool (hbad (by omega)).symm)
          all_goals(refine nextL_ hK (i+1) ⟨hj,hsu (by omega)⟩ (by omega))
        · have hje:i=a.evs.length:=by omega
          subst hje
          have hga:=hlp
          have hkl:=hlp
          (have FX:=And.intro hlp (And.intro hle (And.intro hll (And.intro hga hkl)));repeat'(first|(refine sx ?_ ?_<;>intro h<;>first|(exfalso;omega)|skip)|refine ny ?_|refine WA_block ?_))
          all_goals(try(exfalso;omega))
          all_goals((refine r_es hQ ?_;try with_reducible rfl))
          all_goals exact congrArg V.bool (decide_eq_true ⟨by unfold lenLight;omega,hi2,hj2⟩).symm
  · exact llight_n a hn m
end Go.Proofs.YtomkbpoicjabfaaGreatDoor
