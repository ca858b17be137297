/- contracts: the program reads an event's words -/
import Derived.Test.YtomkbpoicjabfaaGreatDoorU5
set_option linter.unusedSimpArgs false
set_option linter.unusedVariables false
namespace Go.Proofs.YtomkbpoicjabfaaGreatDoor
open Go.RowKit
attribute [local irreducible] WA WOs WDs WAn qThen qBlock tput
set_option maxHeartbeats 1000000
set_option maxRecDepth 20000
set_option linter.unusedSimpArgs false
set_option linter.unusedVariables false
set_option maxHeartbeats 4000000
theorem uU6_59_6{N:Nat}{l:List Oper}{t:List (Nat×V)}{m:Mem}{Q:Exit→List (Nat×V)→Mem→Prop}(h:RgN Tryz.prog N l t m Q (fun i=>if i==14 then .w else if i==2 || i==5 || i==8 || i==9 || i==12 then .q else .p) [.one 0,.one 1,.one 2,.one 3,.one 4,.one 5,.one 6,.one 7,.one 8,.one 9,.one 10,.one 11,.one 12,.one 13,.one 14,.one 15]):WA Tryz.prog N (.region 6 l.toArray true) t m Q:=d_rgN h
theorem areadevent_c (w:List Txt) (hl:w.length≤1000) (hw:∀ x∈w,x.length≤100000) (m:Mem):Gives Tryz.prog 59 [.lst (xsV w)] m (reV (evP w)):=by
  have hll:=xsV_length (l:=w)
  have hal:(xsV w).all (fun e=>e.length==1)=true:=by simp [xsV]
  by_cases h4:w.length=4
  · obtain⟨nm,pt,dr,lv,rfl⟩:∃ nm pt dr lv,w=[nm,pt,dr,lv]:=by
      rcases w with _|⟨a,_|⟨b,_|⟨c,_|⟨d,_|⟨e,r⟩⟩⟩⟩⟩
      · simp at h4
      · simp at h4
      · simp at h4
      · simp at h4
      · exact⟨_,_,_,_,rfl⟩
      · simp at h4
    have hll:(xsV [nm,pt,dr,lv]).length=4:=rfl
    have hx0:(xsV [nm,pt,dr,lv])[0]?=some [.str nm]:=rfl
    have hx1:(xsV [nm,pt,dr,lv])[1]?=some [.str pt]:=rfl
    have hx2:(xsV [nm,pt,dr,lv])[2]?=some [.str dr]:=rfl
    have hnu:=fun m=>anumbers_c [lv] (by simp) (fun i hi=>hw _ (List.mem_cons_of_mem _ (List.mem_cons_of_mem _ (List.mem_cons_of_mem _ (gdm hi))))) m
    have hs1:List.take ((4:Int) - 3).toNat (List.drop 3 (xsV [nm,pt,dr,lv]))=xsV [lv]:=rfl
    have hev:evP [nm,pt,dr,lv]=if dr=riseT∨dr=fallT then (numP 7 lv).map fun n=>⟨nm,pt,n,decide (dr=fallT)⟩ else none:=rfl
    rw [hev]
    clear hev
    unfold riseT fallT
    by_cases hd:dr=[114,105,115,101]∨dr=[102,97,108,108]
    · rw [if_pos hd]
      have hnp:numsP 7 [lv]=(numP 7 lv).map fun n=>[n]:=by
        simp only [numsP]
        cases numP 7 lv<;>rfl
      rw [hnp] at hnu
      clear hnp
      have hal1:(nsV [(0:Int)]).length=1:=rfl
      generalize numP 7 lv=on at *
      rcases on with _|n
      · simp only [Option.map_none,nbV] at hnu ⊢
        refine Gives_in Tryz.func59 rfl Tryz.ntmps59 Tryz.results59 (by kernel_rfl) (by simp) rfl fun Q hQ=>?_
        (have FX:=And.intro hll (And.intro hal (And.intro hx0 (And.intro hx1 (And.intro hx2 hs1))));repeat'(first|(refine sx ?_ ?_<;>intro h<;>first|(exfalso;omega)|skip)|(refine g_op ?_;refine g_call ?_;refine g_args ?_;(first|refine s_fn (hnu _) ?_)<;>try first|omega|assumption)|refine ny ?_|refine WA_block ?_|(refine uU6_59_6 ?_;refine⟨by kernel_rfl,?_⟩)|((first|refine grp_cons (fun _=>hnu _) ?_)<;>try first|omega|assumption)|(refine g_d ?_;refine d_args ?_;(first|refine d_fn (hnu _) ?_|refine d_fnQ (fun _=>hnu _) ?_)<;>try first|omega|assumption)|(refine g_d ?_;(first|refine d_fnY (hnu _) ?_)<;>try first|omega|assumption)))
        all_goals(try(exfalso;first|omega|contradiction|(rcases hd with hd|hd<;>contradiction)))
        all_goals(refine r_es hQ ?_;try with_reducible rfl)
        all_goals rfl
      · simp only [Option.map_some,nbV] at hnu ⊢
        have hnl:(nsV [n]).length=1:=rfl
        have hn0:(nsV [n])[0]?=some [.int .i64 n]:=rfl
        have hna:(nsV [n]).all (fun e=>e.length==1)=true:=nsV_all rfl
        simp only [reV,evV]
        refine Gives_in Tryz.func59 rfl Tryz.ntmps59 Tryz.results59 (by kernel_rfl) (by simp) rfl fun Q hQ=>?_
        (have FX:=And.intro hll (And.intro hal (And.intro hx0 (And.intro hx1 (And.intro hx2 (And.intro hs1 (And.intro hnl (And.intro hn0 hna)))))));repeat'(first|(refine sx ?_ ?_<;>intro h<;>first|(exfalso;omega)|skip)|(refine g_op ?_;refine g_call ?_;refine g_args ?_;(first|refine s_fn (hnu _) ?_)<;>try first|omega|assumption)|refine ny ?_|refine WA_block ?_|(refine uU6_59_6 ?_;refine⟨by kernel_rfl,?_⟩)|((first|refine grp_cons (fun _=>hnu _) ?_)<;>try first|omega|assumption)|(refine g_d ?_;refine d_args ?_;(first|refine d_fn (hnu _) ?_|refine d_fnQ (fun _=>hnu _) ?_)<;>try first|omega|assumption)|(refine g_d ?_;(first|refine d_fnY (hnu _) ?_)<;>try first|omega|assumption)))
        all_goals(try(exfalso;first|omega|contradiction|(rcases hd with hd|hd<;>contradiction)))
        all_goals(refine r_es hQ ?_;try with_reducible rfl)
        all_goals(first|rw [decide_eq_true (by assumption)]|rw [decide_eq_false (by assumption)])
    · rw [if_neg hd]
      have hd1:¬ dr=[114,105,115,101]:=fun q=>hd (.inl q)
      have hd2:¬ dr=[102,97,108,108]:=fun q=>hd (.inr q)
      clear hd
      refine Gives_in Tryz.func59 rfl Tryz.ntmps59 Tryz.results59 (by kernel_rfl) (by simp) rfl fun Q hQ=>?_
      (have FX:=And.intro hll (And.intro hal (And.intro hx0 (And.intro hx1 hx2)));repeat'(first|(refine sx ?_ ?_<;>intro h<;>first|(exfalso;omega)|skip)|refine ny ?_|refine WA_block ?_|(refine uU6_59_6 ?_;refine⟨by kernel_rfl,?_⟩)))
      all_goals(try(exfalso;first|omega|contradiction))
      all_goals(refine r_es hQ ?_;try with_reducible rfl)
      all_goals rfl
  · have e:evP w=none:=by
      rcases w with _|⟨a,_|⟨b,_|⟨c,_|⟨d,_|⟨e,r⟩⟩⟩⟩⟩
      · rfl
      · rfl
      · rfl
      · rfl
      · exact absurd rfl h4
      · rfl
    rw [e]
    refine Gives_in Tryz.func59 rfl Tryz.ntmps59 Tryz.results59 (by kernel_rfl) (by simp) rfl fun Q hQ=>?_
    (have FX:=And.intro hll hal;repeat'(first|(refine sx ?_ ?_<;>intro h<;>first|(exfalso;omega)|skip)|refine ny ?_|refine WA_block ?_|(refine uU6_59_6 ?_;refine⟨by kernel_rfl,?_⟩)))
    all_goals(try(exfalso;first|omega|contradiction))
    all_goals(refine r_es hQ ?_;try with_reducible rfl)
    all_goals rfl
end Go.Proofs.YtomkbpoicjabfaaGreatDoor
