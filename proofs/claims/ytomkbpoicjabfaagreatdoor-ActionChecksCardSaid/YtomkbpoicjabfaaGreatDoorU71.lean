/- contracts: the program reads a line of an action, all cases -/
import Derived.Test.YtomkbpoicjabfaaGreatDoorU7
set_option linter.unusedSimpArgs false
set_option linter.unusedVariables false
namespace Go.Proofs.YtomkbpoicjabfaaGreatDoor
open Go.RowKit
attribute [local irreducible] WA WOs WDs WAn qThen qBlock tput
set_option maxHeartbeats 1000000
set_option maxRecDepth 20000
set_option linter.unusedSimpArgs false
set_option linter.unusedVariables false
set_option maxHeartbeats 4000000
theorem uU71_24_2{N:Nat}{l:List Oper}{t:List (Nat×V)}{m:Mem}{Q:Exit→List (Nat×V)→Mem→Prop}(h:RgN Tryz.prog N l t m Q (fun i=>if i==2 then .q else .p) [.one 0,.one 1,.one 2,.one 3,.one 4,.one 5,.one 6]):WA Tryz.prog N (.region 2 l.toArray true) t m Q:=d_rgN h
theorem uU71_24_5{N:Nat}{l:List Oper}{t:List (Nat×V)}{m:Mem}{Q:Exit→List (Nat×V)→Mem→Prop}(h:RgN Tryz.prog N l t m Q (fun i=>if i==1 || i==6 || i==7 || i==11 || i==12 then .q else .p) [.one 0,.one 1,.one 2,.one 3,.one 4,.one 5,.one 6,.one 7,.one 8,.one 9,.one 10,.one 11,.one 12,.one 13,.one 14,.one 15,.one 16]):WA Tryz.prog N (.region 5 l.toArray true) t m Q:=d_rgN h
theorem uU71_24_7{N:Nat}{l:List Oper}{t:List (Nat×V)}{m:Mem}{Q:Exit→List (Nat×V)→Mem→Prop}(h:RgN Tryz.prog N l t m Q (fun i=>if i==7 || i==10 then .w else if i==6 then .a else if i==4 || i==5 then .q else .p) [.one 0,.one 1,.one 2,.one 3,.one 4,.one 5,.one 6,.one 7,.one 8,.one 9,.one 10]):WA Tryz.prog N (.region 7 l.toArray true) t m Q:=d_rgN h
theorem uU71_24_11{N:Nat}{l:List Oper}{t:List (Nat×V)}{m:Mem}{Q:Exit→List (Nat×V)→Mem→Prop}(h:RgN Tryz.prog N l t m Q (fun i=>if i==7 || i==10 then .w else if i==6 then .a else if i==4 || i==5 then .q else .p) [.one 0,.one 1,.one 2,.one 3,.one 4,.one 5,.one 6,.one 7,.one 8,.one 9,.one 10]):WA Tryz.prog N (.region 11 l.toArray true) t m Q:=d_rgN h
theorem uU71_24_18{N:Nat}{l:List Oper}{t:List (Nat×V)}{m:Mem}{Q:Exit→List (Nat×V)→Mem→Prop}(h:RgN Tryz.prog N l t m Q (fun i=>if i==13 || i==16 then .w else if i==12 then .a else if i==4 || i==7 || i==10 then .q else .p) [.one 0,.one 1,.one 2,.one 3,.one 4,.one 5,.one 6,.one 7,.one 8,.one 9,.one 10,.one 11,.one 12,.one 13,.one 14,.one 15,.one 16]):WA Tryz.prog N (.region 18 l.toArray true) t m Q:=d_rgN h
/-- no line -/
theorem aread_no(A:Mem)(c1 c2 c3:Blk)(a:ActR)(M:Mem)(hI:rdI A c1 c2 c3 a M)(s o:Txt)(w:List Txt)(number:Int)(hn:¬ number=1)(hc:cutP 32 s=o::w)(hs:s.length≤1000)(n1:¬ o=[97,99,116,105,111,110])(n2:¬ (o=[112,97,114,116]∧a.evs=[]∧a.leads=[]))(n3:¬ (o=[101,118,101,110,116]∧a.leads=[]))(n4:¬ o=[108,101,97,100])(hb2:a.evs.length≤1000)(hb3:a.leads.length≤1000)(R:V→Option Mem→Prop)(hbad:∀ a' M',rdI A c1 c2 c3 a' M'→R (.bool false) (some M')):CallA Tryz.prog 24 [.ptr A.length 0 0,.str s,.int .i64 number] M R:=by
  obtain⟨v1,v2,v3,X,rfl,hv⟩:=hI
  have hsp:=fun m=>xsplit_c s 32 (by omega) m
  have hcm:=fun p=>cutP_sub (c:=32) (s:=s) (p:=p)
  have hcl:=cutP_len 32 s
  rw [hc] at hsp hcm hcl
  rw [List.length_cons] at hcl
  have hwm:∀ x∈w,x.length≤100000:=fun x hx=>Nat.le_trans (hcm x (List.mem_cons_of_mem _ hx)) (by omega)
  have hnu:=fun m=>anumbers_c w (by omega) (fun i hi=>hwm _ (gdm hi)) m
  have hll:(xsV (o::w)).length=w.length+1:=by rw [xsV_length];rfl
  have hal:(xsV (o::w)).all (fun e=>e.length==1)=true:=by simp [xsV]
  have hx0:(xsV (o::w))[0]?=some [.str o]:=rfl
  have hbn:=bneF
  clear hc hcm hwm
  have hend:=hbad _ _ ⟨v1,v2,v3,X,rfl,hv⟩
  obtain⟨hv1,hv2,hv3⟩:=hv
  have hle:=evsV_length (l:=a.evs)
  have hll2:=ldsV_length (l:=a.leads)
  have m2:o=[112,97,114,116]→a.evs.length=0→a.leads.length=0→False:=fun p q r=>n2 ⟨p,List.length_eq_zero_iff.1 q,List.length_eq_zero_iff.1 r⟩
  have m3:o=[101,118,101,110,116]→a.leads.length=0→False:=fun p q=>n3 ⟨p,List.length_eq_zero_iff.1 q⟩
  refine CallA_inD Tryz.func24 rfl Tryz.ntmps24 Tryz.results24 (by kernel_rfl) (by simp) fun Q hQ=>?_
  rcases hv2 with ⟨rfl,h2⟩|⟨j2,rfl,h2, -⟩
  all_goals rcases hv3 with ⟨rfl,h3⟩|⟨j3,rfl,h3, -⟩
  all_goals(try rw [hle] at hend ⊢)
  all_goals(try rw [hll2] at hend ⊢)
  all_goals(try(have q2:a.evs.length=0:=by rw [←hle,h2];rfl))
  all_goals(try(have q3:a.leads.length=0:=by rw [←hll2,h3];rfl))
  all_goals(try(have q2:¬ a.evs.length=0:=by rw [←hle];exact fun q=>h2 (List.length_eq_zero_iff.1 q)))
  all_goals(try(have q3:¬ a.leads.length=0:=by rw [←hll2];exact fun q=>h3 (List.length_eq_zero_iff.1 q)))
  all_goals(have FX:=And.intro hll (And.intro hal (And.intro hx0 (And.intro hbn (And.intro n1 (And.intro n4 (And.intro hn (And.intro hb2 hb3)))))));repeat'(first|(refine sx ?_ ?_<;>intro h<;>first|(exfalso;omega)|skip)|(refine g_op ?_;refine g_call ?_;refine g_args ?_;(first|refine s_fn (hsp _) ?_)<;>try first|omega|assumption)|refine ny ?_|refine WA_block ?_|(refine uU71_24_2 ?_;refine⟨by kernel_rfl,?_⟩)|(refine uU71_24_5 ?_;refine⟨by kernel_rfl,?_⟩)|(refine uU71_24_7 ?_;refine⟨by kernel_rfl,?_⟩)|(refine uU71_24_11 ?_;refine⟨by kernel_rfl,?_⟩)|(refine uU71_24_18 ?_;refine⟨by kernel_rfl,?_⟩)|((first|refine grp_cons (fun _=>hsp _) ?_)<;>try first|omega|assumption)|(refine g_d ?_;refine d_args ?_;(first|refine d_fn (hsp _) ?_|refine d_fnQ (fun _=>hsp _) ?_)<;>try first|omega|assumption)|(refine g_d ?_;(first|refine d_fnY (hsp _) ?_)<;>try first|omega|assumption)))
  all_goals(try(exfalso;first|omega|contradiction|exact m2 (by assumption) (by omega) (by omega)|exact m3 (by assumption) (by omega)))
  all_goals rw [xs_rest]
  all_goals(
    refine g_op ?_;refine g_call ?_;refine g_args ?_;refine s_fnA (hnu _) ?_
    rintro v mo ⟨rfl,rfl⟩
    simp only [Option.getD_none])
  all_goals(
    cases hq:numsP 7 w with
    | none=>
      simp only [nbV]
      (have FX:=And.intro hll (And.intro hal (And.intro hx0 (And.intro hbn (And.intro n1 (And.intro n4 (And.intro hn (And.intro hb2 hb3)))))));repeat'(first|(refine sx ?_ ?_<;>intro h<;>first|(exfalso;omega)|skip)|(refine g_op ?_;refine g_call ?_;refine g_args ?_;(first|refine s_fn (hsp _) ?_)<;>try first|omega|assumption)|refine ny ?_|refine WA_block ?_|(refine uU71_24_2 ?_;refine⟨by kernel_rfl,?_⟩)|(refine uU71_24_5 ?_;refine⟨by kernel_rfl,?_⟩)|(refine uU71_24_7 ?_;refine⟨by kernel_rfl,?_⟩)|(refine uU71_24_11 ?_;refine⟨by kernel_rfl,?_⟩)|(refine uU71_24_18 ?_;refine⟨by kernel_rfl,?_⟩)|((first|refine grp_cons (fun _=>hsp _) ?_)<;>try first|omega|assumption)|(refine g_d ?_;refine d_args ?_;(first|refine d_fn (hsp _) ?_|refine d_fnQ (fun _=>hsp _) ?_)<;>try first|omega|assumption)|(refine g_d ?_;(first|refine d_fnY (hsp _) ?_)<;>try first|omega|assumption)))
      all_goals(try(exfalso;first|omega|contradiction))
      all_goals(exact hQ _ _ _ (by first|exact .inl rfl|exact .inr rfl) (V.bool false) rfl hend)
    | some l=>
      simp only [nbV]
      (have FX:=And.intro hll (And.intro hal (And.intro hx0 (And.intro hbn (And.intro n1 (And.intro n4 (And.intro hn (And.intro hb2 hb3)))))));repeat'(first|(refine sx ?_ ?_<;>intro h<;>first|(exfalso;omega)|skip)|(refine g_op ?_;refine g_call ?_;refine g_args ?_;(first|refine s_fn (hsp _) ?_)<;>try first|omega|assumption)|refine ny ?_|refine WA_block ?_|(refine uU71_24_2 ?_;refine⟨by kernel_rfl,?_⟩)|(refine uU71_24_5 ?_;refine⟨by kernel_rfl,?_⟩)|(refine uU71_24_7 ?_;refine⟨by kernel_rfl,?_⟩)|(refine uU71_24_11 ?_;refine⟨by kernel_rfl,?_⟩)|(refine uU71_24_18 ?_;refine⟨by kernel_rfl,?_⟩)|((first|refine grp_cons (fun _=>hsp _) ?_)<;>try first|omega|assumption)|(refine g_d ?_;refine d_args ?_;(first|refine d_fn (hsp _) ?_|refine d_fnQ (fun _=>hsp _) ?_)<;>try first|omega|assumption)|(refine g_d ?_;(first|refine d_fnY (hsp _) ?_)<;>try first|omega|assumption)))
      all_goals(try(exfalso;first|omega|contradiction))
      all_goals(exact hQ _ _ _ (by first|exact .inl rfl|exact .inr rfl) (V.bool false) rfl hend))
/-- a line -/
theorem aread_c (A:Mem) (c1 c2 c3:Blk) (a:ActR) (M:Mem) (hI:rdI A c1 c2 c3 a M) (s:Txt) (number:Int) (hs:s.length≤1000) (hb1:a.parts.length≤1000) (hb2:a.evs.length≤1000) (hb3:a.leads.length≤1000) (R:V→Option Mem→Prop) (hok:∀ a' M',lineA (decide (number=1)) a s=some a'→rdI A c1 c2 c3 a' M'→R (.bool true) (some M')) (hbad:∀ a' M',lineA (decide (number=1)) a s=none→rdI A c1 c2 c3 a' M'→R (.bool false) (some M')):CallA Tryz.prog 24 [.ptr A.length 0 0,.str s,.int .i64 number] M R:=by
  obtain⟨o,w,hc⟩:∃ o w,cutP 32 s=o::w:=by
    rcases h:cutP 32 s with _|⟨o,w⟩
    · exact absurd h (cutP_ne 32 s)
    · exact⟨o,w,rfl⟩
  have hl:lineA (decide (number=1)) a s=if decide (o=actionT)≠decide (number=1) then none
    else if o=partT∧a.evs=[]∧a.leads=[] then (partP w).map fun p=>⟨a.dip,a.parts++[p],a.evs,a.leads⟩
    else if o=eventT∧a.leads=[] then (evP w).map fun e=>⟨a.dip,a.parts,a.evs++[e],a.leads⟩
    else if o=actionT∧w.length=1 then (numsP 7 w).map fun n=>⟨n.getD 0 0,a.parts,a.evs,a.leads⟩
    else if o=leadT∧w.length=2 then (numsP 7 w).map fun n=>⟨a.dip,a.parts,a.evs,a.leads++[(n.getD 0 0,n.getD 1 0)]⟩
    else none:=by
    unfold lineA
    rw [hc]
  rw [hl] at hok hbad
  clear hl
  by_cases hm:o=actionT↔number=1
  · rw [if_neg (by simp [hm])] at hok hbad
    by_cases ha:o=actionT
    · have hn:=hm.1 ha
      subst ha
      subst hn
      rw [if_neg (fun q=>absurd q.1 (by decide)),if_neg (fun q=>absurd q.1 (by decide))] at hok hbad
      refine aread_dip A c1 c2 c3 a M hI s w hc hs R (fun n M' h1 h2=>hok _ M' ?_ h2) fun M' h1 h2=>hbad a M' ?_ h2
      · have:=numsP_len h1
        rw [if_pos ⟨rfl,by simpa using this.symm⟩,h1]
        rfl
      · by_cases hw:w.length=1
        · rcases h1 with h1|h1
          · rw [if_pos ⟨rfl,hw⟩,h1];rfl
          · exact absurd hw h1
        · rw [if_neg (fun q=>hw q.2),if_neg (fun q=>absurd q.1 (by decide))]
    · have hn : ¬ number=1:=fun q=>ha (hm.2 q)
      by_cases h1:o=partT∧a.evs=[]∧a.leads=[]
      · rw [if_pos h1] at hok hbad
        obtain⟨rfl,h2,h3⟩:=h1
        exact aread_pt A c1 c2 c3 a M hI s w number hn hc hs hb1 h2 h3 R (fun p M' g1 g2=>hok _ M' (by rw [g1];rfl) g2) fun a' M' g1 g2=>hbad a' M' (by rw [g1];rfl) g2
      · rw [if_neg h1] at hok hbad
        by_cases h2:o=eventT∧a.leads=[]
        · rw [if_pos h2] at hok hbad
          obtain⟨rfl,h3⟩:=h2
          exact aread_ev A c1 c2 c3 a M hI s w number hn hc hs hb2 h3 R (fun p M' g1 g2=>hok _ M' (by rw [g1];rfl) g2) fun a' M' g1 g2=>hbad a' M' (by rw [g1];rfl) g2
        · rw [if_neg h2,if_neg (fun q=>ha q.1)] at hok hbad
          by_cases h4:o=leadT
          · subst h4
            refine aread_ld A c1 c2 c3 a M hI s w number hn hc hs hb3 R (fun x y M' g1 g2=>hok _ M' ?_ g2) fun a' M' g1 g2=>hbad a' M' ?_ g2
            · have:=numsP_len g1
              rw [if_pos ⟨rfl,by simpa using this.symm⟩,g1]
              rfl
            · by_cases hw:w.length=2
              · rcases g1 with g1|g1
                · rw [if_pos ⟨rfl,hw⟩,g1];rfl
                · exact absurd hw g1
              · rw [if_neg (fun q=>hw q.2)]
          · rw [if_neg (fun q=>h4 q.1)] at hbad
            exact aread_no A c1 c2 c3 a M hI s o w number hn hc hs ha h1 h2 h4 hb2 hb3 R fun a' M' g=>hbad a' M' rfl g
  · rw [if_pos (fun q=>hm (by simpa using q))] at hbad
    exact aread_mis A c1 c2 c3 a M hI s o w number hc hs hm R fun M' g=>hbad a M' rfl g
end Go.Proofs.YtomkbpoicjabfaaGreatDoor
