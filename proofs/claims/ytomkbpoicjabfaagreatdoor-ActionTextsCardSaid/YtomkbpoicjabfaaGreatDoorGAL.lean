import Derived.Test.YtomkbpoicjabfaaGreatDoorU10
import Derived.Test.YtomkbpoicjabfaaGreatDoorGAA
set_option linter.unusedSimpArgs false
set_option linter.unusedVariables false
/- contracts: the reference reads a line of an action: events -/
namespace Go.Proofs.YtomkbpoicjabfaaGreatDoor
open Go.RowKit
attribute [local irreducible] WA WOs WDs WAn qThen qBlock tput
set_option maxHeartbeats 1000000
set_option maxRecDepth 20000
set_option linter.unusedSimpArgs false
set_option linter.unusedVariables false
set_option maxHeartbeats 4000000
theorem uU101_26_15{N:Nat}{l:List Oper}{t:List (Nat×V)}{m:Mem}{Q:Exit→List (Nat×V)→Mem→Prop}(h:RgN Tryz.prog N l t m Q (fun i=>if i==14 then .f else if i==13 then .a else if i==2 || i==5 || i==8 || i==11 then .q else .p) [.one 0,.one 1,.one 2,.one 3,.one 4,.one 5,.one 6,.one 7,.one 8,.one 9,.one 10,.one 11,.one 12,.one 13,.one 14]):WA Tryz.prog N (.region 15 l.toArray true) t m Q:=d_rgN h
theorem uU101_26_23{N:Nat}{l:List Oper}{t:List (Nat×V)}{m:Mem}{Q:Exit→List (Nat×V)→Mem→Prop}(h:RgN Tryz.prog N l t m Q (fun i=>if i==16 || i==19 then .w else if i==15 then .a else if i==2 || i==6 || i==7 || i==12 || i==13 then .q else .p) [.one 0,.one 1,.one 2,.one 3,.one 4,.one 5,.one 6,.one 7,.one 8,.one 9,.one 10,.one 11,.one 12,.one 13,.one 14,.one 15,.one 16,.one 17,.one 18,.one 19]):WA Tryz.prog N (.region 23 l.toArray true) t m Q:=d_rgN h
theorem uU101_26_24{N:Nat}{l:List Oper}{t:List (Nat×V)}{m:Mem}{Q:Exit→List (Nat×V)→Mem→Prop}(h:RgN Tryz.prog N l t m Q (fun i=>if i==8 || i==12 then .w else if i==7 then .a else if i==5 || i==6 then .q else .p) [.one 0,.one 1,.one 2,.one 3,.one 4,.one 5,.one 6,.one 7,.one 8,.one 9,.one 10,.one 11,.one 12]):WA Tryz.prog N (.region 24 l.toArray true) t m Q:=d_rgN h
theorem uU101_26_32{N:Nat}{l:List Oper}{t:List (Nat×V)}{m:Mem}{Q:Exit→List (Nat×V)→Mem→Prop}(h:RgN Tryz.prog N l t m Q (fun i=>if i==21 || i==25 then .w else if i==20 then .a else if i==5 || i==8 || i==11 || i==14 || i==17 || i==18 then .q else .p) [.one 0,.one 1,.one 2,.one 3,.one 4,.one 5,.one 6,.one 7,.one 8,.one 9,.one 10,.one 11,.one 12,.one 13,.one 14,.one 15,.one 16,.one 17,.one 18,.one 19,.one 20,.one 21,.one 22,.one 23,.one 24,.one 25]):WA Tryz.prog N (.region 32 l.toArray true) t m Q:=d_rgN h
theorem uU101_26_38{N:Nat}{l:List Oper}{t:List (Nat×V)}{m:Mem}{Q:Exit→List (Nat×V)→Mem→Prop}(h:RgN Tryz.prog N l t m Q (fun i=>if i==14 || i==18 then .w else if i==13 then .a else if i==5 || i==8 || i==11 then .q else .p) [.one 0,.one 1,.one 2,.one 3,.one 4,.one 5,.one 6,.one 7,.one 8,.one 9,.one 10,.one 11,.one 12,.one 13,.one 14,.one 15,.one 16,.one 17,.one 18]):WA Tryz.prog N (.region 38 l.toArray true) t m Q:=d_rgN h
theorem rline_ev (A:Mem) (rk:Int) (a:ActR) (M:Mem) (hI:rlI A rk a M) (s:Txt) (w:List Txt) (hc:cutP 32 s=[101,118,101,110,116]::w) (hs:s.length≤1000) (hb:a.evs.length≤1000) (R:V→Option Mem→Prop) (hok:∀ p M',evP w=some p→rk≠0→rk≤2→rlI A 2 ⟨a.dip,a.parts,a.evs++[p],a.leads⟩ M'→R (.bool true) (some M')) (hbad:∀ Z,(evP w=none∨rk=0∨2<rk)→R (.bool false) (some (A++Z))):CallA Tryz.prog 26 [.ptr A.length 0 0,.str s] M R:=by
  obtain⟨v1,v2,v3,X,rfl,hv⟩:=hI
  have hsp:=fun m=>bcut_c s 32 (by omega) m
  have hcm:=fun p=>cutP_sub (c:=32) (s:=s) (p:=p)
  have hcl:=cutP_len 32 s
  rw [hc] at hsp hcm hcl
  rw [List.length_cons] at hcl
  have hwm:∀ x∈w,x.length≤100000:=fun x hx=>Nat.le_trans (hcm x (List.mem_cons_of_mem _ hx)) (by omega)
  have hnu:=fun m=>rints_c w (by omega) (fun i hi=>hwm _ (gdm hi)) m
  have hll:(xsV ([101,118,101,110,116]::w)).length=w.length+1:=by rw [xsV_length];rfl
  have hal:(xsV ([101,118,101,110,116]::w)).all (fun e=>e.length==1)=true:=by simp [xsV]
  have hx0:(xsV ([101,118,101,110,116]::w))[0]?=some [.str [101,118,101,110,116]]:=rfl
  have hwl:w.length≤1000:=by omega
  have n1:¬ ([101,118,101,110,116]:Txt)=[97,99,116,105,111,110]:=by decide
  have n2:¬ ([101,118,101,110,116]:Txt)=[112,97,114,116]:=by decide
  clear hnu
  by_cases h4:w.length=4
  · obtain⟨nm,pt,dr,lv,rfl⟩:∃ nm pt dr lv,w=[nm,pt,dr,lv]:=by
      rcases w with _|⟨a,_|⟨b,_|⟨c,_|⟨d,_|⟨e,r⟩⟩⟩⟩⟩
      · simp at h4
      · simp at h4
      · simp at h4
      · simp at h4
      · exact⟨_,_,_,_,rfl⟩
      · simp at h4
    have hll:(xsV [[101,118,101,110,116],nm,pt,dr,lv]).length=5:=rfl
    have hx1:(xsV [[101,118,101,110,116],nm,pt,dr,lv])[1]?=some [.str nm]:=rfl
    have hx2:(xsV [[101,118,101,110,116],nm,pt,dr,lv])[2]?=some [.str pt]:=rfl
    have hx3:(xsV [[101,118,101,110,116],nm,pt,dr,lv])[3]?=some [.str dr]:=rfl
    have hnu:=fun m=>rints_c [lv] (by simp) (fun i hi=>hwm _ (List.mem_cons_of_mem _ (List.mem_cons_of_mem _ (List.mem_cons_of_mem _ (gdm hi))))) m
    have hs1:List.take ((5:Int) - 4).toNat (List.drop 4 (xsV [[101,118,101,110,116],nm,pt,dr,lv]))=xsV [lv]:=rfl
    have hev:evP [nm,pt,dr,lv]=if dr=riseT∨dr=fallT then (numP 7 lv).map fun n=>⟨nm,pt,n,decide (dr=fallT)⟩ else none:=rfl
    rw [hev] at hok hbad
    clear hev hc hcm hwm
    unfold riseT fallT at hok hbad
    by_cases hd:dr=[114,105,115,101]∨dr=[102,97,108,108]
    · rw [if_pos hd] at hok hbad
      obtain⟨fl,hfl⟩:∃ fl:Bool,decide (dr=[102,97,108,108])=fl:=⟨_,rfl⟩
      have hnp:numsP 7 [lv]=(numP 7 lv).map fun n=>[n]:=by
        simp only [numsP]
        cases numP 7 lv<;>rfl
      rw [hnp] at hnu
      rw [hfl] at hok hbad
      clear hnp
      refine CallA_inD Tryz.func26 rfl Tryz.ntmps26 Tryz.results26 (by kernel_rfl) (by simp) fun Q hQ=>?_
      (have FX:=And.intro hll (And.intro hal (And.intro hx0 (And.intro hx1 (And.intro hx2 (And.intro hx3 (And.intro hs1 (And.intro n1 n2)))))));repeat'(first|(refine sx ?_ ?_<;>intro h<;>first|(exfalso;omega)|skip)|(refine g_op ?_;refine g_call ?_;refine g_args ?_;(first|refine s_fn (hsp _) ?_)<;>try first|omega|assumption)|refine ny ?_|refine WA_block ?_|(refine uU101_26_15 ?_;refine⟨by kernel_rfl,?_⟩)|(refine uU101_26_23 ?_;refine⟨by kernel_rfl,?_⟩)|(refine uU101_26_24 ?_;refine⟨by kernel_rfl,?_⟩)|(refine uU101_26_32 ?_;refine⟨by kernel_rfl,?_⟩)|(refine uU101_26_38 ?_;refine⟨by kernel_rfl,?_⟩)|((first|refine grp_cons (fun _=>hsp _) ?_)<;>try first|omega|assumption)|(refine g_d ?_;refine d_args ?_;(first|refine d_fn (hsp _) ?_|refine d_fnQ (fun _=>hsp _) ?_)<;>try first|omega|assumption)|(refine g_d ?_;(first|refine d_fnY (hsp _) ?_)<;>try first|omega|assumption)))
      all_goals(try(exfalso;first|omega|contradiction|(rcases hd with hd|hd<;>contradiction)))
      all_goals(
        refine g_op ?_;refine g_call ?_;refine g_args ?_;refine s_fnA (rgoes_k A _ _ _ _ _ rk 2) ?_
        rintro v mo hgo
        rcases hgo with ⟨hg,rfl,rfl⟩|⟨hg,rfl,rfl⟩)
      all_goals simp only [Option.getD_some]
      all_goals try rw [if_neg (by decide)]
      all_goals(have FX:=And.intro hll (And.intro hal (And.intro hx0 (And.intro hx1 (And.intro hx2 (And.intro hx3 (And.intro hs1 (And.intro n1 n2)))))));repeat'(first|(refine sx ?_ ?_<;>intro h<;>first|(exfalso;omega)|skip)|(refine g_op ?_;refine g_call ?_;refine g_args ?_;(first|refine s_fn (hsp _) ?_)<;>try first|omega|assumption)|refine ny ?_|refine WA_block ?_|(refine uU101_26_15 ?_;refine⟨by kernel_rfl,?_⟩)|(refine uU101_26_23 ?_;refine⟨by kernel_rfl,?_⟩)|(refine uU101_26_24 ?_;refine⟨by kernel_rfl,?_⟩)|(refine uU101_26_32 ?_;refine⟨by kernel_rfl,?_⟩)|(refine uU101_26_38 ?_;refine⟨by kernel_rfl,?_⟩)|((first|refine grp_cons (fun _=>hsp _) ?_)<;>try first|omega|assumption)|(refine g_d ?_;refine d_args ?_;(first|refine d_fn (hsp _) ?_|refine d_fnQ (fun _=>hsp _) ?_)<;>try first|omega|assumption)|(refine g_d ?_;(first|refine d_fnY (hsp _) ?_)<;>try first|omega|assumption)))
      all_goals(try(exact hQ _ _ _ (by first|exact .inl rfl|exact .inr rfl) (V.bool false) rfl (hbad _ (.inr (by omega)))))
      all_goals(
        refine g_op ?_;refine g_call ?_;refine g_args ?_;refine s_fnA (hnu _) ?_
        rintro v mo ⟨rfl,rfl⟩
        simp only [Option.getD_none])
      all_goals rcases hq:numP 7 lv with _|n
      all_goals(try(
        rw [hq] at hbad
        simp only [Option.map_none,nbV]
        (have FX:=And.intro hll (And.intro hal (And.intro hx0 (And.intro hx1 (And.intro hx2 (And.intro hx3 (And.intro hs1 (And.intro n1 n2)))))));repeat'(first|(refine sx ?_ ?_<;>intro h<;>first|(exfalso;omega)|skip)|(refine g_op ?_;refine g_call ?_;refine g_args ?_;(first|refine s_fn (hsp _) ?_)<;>try first|omega|assumption)|refine ny ?_|refine WA_block ?_|(refine uU101_26_15 ?_;refine⟨by kernel_rfl,?_⟩)|(refine uU101_26_23 ?_;refine⟨by kernel_rfl,?_⟩)|(refine uU101_26_24 ?_;refine⟨by kernel_rfl,?_⟩)|(refine uU101_26_32 ?_;refine⟨by kernel_rfl,?_⟩)|(refine uU101_26_38 ?_;refine⟨by kernel_rfl,?_⟩)|((first|refine grp_cons (fun _=>hsp _) ?_)<;>try first|omega|assumption)|(refine g_d ?_;refine d_args ?_;(first|refine d_fn (hsp _) ?_|refine d_fnQ (fun _=>hsp _) ?_)<;>try first|omega|assumption)|(refine g_d ?_;(first|refine d_fnY (hsp _) ?_)<;>try first|omega|assumption)))
        (exact hQ _ _ _ (by first|exact .inl rfl|exact .inr rfl) (V.bool false) rfl (hbad _ (.inl rfl)))))
      all_goals(
        rw [hq] at hok
        simp only [Option.map_some,nbV]
        have hR:=fun M'=>hok ⟨nm,pt,n,fl⟩ M' rfl (by omega) (by omega)
        clear hok hbad FX
        have hnl:(nsV [n]).length=1:=rfl
        have hn0:(nsV [n])[0]?=some [.int .i64 n]:=rfl
        have hna:(nsV [n]).all (fun e=>e.length==1)=true:=nsV_all rfl
        obtain⟨hv1,hv2,hv3⟩:=hv
        rcases hv2 with ⟨rfl,h2⟩|⟨j,rfl,h2,h3⟩
        · 
          (have FX:=And.intro hll (And.intro hal (And.intro hx0 (And.intro hx1 (And.intro hx2 (And.intro hx3 (And.intro n1 (And.intro n2 (And.intro hnl (And.intro hn0 (And.intro hna hfl))))))))));repeat'(first|(refine sx ?_ ?_<;>intro h<;>first|(exfalso;omega)|skip)|(refine g_op ?_;refine g_call ?_;refine g_args ?_;(first|refine s_fn (hsp _) ?_)<;>try first|omega|assumption)|refine ny ?_|refine WA_block ?_|(refine uU101_26_15 ?_;refine⟨by kernel_rfl,?_⟩)|(refine uU101_26_23 ?_;refine⟨by kernel_rfl,?_⟩)|(refine uU101_26_24 ?_;refine⟨by kernel_rfl,?_⟩)|(refine uU101_26_32 ?_;refine⟨by kernel_rfl,?_⟩)|(refine uU101_26_38 ?_;refine⟨by kernel_rfl,?_⟩)|((first|refine grp_cons (fun _=>hsp _) ?_)<;>try first|omega|assumption)|(refine g_d ?_;refine d_args ?_;(first|refine d_fn (hsp _) ?_|refine d_fnQ (fun _=>hsp _) ?_)<;>try first|omega|assumption)|(refine g_d ?_;(first|refine d_fnY (hsp _) ?_)<;>try first|omega|assumption)))
          have e1:a.evs=[]:=List.map_eq_nil_iff.1 h2
          refine hQ _ _ _ (.inr rfl) (.bool true) rfl (hR _ ⟨_,_,_,X++[_,_],rfl,slAt_ext hv1,.inr ⟨X.length+1,?_,?_,?_⟩,slAt_ext hv3⟩)
          · rw [e1];simp [evsV];omega
          · simp [evsV]
          · rw [e1];simp [evsV,evV]
        · have hjl:=(List.getElem?_eq_some_iff.1 h3).1
          have hgj:∀ Y:Mem,(X++Y)[j]?=some (.cells .own 74 4 (evsV a.evs)):=fun Y=>by rw [List.getElem?_append_left hjl];exact h3
          have hsj:∀ (Y:Mem) (z:Blk),(X++Y).set j z=X.set j z++Y:=fun Y z=>List.set_append_left _ _ hjl
          have hlm:(evsV a.evs).length=a.evs.length:=evsV_length
          have hlt:(evsV a.evs).take a.evs.length=(evsV a.evs):=List.take_of_length_le (by rw [hlm];exact Nat.le_refl _)
          rw [hlm,show A.length+1+j=A.length+(j+1) by omega,show X=X++[] from(List.append_nil _).symm]
          (have FX:=And.intro hll (And.intro hal (And.intro hx0 (And.intro hx1 (And.intro hx2 (And.intro hx3 (And.intro n1 (And.intro n2 (And.intro hnl (And.intro hn0 (And.intro hna (And.intro hfl (And.intro hgj (And.intro hsj (And.intro hlm (And.intro hlt hb)))))))))))))));repeat'(first|(refine sx ?_ ?_<;>intro h<;>first|(exfalso;omega)|skip)|(refine g_op ?_;refine g_call ?_;refine g_args ?_;(first|refine s_fn (hsp _) ?_)<;>try first|omega|assumption)|refine ny ?_|refine WA_block ?_|(refine uU101_26_15 ?_;refine⟨by kernel_rfl,?_⟩)|(refine uU101_26_23 ?_;refine⟨by kernel_rfl,?_⟩)|(refine uU101_26_24 ?_;refine⟨by kernel_rfl,?_⟩)|(refine uU101_26_32 ?_;refine⟨by kernel_rfl,?_⟩)|(refine uU101_26_38 ?_;refine⟨by kernel_rfl,?_⟩)|((first|refine grp_cons (fun _=>hsp _) ?_)<;>try first|omega|assumption)|(refine g_d ?_;refine d_args ?_;(first|refine d_fn (hsp _) ?_|refine d_fnQ (fun _=>hsp _) ?_)<;>try first|omega|assumption)|(refine g_d ?_;(first|refine d_fnY (hsp _) ?_)<;>try first|omega|assumption)))
          refine hQ _ _ _ (.inr rfl) (.bool true) rfl (hR _ ⟨_,_,_,X.set j .dead++[_,_],rfl,slAt_ext (slAt_set hv1 h3 (by decide) _),.inr ⟨X.length+1,?_,?_,?_⟩,slAt_ext (slAt_set hv3 h3 (by decide) _)⟩)
          · simp [evsV];omega
          · simp [evsV]
          · simp [evsV,evV])
    · rw [if_neg hd] at hbad
      have hd1:¬ dr=[114,105,115,101]:=fun q=>hd (.inl q)
      have hd2:¬ dr=[102,97,108,108]:=fun q=>hd (.inr q)
      clear hd
      refine CallA_inD Tryz.func26 rfl Tryz.ntmps26 Tryz.results26 (by kernel_rfl) (by simp) fun Q hQ=>?_
      (have FX:=And.intro hll (And.intro hal (And.intro hx0 (And.intro hx1 (And.intro hx2 (And.intro hx3 (And.intro n1 n2))))));repeat'(first|(refine sx ?_ ?_<;>intro h<;>first|(exfalso;omega)|skip)|(refine g_op ?_;refine g_call ?_;refine g_args ?_;(first|refine s_fn (hsp _) ?_)<;>try first|omega|assumption)|refine ny ?_|refine WA_block ?_|(refine uU101_26_15 ?_;refine⟨by kernel_rfl,?_⟩)|(refine uU101_26_23 ?_;refine⟨by kernel_rfl,?_⟩)|(refine uU101_26_24 ?_;refine⟨by kernel_rfl,?_⟩)|(refine uU101_26_32 ?_;refine⟨by kernel_rfl,?_⟩)|(refine uU101_26_38 ?_;refine⟨by kernel_rfl,?_⟩)|((first|refine grp_cons (fun _=>hsp _) ?_)<;>try first|omega|assumption)|(refine g_d ?_;refine d_args ?_;(first|refine d_fn (hsp _) ?_|refine d_fnQ (fun _=>hsp _) ?_)<;>try first|omega|assumption)|(refine g_d ?_;(first|refine d_fnY (hsp _) ?_)<;>try first|omega|assumption)))
      all_goals(try(exfalso;first|omega|contradiction))
      all_goals(exact hQ _ _ _ (by first|exact .inl rfl|exact .inr rfl) (V.bool false) rfl (hbad _ (.inl rfl)))
  · have e:evP w=none:=by
      rcases w with _|⟨a,_|⟨b,_|⟨c,_|⟨d,_|⟨e,r⟩⟩⟩⟩⟩
      · rfl
      · rfl
      · rfl
      · rfl
      · exact absurd rfl h4
      · rfl
    clear hc hcm hwm
    refine CallA_inD Tryz.func26 rfl Tryz.ntmps26 Tryz.results26 (by kernel_rfl) (by simp) fun Q hQ=>?_
    (have FX:=And.intro hll (And.intro hal (And.intro hx0 (And.intro n1 n2)));repeat'(first|(refine sx ?_ ?_<;>intro h<;>first|(exfalso;omega)|skip)|(refine g_op ?_;refine g_call ?_;refine g_args ?_;(first|refine s_fn (hsp _) ?_)<;>try first|omega|assumption)|refine ny ?_|refine WA_block ?_|(refine uU101_26_15 ?_;refine⟨by kernel_rfl,?_⟩)|(refine uU101_26_23 ?_;refine⟨by kernel_rfl,?_⟩)|(refine uU101_26_24 ?_;refine⟨by kernel_rfl,?_⟩)|(refine uU101_26_32 ?_;refine⟨by kernel_rfl,?_⟩)|(refine uU101_26_38 ?_;refine⟨by kernel_rfl,?_⟩)|((first|refine grp_cons (fun _=>hsp _) ?_)<;>try first|omega|assumption)|(refine g_d ?_;refine d_args ?_;(first|refine d_fn (hsp _) ?_|refine d_fnQ (fun _=>hsp _) ?_)<;>try first|omega|assumption)|(refine g_d ?_;(first|refine d_fnY (hsp _) ?_)<;>try first|omega|assumption)))
    all_goals(try(exfalso;first|omega|contradiction))
    all_goals(exact hQ _ _ _ (by first|exact .inl rfl|exact .inr rfl) (V.bool false) rfl (hbad _ (.inl e)))
end Go.Proofs.YtomkbpoicjabfaaGreatDoor
namespace Go.Proofs.YtomkbpoicjabfaaGreatDoor
open Go.RowKit
section
variable {P:Program} {N:Nat} {t:List (Nat×V)} {m:Mem} {Q:List (Nat×V)→Mem→Prop} {ops:Array Oper} {rest:List Oper} {k:Option Nat} {ty:TypeId} {pos:String} {af:Array Edge}
theorem x_sl3 {T E:TypeId} {x lo hi mx:Operand} {es:List (List V)} {l h:Nat} {K:V→Mem→Prop} (hx:evO t x= .lst es) (hl:evO t lo= .int .i64 l) (hh:evO t hi= .int .i64 h) (hm:evO t mx= .int .i64 h) (h1:l≤h) (h2:h≤es.length) (h0:0<es.length) (hE:slT P T=some E) (hp:0<szT P E) (hs:∀ e∈es,e.length=szT P E) (hk:K (.lst ((es.drop l).take (h - l))) m):
    XOp P t m (.slice T x (some lo) (some hi) (some mx)) K:=by
  refine⟨fun c=>by simp,fun w ρ a o ho' hM hTm=>?_⟩
  have rx:=evO_rel hTm x;rw [hx] at rx
  have rl:=evO_rel hTm lo;rw [hl] at rl
  have rh:=evO_rel hTm hi;rw [hh] at rh
  have rm:=evO_rel hTm mx;rw [hm] at rm
  generalize e0:a.eval x=ex at rx
  generalize e1:a.eval lo=el at rl
  generalize e2:a.eval hi=eh at rh
  generalize e3:a.eval mx=em at rm
  cases rl
  cases rh
  cases rm
  cases rx with
  |lnil=>exact absurd h0 (by simp)
  | lst _ b off c s Y g1 g2 g3 g4 g5 g6 g7 g8=>
    have rv:=rel_sub (w:=w) (ρ:=ρ) (B:=bad m ρ) (es:=es.take h) (b:=b) (off:=off) (c:=h) (s:=szT P E) (Y:=Y) g1 g2 (by rw [List.length_take];omega) (by omega) (fun e he=>hs e (List.mem_of_mem_take he)) (fun i j e u a1 a2=>by
      have a1':es[i]?=some e:=by
        have hi:i<h:=by
          have:=(List.getElem?_eq_some_iff.1 a1).1
          rw [List.length_take] at this
          omega
        rw [List.getElem?_take_of_lt hi] at a1
        exact a1
      have:s=szT P E:=(g5 e (List.mem_of_getElem? a1')).symm.trans (hs e (List.mem_of_getElem? a1'))
      rw [←this]
      exact⟨g6 i j e u a1' a2,g7 i j e u a1' a2,g8 i j e u a1' a2⟩) (l:=l) (h:=h) h1 (by rw [List.length_take];omega)
    have el:((es.take h).drop l).take (h - l)=(es.drop l).take (h - l):=by
      rw [List.drop_take,List.take_take,Nat.min_self]
    rw [el] at rv
    refine⟨_,w,_,m,ρ,?_,hk,After.refl hM,.inl ⟨_,rfl,rv⟩⟩
    simp only [execOp,ho',Option.map_some,e0,e1,e2,e3]
    refine run_v ?_
    have b1:(Instr.sliceBound (.int .i64 (h:Int)) c .slice3Acap).run P w= .ok h w:=by
      have:=run_sliceBound (P:=P) (w:=w) (k:= .i64) (n:=(h:Int)) (y:=c) (code:= .slice3Acap) (by omega) (by omega)
      simpa using this
    have b2:(Instr.sliceBound (.int .i64 (h:Int)) h .slice3B).run P w= .ok h w:=by
      have:=run_sliceBound (P:=P) (w:=w) (k:= .i64) (n:=(h:Int)) (y:=h) (code:= .slice3B) (by omega) (by omega)
      simpa using this
    have b3:(Instr.sliceBound (.int .i64 (l:Int)) h .slice3C).run P w= .ok l w:=by
      have:=run_sliceBound (P:=P) (w:=w) (k:= .i64) (n:=(l:Int)) (y:=h) (code:= .slice3C) (by omega) (by omega)
      simpa using this
    have bb:(Instr.sliceBounds true es.length c (some (.int .i64 (l:Int))) (some (.int .i64 (h:Int))) (some (.int .i64 (h:Int)))).run P w= .ok (l,h,h) w:=by
      simp only [Instr.sliceBounds,Sem.run_bind,Sem.run_pure,Result.andThen_ok,if_true,Option.isSome_some,b1,b2,b3]
    simp only [Instr.sliceAt,Sem.run_bind,run_underlying (slT_spec hE),Result.andThen_ok,Instr.slice,bb,run_sizeOf hp,Sem.run_pure]
    split
    · simp
    · simp [addr_add]
theorem s_sl3{T E:TypeId}{x lo hi mx:Operand}{es:List (List V)}{l h:Nat}(hx:evO t x= .lst es)(hl:evO t lo= .int .i64 l)(hh:evO t hi= .int .i64 h)(hm:evO t mx= .int .i64 h)(h1:l≤h)(h2:h≤es.length)(h0:0<es.length)(hE:slT P T=some E)(hp:0<szT P E)(hs:∀ e∈es,e.length=szT P E)(hd:dOkB N k=true)(hk:WOs P N ops rest (tput t k (.lst ((es.drop l).take (h - l)))) m Q):
    WOs P N ops (⟨k,.slice T x (some lo) (some hi) (some mx),ty,pos,af,none⟩::rest) t m Q:=by
  refine WOs_x (dOk_b hd) (by simp) ?_ ?_ (x_sl3 hx hl hh hm h1 h2 h0 hE hp hs hk)
  · rfl
  · rfl
end
end Go.Proofs.YtomkbpoicjabfaaGreatDoor
