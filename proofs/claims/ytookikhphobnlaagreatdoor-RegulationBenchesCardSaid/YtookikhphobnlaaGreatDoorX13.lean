/- contracts: the program reads a line of a bench -/
import Derived.Test.YtookikhphobnlaaGreatDoorX12
set_option linter.unusedSimpArgs false
set_option linter.unusedVariables false
namespace Go.Proofs.YtookikhphobnlaaGreatDoor
open Go.RowKit
attribute [local irreducible] WA WOs WDs WAn qThen qBlock tput
set_option maxHeartbeats 1000000
set_option maxRecDepth 20000
set_option linter.unusedSimpArgs false
set_option linter.unusedVariables false
set_option maxHeartbeats 4000000
theorem gadj_all(w:List Txt)(hl:w.length≤100000)(hw:∀ x∈w,x.length≤100000)(m:Mem):Gives Tryz.prog 67 [.lst (xsV w)] m (.tup [.agg (adV (adjT w).1),.bool (adjT w).2]):=by
  by_cases h:w.length<4
  · exact gadj_short w h m
  · rcases w with _|⟨a,_|⟨b,_|⟨c,_|⟨d,r⟩⟩⟩⟩
    · exact absurd (by decide) h
    · exact absurd (by simp) h
    · exact absurd (by simp) h
    · exact absurd (by simp) h
    · exact gadj_c a b c d r (by simp only [List.length_cons] at hl;omega) hw m
/-- a slice of one's own, or nil, among the blocks behind the first four -/
def slAt(o:Nat)(X:Mem)(T sz:Nat)(es:List (List V))(v:V):Prop:=(v= .nilsl∧es=[])∨∃ j,v= .sl (o+(j+4)) es.length∧es≠[]∧X[j]?=some (.cells .own T sz es)
theorem slAt_ext{o:Nat}{X Y:Mem}{T sz:Nat}{es:List (List V)}{v:V}(h:slAt o X T sz es v):slAt o (X++Y) T sz es v:=by
  rcases h with h|⟨j,h1,h2,h3⟩
  · exact .inl h
  · exact .inr ⟨j,h1,h2,by rw [List.getElem?_append_left (List.getElem?_eq_some_iff.1 h3).1];exact h3⟩
theorem slAt_set{o k:Nat}{X:Mem}{T sz T' sz':Nat}{es es':List (List V)}{v:V}(h:slAt o X T sz es v)(hk:X[k]?=some (.cells .own T' sz' es'))(hT:T≠T')(x:Blk):slAt o (X.set k x) T sz es v:=by
  rcases h with h|⟨j,h1,h2,h3⟩
  · exact .inl h
  · refine .inr ⟨j,h1,h2,?_⟩
    rw [List.getElem?_set_ne]
    · exact h3
    · rintro rfl
      rw [h3] at hk
      cases hk
      exact hT rfl
/-- the memory of one who reads a bench -/
def lnI(A:Mem)(c1 c2 c3:Blk)(b:BnR)(M:Mem):Prop:=∃ v1 v2 X,M=A++(.cells .own 28 2 [[v1,v2]]::c1::c2::c3::X)∧slAt A.length X 75 4 (mssV b.ms) v1∧slAt A.length X 78 6 (adsV b.ads) v2
theorem uX13_30_6{N:Nat}{l:List Oper}{t:List (Nat×V)}{m:Mem}{Q:Exit→List (Nat×V)→Mem→Prop}(h:RgN Tryz.prog N l t m Q (fun i=>if i==19 || i==22 then .w else if i==18 then .a else if i==4 || i==7 || i==10 || i==13 || i==16 then .q else .p) [.one 0,.one 1,.one 2,.one 3,.one 4,.one 5,.one 6,.one 7,.one 8,.one 9,.one 10,.one 11,.one 12,.one 13,.one 14,.one 15,.one 16,.one 17,.one 18,.one 19,.one 20,.one 21,.one 22]):WA Tryz.prog N (.region 6 l.toArray true) t m Q:=d_rgN h
theorem uX13_30_10{N:Nat}{l:List Oper}{t:List (Nat×V)}{m:Mem}{Q:Exit→List (Nat×V)→Mem→Prop}(h:RgN Tryz.prog N l t m Q (fun i=>if i==7 || i==10 then .w else if i==6 then .a else if i==4 || i==5 then .q else .p) [.one 0,.one 1,.one 2,.one 3,.one 4,.one 5,.one 6,.one 7,.one 8,.one 9,.one 10]):WA Tryz.prog N (.region 10 l.toArray true) t m Q:=d_rgN h
theorem gline_no(A:Mem)(c1 c2 c3:Blk)(b:BnR)(M:Mem)(hI:lnI A c1 c2 c3 b M)(s o:Txt)(w:List Txt)(hc:cutP 32 s=o::w)(hs:s.length≤1000)(ha:¬ o=adjustT)(hm:¬ (o=measureT∧w.length=4∧b.ads=[]))(R:V→Option Mem→Prop)(hR:∀ M',lnI A c1 c2 c3 b M'→R (.bool false) (some M')):CallA Tryz.prog 30 [.ptr A.length 0 0,.str s] M R:=by
  obtain⟨v1,v2,X,rfl,hv1,hv2⟩:=hI
  have hsp:=fun m=>xsplit_c s 32 (by omega) m
  rw [hc] at hsp
  have hll:(xsV (o::w)).length=w.length+1:=by rw [xsV_length];rfl
  have hal:(xsV (o::w)).all (fun e=>e.length==1)=true:=by simp [xsV]
  have hx0:(xsV (o::w))[0]?=some [.str o]:=rfl
  have hmm:¬ (o=[109,101,97,115,117,114,101]∧w.length=4∧b.ads.length=0):=fun q=>hm ⟨q.1,q.2.1,List.length_eq_zero_iff.1 q.2.2⟩
  have haa:¬ o=[97,100,106,117,115,116]:=ha
  refine CallA_inD Tryz.func30 rfl Tryz.ntmps30 Tryz.results30 (by kernel_rfl) (by simp) fun Q hQ=>?_
  have hend:=hR _ ⟨v1,v2,X,rfl,hv1,hv2⟩
  clear hm ha hc
  rcases hv2 with ⟨rfl,h2⟩|⟨j2,rfl,h2,h3⟩
  · have h4:b.ads.length=0:=by rw [←adsV_length,h2];rfl
    (have FX:=And.intro hll (And.intro hal hx0);repeat'(first|(refine sx ?_ ?_<;>intro h<;>first|(exfalso;omega)|skip)|(refine g_op ?_;refine g_call ?_;refine g_args ?_;(first|refine s_fn (hsp _) ?_)<;>try first|omega|assumption)|refine ny ?_|refine WA_block ?_|(refine uX13_30_6 ?_;refine⟨by kernel_rfl,?_⟩)|(refine uX13_30_10 ?_;refine⟨by kernel_rfl,?_⟩)|((first|refine grp_cons (fun _=>hsp _) ?_)<;>try first|omega|assumption)|(refine g_d ?_;refine d_args ?_;(first|refine d_fn (hsp _) ?_|refine d_fnQ (fun _=>hsp _) ?_)<;>try first|omega|assumption)|(refine g_d ?_;(first|refine d_fnY (hsp _) ?_)<;>try first|omega|assumption)))
    all_goals(try(exfalso;first|exact hmm ⟨by assumption,by omega,h4⟩|contradiction))
    all_goals(exact hQ _ _ _ (by first|exact .inl rfl|exact .inr rfl) (V.bool false) rfl hend)
  · have hla:=adsV_length (l:=b.ads)
    have h4:b.ads.length≠0:=by rw [←adsV_length];exact fun q=>h2 (List.length_eq_zero_iff.1 q)
    rw [hla] at hend
    rw [hla]
    (have FX:=And.intro hll (And.intro hal (And.intro hx0 hla));repeat'(first|(refine sx ?_ ?_<;>intro h<;>first|(exfalso;omega)|skip)|(refine g_op ?_;refine g_call ?_;refine g_args ?_;(first|refine s_fn (hsp _) ?_)<;>try first|omega|assumption)|refine ny ?_|refine WA_block ?_|(refine uX13_30_6 ?_;refine⟨by kernel_rfl,?_⟩)|(refine uX13_30_10 ?_;refine⟨by kernel_rfl,?_⟩)|((first|refine grp_cons (fun _=>hsp _) ?_)<;>try first|omega|assumption)|(refine g_d ?_;refine d_args ?_;(first|refine d_fn (hsp _) ?_|refine d_fnQ (fun _=>hsp _) ?_)<;>try first|omega|assumption)|(refine g_d ?_;(first|refine d_fnY (hsp _) ?_)<;>try first|omega|assumption)))
    all_goals(try(exfalso;first|omega|contradiction))
    all_goals(exact hQ _ _ _ (by first|exact .inl rfl|exact .inr rfl) (V.bool false) rfl hend)
theorem gline_ms(A:Mem)(c1 c2 c3:Blk)(b:BnR)(M:Mem)(hI:lnI A c1 c2 c3 b M)(s nm p q r:Txt)(hc:cutP 32 s=[measureT,nm,p,q,r])(hs:s.length≤1000)(hb:b.ms.length≤1000)(h0:b.ads=[])(R:V→Option Mem→Prop)(hok:∀ x y z M',numsP 7 [p,q,r]=some [x,y,z]→lnI A c1 c2 c3 ⟨b.ms++[⟨nm,x,y,z⟩],b.ads⟩ M'→R (.bool true) (some M'))(hbad:∀ M',numsP 7 [p,q,r]=none→lnI A c1 c2 c3 b M'→R (.bool false) (some M')):CallA Tryz.prog 30 [.ptr A.length 0 0,.str s] M R:=by
  obtain⟨v1,v2,X,rfl,hv1,hv2⟩:=hI
  have hsp:=fun m=>xsplit_c s 32 (by omega) m
  have hcm:=fun p=>cutP_sub (c:=32) (s:=s) (p:=p)
  rw [hc] at hsp hcm
  have hnu:=fun m=>gnumbers_c [p,q,r] (by simp) (fun i hi=>by rcases i with _|_|_|i;exact Nat.le_trans (hcm p (by simp)) (by omega);exact Nat.le_trans (hcm q (by simp)) (by omega);exact Nat.le_trans (hcm r (by simp)) (by omega);(simp at hi;omega)) m
  clear hcm hc
  have hll:(xsV [measureT,nm,p,q,r]).length=5:=rfl
  have hal:(xsV [measureT,nm,p,q,r]).all (fun e=>e.length==1)=true:=by simp [xsV]
  have hx0:(xsV [measureT,nm,p,q,r])[0]?=some [.str [109,101,97,115,117,114,101]]:=rfl
  have hx1:(xsV [measureT,nm,p,q,r])[1]?=some [.str nm]:=rfl
  obtain⟨rfl, -⟩:v2= .nilsl∧True:=by
    rcases hv2 with ⟨h1,_⟩|⟨j2,_,h2,_⟩
    · exact⟨h1,trivial⟩
    · rw [h0] at h2;exact absurd rfl h2
  refine CallA_inD Tryz.func30 rfl Tryz.ntmps30 Tryz.results30 (by kernel_rfl) (by simp) fun Q hQ=>?_
  (have FX:=And.intro hll (And.intro hal (And.intro hx0 hx1));repeat'(first|(refine sx ?_ ?_<;>intro h<;>first|(exfalso;omega)|skip)|(refine g_op ?_;refine g_call ?_;refine g_args ?_;(first|refine s_fn (hsp _) ?_)<;>try first|omega|assumption)|refine ny ?_|refine WA_block ?_|(refine uX13_30_6 ?_;refine⟨by kernel_rfl,?_⟩)|(refine uX13_30_10 ?_;refine⟨by kernel_rfl,?_⟩)|((first|refine grp_cons (fun _=>hsp _) ?_)<;>try first|omega|assumption)|(refine g_d ?_;refine d_args ?_;(first|refine d_fn (hsp _) ?_|refine d_fnQ (fun _=>hsp _) ?_)<;>try first|omega|assumption)|(refine g_d ?_;(first|refine d_fnY (hsp _) ?_)<;>try first|omega|assumption)))
  all_goals(try(exfalso;omega))
  refine g_op ?_;refine g_call ?_;refine g_args ?_;refine s_fnA (hnu _) ?_
  rintro v mo ⟨rfl,rfl⟩
  simp only [Option.getD_none]
  cases hn:numsP 7 [p,q,r] with
  | none=>
    have hend:=hbad _ hn ⟨v1,.nilsl,X,rfl,hv1,hv2⟩
    simp only [nbV]
    (have FX:=And.intro hll (And.intro hal (And.intro hx0 hx1));repeat'(first|(refine sx ?_ ?_<;>intro h<;>first|(exfalso;omega)|skip)|(refine g_op ?_;refine g_call ?_;refine g_args ?_;(first|refine s_fn (hsp _) ?_)<;>try first|omega|assumption)|refine ny ?_|refine WA_block ?_|(refine uX13_30_6 ?_;refine⟨by kernel_rfl,?_⟩)|(refine uX13_30_10 ?_;refine⟨by kernel_rfl,?_⟩)|((first|refine grp_cons (fun _=>hsp _) ?_)<;>try first|omega|assumption)|(refine g_d ?_;refine d_args ?_;(first|refine d_fn (hsp _) ?_|refine d_fnQ (fun _=>hsp _) ?_)<;>try first|omega|assumption)|(refine g_d ?_;(first|refine d_fnY (hsp _) ?_)<;>try first|omega|assumption)))
    exact hQ _ _ _ (by first|exact .inl rfl|exact .inr rfl) (V.bool false) rfl hend
  | some l=>
    obtain⟨x,y,z,rfl⟩:∃ x y z,l=[x,y,z]:=by
      have:=numsP_len hn
      rcases l with _|⟨x,_|⟨y,_|⟨z,_|⟨u,l⟩⟩⟩⟩
      · simp at this
      · simp at this
      · simp at this
      · exact⟨x,y,z,rfl⟩
      · simp at this
    have hend:=fun M'=>hok x y z M' hn
    simp only [nbV]
    have hln:(nsV [x,y,z]).length=3:=rfl
    have hn0:(nsV [x,y,z])[0]?=some [.int .i64 x]:=rfl
    have hn1:(nsV [x,y,z])[1]?=some [.int .i64 y]:=rfl
    have hn2:(nsV [x,y,z])[2]?=some [.int .i64 z]:=rfl
    clear FX
    rcases hv1 with ⟨rfl,h1⟩|⟨j,rfl,h1,h3⟩
    · 
      (have FX:=And.intro hll (And.intro hal (And.intro hx0 (And.intro hx1 (And.intro hln (And.intro hn0 (And.intro hn1 hn2))))));repeat'(first|(refine sx ?_ ?_<;>intro h<;>first|(exfalso;omega)|skip)|(refine g_op ?_;refine g_call ?_;refine g_args ?_;(first|refine s_fn (hsp _) ?_)<;>try first|omega|assumption)|refine ny ?_|refine WA_block ?_|(refine uX13_30_6 ?_;refine⟨by kernel_rfl,?_⟩)|(refine uX13_30_10 ?_;refine⟨by kernel_rfl,?_⟩)|((first|refine grp_cons (fun _=>hsp _) ?_)<;>try first|omega|assumption)|(refine g_d ?_;refine d_args ?_;(first|refine d_fn (hsp _) ?_|refine d_fnQ (fun _=>hsp _) ?_)<;>try first|omega|assumption)|(refine g_d ?_;(first|refine d_fnY (hsp _) ?_)<;>try first|omega|assumption)))
      have e1:b.ms=[]:=List.map_eq_nil_iff.1 h1
      refine hQ _ _ _ (.inr rfl) (.bool true) rfl (hend _ ⟨_,.nilsl,X++[_,_],rfl,.inr ⟨X.length+1,?_,?_,?_⟩,slAt_ext hv2⟩)
      · rw [e1];rfl
      · simp [mssV]
      · rw [e1];simp [mssV,msV]
    · have hjl:=(List.getElem?_eq_some_iff.1 h3).1
      have hgj:∀ Y:Mem,(X++Y)[j]?=some (.cells .own 75 4 (mssV b.ms)):=fun Y=>by rw [List.getElem?_append_left hjl];exact h3
      have hsj:∀ (Y:Mem) (z:Blk),(X++Y).set j z=X.set j z++Y:=fun Y z=>List.set_append_left _ _ hjl
      have hlm:=mssV_length (l:=b.ms)
      have hlt:(mssV b.ms).take (mssV b.ms).length=mssV b.ms:=List.take_of_length_le (Nat.le_refl _)
      rw [hlm] at hlt
      rw [hlm,show X=X++[] from(List.append_nil _).symm]
      (have FX:=And.intro hll (And.intro hal (And.intro hx0 (And.intro hx1 (And.intro hln (And.intro hn0 (And.intro hn1 (And.intro hn2 (And.intro hgj (And.intro hsj (And.intro hlm (And.intro hlt hb)))))))))));repeat'(first|(refine sx ?_ ?_<;>intro h<;>first|(exfalso;omega)|skip)|(refine g_op ?_;refine g_call ?_;refine g_args ?_;(first|refine s_fn (hsp _) ?_)<;>try first|omega|assumption)|refine ny ?_|refine WA_block ?_|(refine uX13_30_6 ?_;refine⟨by kernel_rfl,?_⟩)|(refine uX13_30_10 ?_;refine⟨by kernel_rfl,?_⟩)|((first|refine grp_cons (fun _=>hsp _) ?_)<;>try first|omega|assumption)|(refine g_d ?_;refine d_args ?_;(first|refine d_fn (hsp _) ?_|refine d_fnQ (fun _=>hsp _) ?_)<;>try first|omega|assumption)|(refine g_d ?_;(first|refine d_fnY (hsp _) ?_)<;>try first|omega|assumption)))
      refine hQ _ _ _ (.inr rfl) (.bool true) rfl (hend _ ⟨_,.nilsl,X.set j .dead++[_,_],rfl,.inr ⟨X.length+1,?_,?_,?_⟩,slAt_ext (slAt_set hv2 h3 (by decide) _)⟩)
      · simp [mssV]
      · simp [mssV]
      · simp [mssV,msV]
theorem gline_ad(A:Mem)(c1 c2 c3:Blk)(b:BnR)(M:Mem)(hI:lnI A c1 c2 c3 b M)(s:Txt)(w:List Txt)(hc:cutP 32 s=adjustT::w)(hs:s.length≤1000)(hb:b.ads.length≤1000)(R:V→Option Mem→Prop)(hR:∀ M',lnI A c1 c2 c3 ⟨b.ms,b.ads++[(adjT w).1]⟩ M'→R (.bool (adjT w).2) (some M')):CallA Tryz.prog 30 [.ptr A.length 0 0,.str s] M R:=by
  obtain⟨v1,v2,X,rfl,hv1,hv2⟩:=hI
  have hsp:=fun m=>xsplit_c s 32 (by omega) m
  have hcm:=fun p=>cutP_sub (c:=32) (s:=s) (p:=p)
  have hcl:=cutP_len 32 s
  rw [hc] at hsp hcm hcl
  rw [List.length_cons] at hcl
  have had:=fun m=>gadj_all w (by omega) (fun x hx=>Nat.le_trans (hcm x (List.mem_cons_of_mem _ hx)) (by omega)) m
  clear hcm hc
  have hll:(xsV (adjustT::w)).length=w.length+1:=by rw [xsV_length];rfl
  have hal:(xsV (adjustT::w)).all (fun e=>e.length==1)=true:=by simp [xsV]
  have hx0:(xsV (adjustT::w))[0]?=some [.str [97,100,106,117,115,116]]:=rfl
  have hs1:List.take (((w.length+1:Nat):Int) - 1).toNat (List.drop 1 (xsV (adjustT::w)))=xsV w:=drp rfl (by rw [xsV_length];omega)
  refine CallA_inD Tryz.func30 rfl Tryz.ntmps30 Tryz.results30 (by kernel_rfl) (by simp) fun Q hQ=>?_
  generalize (adjT w).1=ad at *
  generalize (adjT w).2=ok at *
  have hne:¬ ([97,100,106,117,115,116]:Txt)=[109,101,97,115,117,114,101]:=by decide
  have hla:=adsV_length (l:=b.ads)
  rcases hv2 with ⟨rfl,h2⟩|⟨j,rfl,h2,h3⟩
  · (have FX:=And.intro hll (And.intro hal (And.intro hx0 hne));repeat'(first|(refine sx ?_ ?_<;>intro h<;>first|(exfalso;omega)|skip)|(refine g_op ?_;refine g_call ?_;refine g_args ?_;(first|refine s_fn (hsp _) ?_)<;>try first|omega|assumption)|refine ny ?_|refine WA_block ?_|(refine uX13_30_6 ?_;refine⟨by kernel_rfl,?_⟩)|(refine uX13_30_10 ?_;refine⟨by kernel_rfl,?_⟩)|((first|refine grp_cons (fun _=>hsp _) ?_)<;>try first|omega|assumption)|(refine g_d ?_;refine d_args ?_;(first|refine d_fn (hsp _) ?_|refine d_fnQ (fun _=>hsp _) ?_)<;>try first|omega|assumption)|(refine g_d ?_;(first|refine d_fnY (hsp _) ?_)<;>try first|omega|assumption)))
    all_goals(try contradiction)
    rw [hs1]
    refine g_op ?_;refine g_call ?_;refine g_args ?_;refine s_fnA (had _) ?_
    rintro v mo ⟨rfl,rfl⟩
    simp only [Option.getD_none,adV]
    (have FX:=And.intro hll (And.intro hal (And.intro hx0 hne));repeat'(first|(refine sx ?_ ?_<;>intro h<;>first|(exfalso;omega)|skip)|(refine g_op ?_;refine g_call ?_;refine g_args ?_;(first|refine s_fn (hsp _) ?_)<;>try first|omega|assumption)|refine ny ?_|refine WA_block ?_|(refine uX13_30_6 ?_;refine⟨by kernel_rfl,?_⟩)|(refine uX13_30_10 ?_;refine⟨by kernel_rfl,?_⟩)|((first|refine grp_cons (fun _=>hsp _) ?_)<;>try first|omega|assumption)|(refine g_d ?_;refine d_args ?_;(first|refine d_fn (hsp _) ?_|refine d_fnQ (fun _=>hsp _) ?_)<;>try first|omega|assumption)|(refine g_d ?_;(first|refine d_fnY (hsp _) ?_)<;>try first|omega|assumption)))
    have e1:b.ads=[]:=List.map_eq_nil_iff.1 h2
    refine hQ _ _ _ (.inr rfl) (.bool ok) rfl (hR _ ⟨_,_,X++[_,_,_],rfl,slAt_ext hv1,.inr ⟨X.length+2,?_,?_,?_⟩⟩)
    · rw [e1];rfl
    · simp [adsV]
    · rw [e1];simp [adsV,adV]
  · have hjl:=(List.getElem?_eq_some_iff.1 h3).1
    have hgj:∀ Y:Mem,(X++Y)[j]?=some (.cells .own 78 6 (adsV b.ads)):=fun Y=>by rw [List.getElem?_append_left hjl];exact h3
    have hsj:∀ (Y:Mem) (z:Blk),(X++Y).set j z=X.set j z++Y:=fun Y z=>List.set_append_left _ _ hjl
    have hlt:(adsV b.ads).take (adsV b.ads).length=adsV b.ads:=List.take_of_length_le (Nat.le_refl _)
    rw [hla] at hlt
    rw [hla,show X=X++[] from(List.append_nil _).symm]
    (have FX:=And.intro hll (And.intro hal (And.intro hx0 (And.intro hne (And.intro hgj (And.intro hsj (And.intro hla (And.intro hlt hb)))))));repeat'(first|(refine sx ?_ ?_<;>intro h<;>first|(exfalso;omega)|skip)|(refine g_op ?_;refine g_call ?_;refine g_args ?_;(first|refine s_fn (hsp _) ?_)<;>try first|omega|assumption)|refine ny ?_|refine WA_block ?_|(refine uX13_30_6 ?_;refine⟨by kernel_rfl,?_⟩)|(refine uX13_30_10 ?_;refine⟨by kernel_rfl,?_⟩)|((first|refine grp_cons (fun _=>hsp _) ?_)<;>try first|omega|assumption)|(refine g_d ?_;refine d_args ?_;(first|refine d_fn (hsp _) ?_|refine d_fnQ (fun _=>hsp _) ?_)<;>try first|omega|assumption)|(refine g_d ?_;(first|refine d_fnY (hsp _) ?_)<;>try first|omega|assumption)))
    all_goals(try contradiction)
    rw [hs1]
    refine g_op ?_;refine g_call ?_;refine g_args ?_;refine s_fnA (had _) ?_
    rintro v mo ⟨rfl,rfl⟩
    simp only [Option.getD_none,adV]
    (have FX:=And.intro hll (And.intro hal (And.intro hx0 (And.intro hne (And.intro hgj (And.intro hsj (And.intro hla (And.intro hlt hb)))))));repeat'(first|(refine sx ?_ ?_<;>intro h<;>first|(exfalso;omega)|skip)|(refine g_op ?_;refine g_call ?_;refine g_args ?_;(first|refine s_fn (hsp _) ?_)<;>try first|omega|assumption)|refine ny ?_|refine WA_block ?_|(refine uX13_30_6 ?_;refine⟨by kernel_rfl,?_⟩)|(refine uX13_30_10 ?_;refine⟨by kernel_rfl,?_⟩)|((first|refine grp_cons (fun _=>hsp _) ?_)<;>try first|omega|assumption)|(refine g_d ?_;refine d_args ?_;(first|refine d_fn (hsp _) ?_|refine d_fnQ (fun _=>hsp _) ?_)<;>try first|omega|assumption)|(refine g_d ?_;(first|refine d_fnY (hsp _) ?_)<;>try first|omega|assumption)))
    refine hQ _ _ _ (.inr rfl) (.bool ok) rfl (hR _ ⟨_,_,X.set j .dead++[_,_,_],rfl,slAt_ext (slAt_set hv1 h3 (by decide) _),.inr ⟨X.length+2,?_,?_,?_⟩⟩)
    · simp [adsV]
    · simp [adsV]
    · simp [adsV,adV]
/-- a line of a bench -/
theorem gline_c(A:Mem)(c1 c2 c3:Blk)(b:BnR)(M:Mem)(hI:lnI A c1 c2 c3 b M)(s:Txt)(hs:s.length≤1000)(hb:b.ms.length≤1000)(hb2:b.ads.length≤1000)(R:V→Option Mem→Prop)(hok:∀ b' M',lineP b s=some b'→lnI A c1 c2 c3 b' M'→R (.bool true) (some M'))(hbad:∀ b' M',lineP b s=none→lnI A c1 c2 c3 b' M'→R (.bool false) (some M')):CallA Tryz.prog 30 [.ptr A.length 0 0,.str s] M R:=by
  obtain⟨o,w,hc⟩:∃ o w,cutP 32 s=o::w:=by
    rcases h:cutP 32 s with _|⟨o,w⟩
    · exact absurd h (cutP_ne 32 s)
    · exact⟨o,w,rfl⟩
  have hl:lineP b s=if o=measureT∧w.length=4∧b.ads=[] then (numsP 7 (w.drop 1)).map fun n=>⟨b.ms++[⟨w.getD 0 [],n.getD 0 0,n.getD 1 0,n.getD 2 0⟩],b.ads⟩
    else if o=adjustT then (if (adjT w).2=true then some ⟨b.ms,b.ads++[(adjT w).1]⟩ else none) else none:=by
    unfold lineP
    rw [hc]
  rw [hl] at hok hbad
  by_cases hm:o=measureT∧w.length=4∧b.ads=[]
  · rw [if_pos hm] at hok hbad
    obtain⟨rfl,hw,h0⟩:=hm
    obtain⟨nm,p,q,r,rfl⟩:∃ nm p q r,w=[nm,p,q,r]:=by
      rcases w with _|⟨a,_|⟨b,_|⟨c,_|⟨d,_|⟨e,r⟩⟩⟩⟩⟩
      · simp at hw
      · simp at hw
      · simp at hw
      · simp at hw
      · exact⟨_,_,_,_,rfl⟩
      · simp at hw
    refine gline_ms A c1 c2 c3 b M hI s nm p q r hc hs hb h0 R (fun x y z M' hn hI'=>hok _ M' ?_ hI') fun M' hn hI'=>hbad b M' ?_ hI'
    · show(numsP 7 [p,q,r]).map _=_
      rw [hn];rfl
    · show(numsP 7 [p,q,r]).map _=_
      rw [hn];rfl
  · rw [if_neg hm] at hok hbad
    by_cases ha:o=adjustT
    · rw [if_pos ha] at hok hbad
      subst ha
      refine gline_ad A c1 c2 c3 b M hI s w hc hs hb2 R fun M' hI'=>?_
      cases hx:(adjT w).2 with
      |true=>exact hok _ M' (by rw [if_pos hx]) hI'
      |false=>exact hbad _ M' (by rw [hx];rfl) hI'
    · rw [if_neg ha] at hbad
      exact gline_no A c1 c2 c3 b M hI s o w hc hs ha hm R fun M' hI'=>hbad b M' rfl hI'
end Go.Proofs.YtookikhphobnlaaGreatDoor
