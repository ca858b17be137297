/- contracts: the program reads a line of an action -/
import Derived.Test.YtomkbpoicjabfaaGreatDoorU6
set_option linter.unusedSimpArgs false
set_option linter.unusedVariables false
namespace Go.Proofs.YtomkbpoicjabfaaGreatDoor
open Go.RowKit
attribute [local irreducible] WA WOs WDs WAn qThen qBlock tput
set_option maxHeartbeats 1000000
set_option maxRecDepth 20000
set_option linter.unusedSimpArgs false
set_option linter.unusedVariables false
set_option maxHeartbeats 4000000
/-- the memory of one who reads an action -/
def rdI(A:Mem)(c1 c2 c3:Blk)(a:ActR)(M:Mem):Prop:=∃ v1 v2 v3 X,M=A++(.cells .own 27 4 [[.int .i64 a.dip,v1,v2,v3]]::c1::c2::c3::X)∧acAt (A.length+4) X a v1 v2 v3
theorem xs_rest(o:Txt)(w:List Txt):List.take (((w.length+1:Nat):Int) - 1).toNat (List.drop 1 (xsV (o::w)))=xsV w:=by
  show List.take _ (xsV w)=_
  exact List.take_of_length_le (by rw [xsV_length];omega)
theorem bneF(m:Mem):(evB Tryz.prog m .neq 4 (.bool true) (.bool false)=some (True,.bool true,m))∧(evB Tryz.prog m .neq 4 (.bool false) (.bool true)=some (True,.bool true,m))∧(evB Tryz.prog m .neq 4 (.bool true) (.bool true)=some (True,.bool false,m))∧(evB Tryz.prog m .neq 4 (.bool false) (.bool false)=some (True,.bool false,m)):=by
  have hT:kdT Tryz.prog 4=5:=by kernel_rfl
  simp [evB,evEq,eqV,hT,resEq]
theorem uU7_24_2{N:Nat}{l:List Oper}{t:List (Nat×V)}{m:Mem}{Q:Exit→List (Nat×V)→Mem→Prop}(h:RgN Tryz.prog N l t m Q (fun i=>if i==2 then .q else .p) [.one 0,.one 1,.one 2,.one 3,.one 4,.one 5,.one 6]):WA Tryz.prog N (.region 2 l.toArray true) t m Q:=d_rgN h
theorem uU7_24_5{N:Nat}{l:List Oper}{t:List (Nat×V)}{m:Mem}{Q:Exit→List (Nat×V)→Mem→Prop}(h:RgN Tryz.prog N l t m Q (fun i=>if i==1 || i==6 || i==7 || i==11 || i==12 then .q else .p) [.one 0,.one 1,.one 2,.one 3,.one 4,.one 5,.one 6,.one 7,.one 8,.one 9,.one 10,.one 11,.one 12,.one 13,.one 14,.one 15,.one 16]):WA Tryz.prog N (.region 5 l.toArray true) t m Q:=d_rgN h
theorem uU7_24_7{N:Nat}{l:List Oper}{t:List (Nat×V)}{m:Mem}{Q:Exit→List (Nat×V)→Mem→Prop}(h:RgN Tryz.prog N l t m Q (fun i=>if i==7 || i==10 then .w else if i==6 then .a else if i==4 || i==5 then .q else .p) [.one 0,.one 1,.one 2,.one 3,.one 4,.one 5,.one 6,.one 7,.one 8,.one 9,.one 10]):WA Tryz.prog N (.region 7 l.toArray true) t m Q:=d_rgN h
theorem uU7_24_11{N:Nat}{l:List Oper}{t:List (Nat×V)}{m:Mem}{Q:Exit→List (Nat×V)→Mem→Prop}(h:RgN Tryz.prog N l t m Q (fun i=>if i==7 || i==10 then .w else if i==6 then .a else if i==4 || i==5 then .q else .p) [.one 0,.one 1,.one 2,.one 3,.one 4,.one 5,.one 6,.one 7,.one 8,.one 9,.one 10]):WA Tryz.prog N (.region 11 l.toArray true) t m Q:=d_rgN h
theorem uU7_24_18{N:Nat}{l:List Oper}{t:List (Nat×V)}{m:Mem}{Q:Exit→List (Nat×V)→Mem→Prop}(h:RgN Tryz.prog N l t m Q (fun i=>if i==13 || i==16 then .w else if i==12 then .a else if i==4 || i==7 || i==10 then .q else .p) [.one 0,.one 1,.one 2,.one 3,.one 4,.one 5,.one 6,.one 7,.one 8,.one 9,.one 10,.one 11,.one 12,.one 13,.one 14,.one 15,.one 16]):WA Tryz.prog N (.region 18 l.toArray true) t m Q:=d_rgN h
/-- out of order -/
theorem aread_mis(A:Mem)(c1 c2 c3:Blk)(a:ActR)(M:Mem)(hI:rdI A c1 c2 c3 a M)(s o:Txt)(w:List Txt)(number:Int)(hc:cutP 32 s=o::w)(hs:s.length≤1000)(hn:¬ (o=actionT↔number=1))(R:V→Option Mem→Prop)(hR:∀ M',rdI A c1 c2 c3 a M'→R (.bool false) (some M')):CallA Tryz.prog 24 [.ptr A.length 0 0,.str s,.int .i64 number] M R:=by
  obtain⟨v1,v2,v3,X,rfl,hv⟩:=hI
  have hsp:=fun m=>xsplit_c s 32 (by omega) m
  rw [hc] at hsp
  have hll:(xsV (o::w)).length=w.length+1:=by rw [xsV_length];rfl
  have hal:(xsV (o::w)).all (fun e=>e.length==1)=true:=by simp [xsV]
  have hx0:(xsV (o::w))[0]?=some [.str o]:=rfl
  have hbn:=bneF
  have hend:=hR _ ⟨v1,v2,v3,X,rfl,hv⟩
  unfold actionT at hn
  refine CallA_inD Tryz.func24 rfl Tryz.ntmps24 Tryz.results24 (by kernel_rfl) (by simp) fun Q hQ=>?_
  by_cases ho:o=[97,99,116,105,111,110]
  · have h1:¬ number=1:=fun q=>hn ⟨fun _=>q,fun _=>ho⟩
    clear hn hR
    subst ho
    (have FX:=And.intro hll (And.intro hal (And.intro hx0 hbn));repeat'(first|(refine sx ?_ ?_<;>intro h<;>first|(exfalso;omega)|skip)|(refine g_op ?_;refine g_call ?_;refine g_args ?_;(first|refine s_fn (hsp _) ?_)<;>try first|omega|assumption)|refine ny ?_|refine WA_block ?_|(refine uU7_24_2 ?_;refine⟨by kernel_rfl,?_⟩)|(refine uU7_24_5 ?_;refine⟨by kernel_rfl,?_⟩)|(refine uU7_24_7 ?_;refine⟨by kernel_rfl,?_⟩)|(refine uU7_24_11 ?_;refine⟨by kernel_rfl,?_⟩)|(refine uU7_24_18 ?_;refine⟨by kernel_rfl,?_⟩)|((first|refine grp_cons (fun _=>hsp _) ?_)<;>try first|omega|assumption)|(refine g_d ?_;refine d_args ?_;(first|refine d_fn (hsp _) ?_|refine d_fnQ (fun _=>hsp _) ?_)<;>try first|omega|assumption)|(refine g_d ?_;(first|refine d_fnY (hsp _) ?_)<;>try first|omega|assumption)))
    all_goals(try(exfalso;first|omega|contradiction))
    all_goals(exact hQ _ _ _ (by first|exact .inl rfl|exact .inr rfl) (V.bool false) rfl hend)
  · have h1:number=1:=Classical.byContradiction fun q=>hn ⟨fun h=>absurd h ho,fun h=>absurd h q⟩
    clear hn hR
    subst h1
    (have FX:=And.intro hll (And.intro hal (And.intro hx0 hbn));repeat'(first|(refine sx ?_ ?_<;>intro h<;>first|(exfalso;omega)|skip)|(refine g_op ?_;refine g_call ?_;refine g_args ?_;(first|refine s_fn (hsp _) ?_)<;>try first|omega|assumption)|refine ny ?_|refine WA_block ?_|(refine uU7_24_2 ?_;refine⟨by kernel_rfl,?_⟩)|(refine uU7_24_5 ?_;refine⟨by kernel_rfl,?_⟩)|(refine uU7_24_7 ?_;refine⟨by kernel_rfl,?_⟩)|(refine uU7_24_11 ?_;refine⟨by kernel_rfl,?_⟩)|(refine uU7_24_18 ?_;refine⟨by kernel_rfl,?_⟩)|((first|refine grp_cons (fun _=>hsp _) ?_)<;>try first|omega|assumption)|(refine g_d ?_;refine d_args ?_;(first|refine d_fn (hsp _) ?_|refine d_fnQ (fun _=>hsp _) ?_)<;>try first|omega|assumption)|(refine g_d ?_;(first|refine d_fnY (hsp _) ?_)<;>try first|omega|assumption)))
    all_goals(try(exfalso;first|omega|contradiction))
    all_goals(exact hQ _ _ _ (by first|exact .inl rfl|exact .inr rfl) (V.bool false) rfl hend)
/-- the dip -/
theorem aread_dip (A:Mem) (c1 c2 c3:Blk) (a:ActR) (M:Mem) (hI:rdI A c1 c2 c3 a M) (s:Txt) (w:List Txt) (hc:cutP 32 s=[97,99,116,105,111,110]::w) (hs:s.length≤1000) (R:V→Option Mem→Prop) (hok:∀ n M',numsP 7 w=some [n]→rdI A c1 c2 c3 ⟨n,a.parts,a.evs,a.leads⟩ M'→R (.bool true) (some M')) (hbad:∀ M',(numsP 7 w=none∨w.length≠1)→rdI A c1 c2 c3 a M'→R (.bool false) (some M')):CallA Tryz.prog 24 [.ptr A.length 0 0,.str s,.int .i64 1] M R:=by
  obtain⟨v1,v2,v3,X,rfl,hv⟩:=hI
  have hsp:=fun m=>xsplit_c s 32 (by omega) m
  have hcm:=fun p=>cutP_sub (c:=32) (s:=s) (p:=p)
  have hcl:=cutP_len 32 s
  rw [hc] at hsp hcm hcl
  rw [List.length_cons] at hcl
  have hwm:∀ x∈w,x.length≤100000:=fun x hx=>Nat.le_trans (hcm x (List.mem_cons_of_mem _ hx)) (by omega)
  have hnu:=fun m=>anumbers_c w (by omega) (fun i hi=>hwm _ (gdm hi)) m
  have hll:(xsV ([97,99,116,105,111,110]::w)).length=w.length+1:=by rw [xsV_length];rfl
  have hal:(xsV ([97,99,116,105,111,110]::w)).all (fun e=>e.length==1)=true:=by simp [xsV]
  have hx0:(xsV ([97,99,116,105,111,110]::w))[0]?=some [.str [97,99,116,105,111,110]]:=rfl
  have hbn:=bneF
  have n1:¬ ([97,99,116,105,111,110]:Txt)=[112,97,114,116]:=by decide
  have n2:¬ ([97,99,116,105,111,110]:Txt)=[101,118,101,110,116]:=by decide
  have n3:¬ ([97,99,116,105,111,110]:Txt)=[108,101,97,100]:=by decide
  clear hc hcm hwm
  refine CallA_inD Tryz.func24 rfl Tryz.ntmps24 Tryz.results24 (by kernel_rfl) (by simp) fun Q hQ=>?_
  (have FX:=And.intro hll (And.intro hal (And.intro hx0 (And.intro hbn (And.intro n1 (And.intro n2 n3)))));repeat'(first|(refine sx ?_ ?_<;>intro h<;>first|(exfalso;omega)|skip)|(refine g_op ?_;refine g_call ?_;refine g_args ?_;(first|refine s_fn (hsp _) ?_)<;>try first|omega|assumption)|refine ny ?_|refine WA_block ?_|(refine uU7_24_2 ?_;refine⟨by kernel_rfl,?_⟩)|(refine uU7_24_5 ?_;refine⟨by kernel_rfl,?_⟩)|(refine uU7_24_7 ?_;refine⟨by kernel_rfl,?_⟩)|(refine uU7_24_11 ?_;refine⟨by kernel_rfl,?_⟩)|(refine uU7_24_18 ?_;refine⟨by kernel_rfl,?_⟩)|((first|refine grp_cons (fun _=>hsp _) ?_)<;>try first|omega|assumption)|(refine g_d ?_;refine d_args ?_;(first|refine d_fn (hsp _) ?_|refine d_fnQ (fun _=>hsp _) ?_)<;>try first|omega|assumption)|(refine g_d ?_;(first|refine d_fnY (hsp _) ?_)<;>try first|omega|assumption)))
  all_goals(try(exfalso;first|omega|contradiction))
  rw [xs_rest]
  refine g_op ?_;refine g_call ?_;refine g_args ?_;refine s_fnA (hnu _) ?_
  rintro v mo ⟨rfl,rfl⟩
  simp only [Option.getD_none]
  cases hn:numsP 7 w with
  | none=>
    have hend:=hbad _ (.inl hn) ⟨v1,v2,v3,X,rfl,hv⟩
    simp only [nbV]
    (have FX:=And.intro hll (And.intro hal (And.intro hx0 (And.intro hbn (And.intro n1 (And.intro n2 n3)))));repeat'(first|(refine sx ?_ ?_<;>intro h<;>first|(exfalso;omega)|skip)|(refine g_op ?_;refine g_call ?_;refine g_args ?_;(first|refine s_fn (hsp _) ?_)<;>try first|omega|assumption)|refine ny ?_|refine WA_block ?_|(refine uU7_24_2 ?_;refine⟨by kernel_rfl,?_⟩)|(refine uU7_24_5 ?_;refine⟨by kernel_rfl,?_⟩)|(refine uU7_24_7 ?_;refine⟨by kernel_rfl,?_⟩)|(refine uU7_24_11 ?_;refine⟨by kernel_rfl,?_⟩)|(refine uU7_24_18 ?_;refine⟨by kernel_rfl,?_⟩)|((first|refine grp_cons (fun _=>hsp _) ?_)<;>try first|omega|assumption)|(refine g_d ?_;refine d_args ?_;(first|refine d_fn (hsp _) ?_|refine d_fnQ (fun _=>hsp _) ?_)<;>try first|omega|assumption)|(refine g_d ?_;(first|refine d_fnY (hsp _) ?_)<;>try first|omega|assumption)))
    all_goals(try(exfalso;first|omega|contradiction))
    all_goals(exact hQ _ _ _ (by first|exact .inl rfl|exact .inr rfl) (V.bool false) rfl hend)
  | some l=>
    have hlen:=numsP_len hn
    simp only [nbV]
    clear FX
    have hnl:=nsV_length (l:=l)
    by_cases h1:w.length=1
    · obtain⟨n,rfl⟩:∃ n,l=[n]:=by
        rcases l with _|⟨x,_|⟨y,l⟩⟩
        · simp at hlen;omega
        · exact⟨x,rfl⟩
        · simp at hlen;omega
      have hend:=fun M'=>hok n M' hn
      have hnl:(nsV [n]).length=1:=rfl
      have hn0:(nsV [n])[0]?=some [.int .i64 n]:=rfl
      have hna:(nsV [n]).all (fun e=>e.length==1)=true:=nsV_all rfl
      (have FX:=And.intro hll (And.intro hal (And.intro hx0 (And.intro hbn (And.intro n1 (And.intro n2 (And.intro n3 (And.intro hnl (And.intro hn0 hna))))))));repeat'(first|(refine sx ?_ ?_<;>intro h<;>first|(exfalso;omega)|skip)|(refine g_op ?_;refine g_call ?_;refine g_args ?_;(first|refine s_fn (hsp _) ?_)<;>try first|omega|assumption)|refine ny ?_|refine WA_block ?_|(refine uU7_24_2 ?_;refine⟨by kernel_rfl,?_⟩)|(refine uU7_24_5 ?_;refine⟨by kernel_rfl,?_⟩)|(refine uU7_24_7 ?_;refine⟨by kernel_rfl,?_⟩)|(refine uU7_24_11 ?_;refine⟨by kernel_rfl,?_⟩)|(refine uU7_24_18 ?_;refine⟨by kernel_rfl,?_⟩)|((first|refine grp_cons (fun _=>hsp _) ?_)<;>try first|omega|assumption)|(refine g_d ?_;refine d_args ?_;(first|refine d_fn (hsp _) ?_|refine d_fnQ (fun _=>hsp _) ?_)<;>try first|omega|assumption)|(refine g_d ?_;(first|refine d_fnY (hsp _) ?_)<;>try first|omega|assumption)))
      all_goals(try(exfalso;first|omega|contradiction))
      all_goals(exact hQ _ _ _ (by first|exact .inl rfl|exact .inr rfl) (V.bool true) rfl (hend _ ⟨v1,v2,v3,X,rfl,⟨hv.p,hv.e,hv.l⟩⟩))
    · have hend:=hbad _ (.inr h1) ⟨v1,v2,v3,X,rfl,hv⟩
      have hl1:¬ l.length=1:=by omega
      (have FX:=And.intro hll (And.intro hal (And.intro hx0 (And.intro hbn (And.intro n1 (And.intro n2 (And.intro n3 hnl))))));repeat'(first|(refine sx ?_ ?_<;>intro h<;>first|(exfalso;omega)|skip)|(refine g_op ?_;refine g_call ?_;refine g_args ?_;(first|refine s_fn (hsp _) ?_)<;>try first|omega|assumption)|refine ny ?_|refine WA_block ?_|(refine uU7_24_2 ?_;refine⟨by kernel_rfl,?_⟩)|(refine uU7_24_5 ?_;refine⟨by kernel_rfl,?_⟩)|(refine uU7_24_7 ?_;refine⟨by kernel_rfl,?_⟩)|(refine uU7_24_11 ?_;refine⟨by kernel_rfl,?_⟩)|(refine uU7_24_18 ?_;refine⟨by kernel_rfl,?_⟩)|((first|refine grp_cons (fun _=>hsp _) ?_)<;>try first|omega|assumption)|(refine g_d ?_;refine d_args ?_;(first|refine d_fn (hsp _) ?_|refine d_fnQ (fun _=>hsp _) ?_)<;>try first|omega|assumption)|(refine g_d ?_;(first|refine d_fnY (hsp _) ?_)<;>try first|omega|assumption)))
      all_goals(try(exfalso;first|omega|contradiction))
      all_goals(exact hQ _ _ _ (by first|exact .inl rfl|exact .inr rfl) (V.bool false) rfl hend)
/-- a part -/
theorem aread_pt(A:Mem)(c1 c2 c3:Blk)(a:ActR)(M:Mem)(hI:rdI A c1 c2 c3 a M)(s:Txt)(w:List Txt)(number:Int)(hn:¬ number=1)(hc:cutP 32 s=[112,97,114,116]::w)(hs:s.length≤1000)(hb:a.parts.length≤1000)(he0:a.evs=[])(hl0:a.leads=[])(R:V→Option Mem→Prop)(hok:∀ p M',partP w=some p→rdI A c1 c2 c3 ⟨a.dip,a.parts++[p],a.evs,a.leads⟩ M'→R (.bool true) (some M'))(hbad:∀ a' M',partP w=none→rdI A c1 c2 c3 a' M'→R (.bool false) (some M')):CallA Tryz.prog 24 [.ptr A.length 0 0,.str s,.int .i64 number] M R:=by
  obtain⟨v1,v2,v3,X,rfl,hv⟩:=hI
  have hsp:=fun m=>xsplit_c s 32 (by omega) m
  have hcm:=fun p=>cutP_sub (c:=32) (s:=s) (p:=p)
  have hcl:=cutP_len 32 s
  rw [hc] at hsp hcm hcl
  rw [List.length_cons] at hcl
  have hwm:∀ x∈w,x.length≤100000:=fun x hx=>Nat.le_trans (hcm x (List.mem_cons_of_mem _ hx)) (by omega)
  have hnu:=fun m=>anumbers_c w (by omega) (fun i hi=>hwm _ (gdm hi)) m
  have hll:(xsV ([112,97,114,116]::w)).length=w.length+1:=by rw [xsV_length];rfl
  have hal:(xsV ([112,97,114,116]::w)).all (fun e=>e.length==1)=true:=by simp [xsV]
  have hx0:(xsV ([112,97,114,116]::w))[0]?=some [.str [112,97,114,116]]:=rfl
  have hbn:=bneF
  have n1:¬ ([112,97,114,116]:Txt)=[97,99,116,105,111,110]:=by decide
  have hrp:=fun m=>areadpart_c w (by omega) hwm m
  clear hc hcm hwm hnu
  obtain⟨hv1,hv2,hv3⟩:=hv
  rw [he0] at hv2
  rw [hl0] at hv3
  obtain rfl:v2= .nilsl:=by
    rcases hv2 with ⟨h,_⟩|⟨j,_,h,_⟩
    · exact h
    · exact absurd rfl h
  obtain rfl:v3= .nilsl:=by
    rcases hv3 with ⟨h,_⟩|⟨j,_,h,_⟩
    · exact h
    · exact absurd rfl h
  refine CallA_inD Tryz.func24 rfl Tryz.ntmps24 Tryz.results24 (by kernel_rfl) (by simp) fun Q hQ=>?_
  (have FX:=And.intro hll (And.intro hal (And.intro hx0 (And.intro hbn (And.intro n1 hn))));repeat'(first|(refine sx ?_ ?_<;>intro h<;>first|(exfalso;omega)|skip)|(refine g_op ?_;refine g_call ?_;refine g_args ?_;(first|refine s_fn (hsp _) ?_)<;>try first|omega|assumption)|refine ny ?_|refine WA_block ?_|(refine uU7_24_2 ?_;refine⟨by kernel_rfl,?_⟩)|(refine uU7_24_5 ?_;refine⟨by kernel_rfl,?_⟩)|(refine uU7_24_7 ?_;refine⟨by kernel_rfl,?_⟩)|(refine uU7_24_11 ?_;refine⟨by kernel_rfl,?_⟩)|(refine uU7_24_18 ?_;refine⟨by kernel_rfl,?_⟩)|((first|refine grp_cons (fun _=>hsp _) ?_)<;>try first|omega|assumption)|(refine g_d ?_;refine d_args ?_;(first|refine d_fn (hsp _) ?_|refine d_fnQ (fun _=>hsp _) ?_)<;>try first|omega|assumption)|(refine g_d ?_;(first|refine d_fnY (hsp _) ?_)<;>try first|omega|assumption)))
  all_goals(try(exfalso;first|omega|contradiction))
  rw [xs_rest]
  refine g_op ?_;refine g_call ?_;refine g_args ?_;refine s_fnA (hrp _) ?_
  rintro v mo ⟨rfl,rfl⟩
  simp only [Option.getD_none]
  obtain⟨p,ok,hp,hR⟩:∃ p ok,rpV (partP w)= .tup [.agg (prtV p),.bool ok]∧∀ M',rdI A c1 c2 c3 ⟨a.dip,a.parts++[p],a.evs,a.leads⟩ M'→R (.bool ok) (some M'):=by
    cases hq:partP w with
    |none=>exact⟨p0,false,rfl,fun M' h=>hbad _ M' hq h⟩
    |some p=>exact⟨p,true,rfl,fun M' h=>hok p M' hq h⟩
  rw [hp]
  clear hp hrp hok hbad
  obtain⟨nm,dr,cor,wt,fr⟩:=p
  simp only [prtV]
  clear FX
  rcases hv1 with ⟨rfl,h2⟩|⟨j,rfl,h2,h3⟩
  · (have FX:=And.intro hll (And.intro hal (And.intro hx0 (And.intro hbn (And.intro n1 hn))));repeat'(first|(refine sx ?_ ?_<;>intro h<;>first|(exfalso;omega)|skip)|(refine g_op ?_;refine g_call ?_;refine g_args ?_;(first|refine s_fn (hsp _) ?_)<;>try first|omega|assumption)|refine ny ?_|refine WA_block ?_|(refine uU7_24_2 ?_;refine⟨by kernel_rfl,?_⟩)|(refine uU7_24_5 ?_;refine⟨by kernel_rfl,?_⟩)|(refine uU7_24_7 ?_;refine⟨by kernel_rfl,?_⟩)|(refine uU7_24_11 ?_;refine⟨by kernel_rfl,?_⟩)|(refine uU7_24_18 ?_;refine⟨by kernel_rfl,?_⟩)|((first|refine grp_cons (fun _=>hsp _) ?_)<;>try first|omega|assumption)|(refine g_d ?_;refine d_args ?_;(first|refine d_fn (hsp _) ?_|refine d_fnQ (fun _=>hsp _) ?_)<;>try first|omega|assumption)|(refine g_d ?_;(first|refine d_fnY (hsp _) ?_)<;>try first|omega|assumption)))
    have e1:a.parts=[]:=List.map_eq_nil_iff.1 h2
    refine hQ _ _ _ (.inr rfl) (.bool ok) rfl (hR _ ⟨_,_,_,X++[_,_,_],rfl,.inr ⟨X.length+2,?_,?_,?_⟩,.inl ⟨rfl,by rw [he0];rfl⟩,.inl ⟨rfl,by rw [hl0];rfl⟩⟩)
    · rw [e1];simp [prtsV];omega
    · simp [prtsV]
    · rw [e1];simp [prtsV,prtV]
  · have hjl:=(List.getElem?_eq_some_iff.1 h3).1
    have hgj:∀ Y:Mem,(X++Y)[j]?=some (.cells .own 71 5 (prtsV a.parts)):=fun Y=>by rw [List.getElem?_append_left hjl];exact h3
    have hsj:∀ (Y:Mem) (z:Blk),(X++Y).set j z=X.set j z++Y:=fun Y z=>List.set_append_left _ _ hjl
    have hlm:(prtsV a.parts).length=a.parts.length:=prtsV_length
    have hlt:(prtsV a.parts).take a.parts.length=(prtsV a.parts):=List.take_of_length_le (by rw [hlm];exact Nat.le_refl _)
    rw [hlm,show A.length+4+j=A.length+(j+4) by omega,show X=X++[] from(List.append_nil _).symm]
    (have FX:=And.intro hll (And.intro hal (And.intro hx0 (And.intro hbn (And.intro n1 (And.intro hn (And.intro hgj (And.intro hsj (And.intro hlm (And.intro hlt hb)))))))));repeat'(first|(refine sx ?_ ?_<;>intro h<;>first|(exfalso;omega)|skip)|(refine g_op ?_;refine g_call ?_;refine g_args ?_;(first|refine s_fn (hsp _) ?_)<;>try first|omega|assumption)|refine ny ?_|refine WA_block ?_|(refine uU7_24_2 ?_;refine⟨by kernel_rfl,?_⟩)|(refine uU7_24_5 ?_;refine⟨by kernel_rfl,?_⟩)|(refine uU7_24_7 ?_;refine⟨by kernel_rfl,?_⟩)|(refine uU7_24_11 ?_;refine⟨by kernel_rfl,?_⟩)|(refine uU7_24_18 ?_;refine⟨by kernel_rfl,?_⟩)|((first|refine grp_cons (fun _=>hsp _) ?_)<;>try first|omega|assumption)|(refine g_d ?_;refine d_args ?_;(first|refine d_fn (hsp _) ?_|refine d_fnQ (fun _=>hsp _) ?_)<;>try first|omega|assumption)|(refine g_d ?_;(first|refine d_fnY (hsp _) ?_)<;>try first|omega|assumption)))
    refine hQ _ _ _ (.inr rfl) (.bool ok) rfl (hR _ ⟨_,_,_,X.set j .dead++[_,_,_],rfl,.inr ⟨X.length+2,?_,?_,?_⟩,.inl ⟨rfl,by rw [he0];rfl⟩,.inl ⟨rfl,by rw [hl0];rfl⟩⟩)
    · simp [prtsV];omega
    · simp [prtsV]
    · simp [prtsV,prtV]
/-- an event -/
theorem aread_ev(A:Mem)(c1 c2 c3:Blk)(a:ActR)(M:Mem)(hI:rdI A c1 c2 c3 a M)(s:Txt)(w:List Txt)(number:Int)(hn:¬ number=1)(hc:cutP 32 s=[101,118,101,110,116]::w)(hs:s.length≤1000)(hb:a.evs.length≤1000)(hl0:a.leads=[])(R:V→Option Mem→Prop)(hok:∀ p M',evP w=some p→rdI A c1 c2 c3 ⟨a.dip,a.parts,a.evs++[p],a.leads⟩ M'→R (.bool true) (some M'))(hbad:∀ a' M',evP w=none→rdI A c1 c2 c3 a' M'→R (.bool false) (some M')):CallA Tryz.prog 24 [.ptr A.length 0 0,.str s,.int .i64 number] M R:=by
  obtain⟨v1,v2,v3,X,rfl,hv⟩:=hI
  have hsp:=fun m=>xsplit_c s 32 (by omega) m
  have hcm:=fun p=>cutP_sub (c:=32) (s:=s) (p:=p)
  have hcl:=cutP_len 32 s
  rw [hc] at hsp hcm hcl
  rw [List.length_cons] at hcl
  have hwm:∀ x∈w,x.length≤100000:=fun x hx=>Nat.le_trans (hcm x (List.mem_cons_of_mem _ hx)) (by omega)
  have hnu:=fun m=>anumbers_c w (by omega) (fun i hi=>hwm _ (gdm hi)) m
  have hll:(xsV ([101,118,101,110,116]::w)).length=w.length+1:=by rw [xsV_length];rfl
  have hal:(xsV ([101,118,101,110,116]::w)).all (fun e=>e.length==1)=true:=by simp [xsV]
  have hx0:(xsV ([101,118,101,110,116]::w))[0]?=some [.str [101,118,101,110,116]]:=rfl
  have hbn:=bneF
  have n1:¬ ([101,118,101,110,116]:Txt)=[97,99,116,105,111,110]:=by decide
  have n2:¬ ([101,118,101,110,116]:Txt)=[112,97,114,116]:=by decide
  have hrp:=fun m=>areadevent_c w (by omega) hwm m
  clear hc hcm hwm hnu
  obtain⟨hv1,hv2,hv3⟩:=hv
  rw [hl0] at hv3
  obtain rfl:v3= .nilsl:=by
    rcases hv3 with ⟨h,_⟩|⟨j,_,h,_⟩
    · exact h
    · exact absurd rfl h
  refine CallA_inD Tryz.func24 rfl Tryz.ntmps24 Tryz.results24 (by kernel_rfl) (by simp) fun Q hQ=>?_
  (have FX:=And.intro hll (And.intro hal (And.intro hx0 (And.intro hbn (And.intro n1 (And.intro n2 hn)))));repeat'(first|(refine sx ?_ ?_<;>intro h<;>first|(exfalso;omega)|skip)|(refine g_op ?_;refine g_call ?_;refine g_args ?_;(first|refine s_fn (hsp _) ?_)<;>try first|omega|assumption)|refine ny ?_|refine WA_block ?_|(refine uU7_24_2 ?_;refine⟨by kernel_rfl,?_⟩)|(refine uU7_24_5 ?_;refine⟨by kernel_rfl,?_⟩)|(refine uU7_24_7 ?_;refine⟨by kernel_rfl,?_⟩)|(refine uU7_24_11 ?_;refine⟨by kernel_rfl,?_⟩)|(refine uU7_24_18 ?_;refine⟨by kernel_rfl,?_⟩)|((first|refine grp_cons (fun _=>hsp _) ?_)<;>try first|omega|assumption)|(refine g_d ?_;refine d_args ?_;(first|refine d_fn (hsp _) ?_|refine d_fnQ (fun _=>hsp _) ?_)<;>try first|omega|assumption)|(refine g_d ?_;(first|refine d_fnY (hsp _) ?_)<;>try first|omega|assumption)))
  all_goals(try(exfalso;first|omega|contradiction))
  rw [xs_rest]
  refine g_op ?_;refine g_call ?_;refine g_args ?_;refine s_fnA (hrp _) ?_
  rintro v mo ⟨rfl,rfl⟩
  simp only [Option.getD_none]
  obtain⟨p,ok,hp,hR⟩:∃ p ok,reV (evP w)= .tup [.agg (evV p),.bool ok]∧∀ M',rdI A c1 c2 c3 ⟨a.dip,a.parts,a.evs++[p],a.leads⟩ M'→R (.bool ok) (some M'):=by
    cases hq:evP w with
    |none=>exact⟨e0,false,rfl,fun M' h=>hbad _ M' hq h⟩
    |some p=>exact⟨p,true,rfl,fun M' h=>hok p M' hq h⟩
  rw [hp]
  clear hp hrp hok hbad
  obtain⟨nm,pt,lv,fl⟩:=p
  simp only [evV]
  clear FX
  rcases hv2 with ⟨rfl,h2⟩|⟨j,rfl,h2,h3⟩
  · (have FX:=And.intro hll (And.intro hal (And.intro hx0 (And.intro hbn (And.intro n1 (And.intro n2 hn)))));repeat'(first|(refine sx ?_ ?_<;>intro h<;>first|(exfalso;omega)|skip)|(refine g_op ?_;refine g_call ?_;refine g_args ?_;(first|refine s_fn (hsp _) ?_)<;>try first|omega|assumption)|refine ny ?_|refine WA_block ?_|(refine uU7_24_2 ?_;refine⟨by kernel_rfl,?_⟩)|(refine uU7_24_5 ?_;refine⟨by kernel_rfl,?_⟩)|(refine uU7_24_7 ?_;refine⟨by kernel_rfl,?_⟩)|(refine uU7_24_11 ?_;refine⟨by kernel_rfl,?_⟩)|(refine uU7_24_18 ?_;refine⟨by kernel_rfl,?_⟩)|((first|refine grp_cons (fun _=>hsp _) ?_)<;>try first|omega|assumption)|(refine g_d ?_;refine d_args ?_;(first|refine d_fn (hsp _) ?_|refine d_fnQ (fun _=>hsp _) ?_)<;>try first|omega|assumption)|(refine g_d ?_;(first|refine d_fnY (hsp _) ?_)<;>try first|omega|assumption)))
    have e1:a.evs=[]:=List.map_eq_nil_iff.1 h2
    refine hQ _ _ _ (.inr rfl) (.bool ok) rfl (hR _ ⟨_,_,_,X++[_,_,_],rfl,slAt_ext hv1,.inr ⟨X.length+2,?_,?_,?_⟩,.inl ⟨rfl,by rw [hl0];rfl⟩⟩)
    · rw [e1];simp [evsV];omega
    · simp [evsV]
    · rw [e1];simp [evsV,evV]
  · have hjl:=(List.getElem?_eq_some_iff.1 h3).1
    have hgj:∀ Y:Mem,(X++Y)[j]?=some (.cells .own 74 4 (evsV a.evs)):=fun Y=>by rw [List.getElem?_append_left hjl];exact h3
    have hsj:∀ (Y:Mem) (z:Blk),(X++Y).set j z=X.set j z++Y:=fun Y z=>List.set_append_left _ _ hjl
    have hlm:(evsV a.evs).length=a.evs.length:=evsV_length
    have hlt:(evsV a.evs).take a.evs.length=(evsV a.evs):=List.take_of_length_le (by rw [hlm];exact Nat.le_refl _)
    rw [hlm,show A.length+4+j=A.length+(j+4) by omega,show X=X++[] from(List.append_nil _).symm]
    (have FX:=And.intro hll (And.intro hal (And.intro hx0 (And.intro hbn (And.intro n1 (And.intro n2 (And.intro hn (And.intro hgj (And.intro hsj (And.intro hlm (And.intro hlt hb))))))))));repeat'(first|(refine sx ?_ ?_<;>intro h<;>first|(exfalso;omega)|skip)|(refine g_op ?_;refine g_call ?_;refine g_args ?_;(first|refine s_fn (hsp _) ?_)<;>try first|omega|assumption)|refine ny ?_|refine WA_block ?_|(refine uU7_24_2 ?_;refine⟨by kernel_rfl,?_⟩)|(refine uU7_24_5 ?_;refine⟨by kernel_rfl,?_⟩)|(refine uU7_24_7 ?_;refine⟨by kernel_rfl,?_⟩)|(refine uU7_24_11 ?_;refine⟨by kernel_rfl,?_⟩)|(refine uU7_24_18 ?_;refine⟨by kernel_rfl,?_⟩)|((first|refine grp_cons (fun _=>hsp _) ?_)<;>try first|omega|assumption)|(refine g_d ?_;refine d_args ?_;(first|refine d_fn (hsp _) ?_|refine d_fnQ (fun _=>hsp _) ?_)<;>try first|omega|assumption)|(refine g_d ?_;(first|refine d_fnY (hsp _) ?_)<;>try first|omega|assumption)))
    refine hQ _ _ _ (.inr rfl) (.bool ok) rfl (hR _ ⟨_,_,_,X.set j .dead++[_,_,_],rfl,slAt_ext (slAt_set hv1 h3 (by decide) _),.inr ⟨X.length+2,?_,?_,?_⟩,.inl ⟨rfl,by rw [hl0];rfl⟩⟩)
    · simp [evsV];omega
    · simp [evsV]
    · simp [evsV,evV]
/-- a lead -/
theorem aread_ld (A:Mem) (c1 c2 c3:Blk) (a:ActR) (M:Mem) (hI:rdI A c1 c2 c3 a M) (s:Txt) (w:List Txt) (number:Int) (hn:¬ number=1) (hc:cutP 32 s=[108,101,97,100]::w) (hs:s.length≤1000) (hb:a.leads.length≤1000) (R:V→Option Mem→Prop) (hok:∀ x y M',numsP 7 w=some [x,y]→rdI A c1 c2 c3 ⟨a.dip,a.parts,a.evs,a.leads++[(x,y)]⟩ M'→R (.bool true) (some M')) (hbad:∀ a' M',(numsP 7 w=none∨w.length≠2)→rdI A c1 c2 c3 a' M'→R (.bool false) (some M')):CallA Tryz.prog 24 [.ptr A.length 0 0,.str s,.int .i64 number] M R:=by
  obtain⟨v1,v2,v3,X,rfl,hv⟩:=hI
  have hsp:=fun m=>xsplit_c s 32 (by omega) m
  have hcm:=fun p=>cutP_sub (c:=32) (s:=s) (p:=p)
  have hcl:=cutP_len 32 s
  rw [hc] at hsp hcm hcl
  rw [List.length_cons] at hcl
  have hwm:∀ x∈w,x.length≤100000:=fun x hx=>Nat.le_trans (hcm x (List.mem_cons_of_mem _ hx)) (by omega)
  have hnu:=fun m=>anumbers_c w (by omega) (fun i hi=>hwm _ (gdm hi)) m
  have hll:(xsV ([108,101,97,100]::w)).length=w.length+1:=by rw [xsV_length];rfl
  have hal:(xsV ([108,101,97,100]::w)).all (fun e=>e.length==1)=true:=by simp [xsV]
  have hx0:(xsV ([108,101,97,100]::w))[0]?=some [.str [108,101,97,100]]:=rfl
  have hbn:=bneF
  have n1:¬ ([108,101,97,100]:Txt)=[97,99,116,105,111,110]:=by decide
  have n2:¬ ([108,101,97,100]:Txt)=[112,97,114,116]:=by decide
  have n3:¬ ([108,101,97,100]:Txt)=[101,118,101,110,116]:=by decide
  clear hc hcm hwm
  refine CallA_inD Tryz.func24 rfl Tryz.ntmps24 Tryz.results24 (by kernel_rfl) (by simp) fun Q hQ=>?_
  (have FX:=And.intro hll (And.intro hal (And.intro hx0 (And.intro hbn (And.intro n1 (And.intro n2 (And.intro n3 hn))))));repeat'(first|(refine sx ?_ ?_<;>intro h<;>first|(exfalso;omega)|skip)|(refine g_op ?_;refine g_call ?_;refine g_args ?_;(first|refine s_fn (hsp _) ?_)<;>try first|omega|assumption)|refine ny ?_|refine WA_block ?_|(refine uU7_24_2 ?_;refine⟨by kernel_rfl,?_⟩)|(refine uU7_24_5 ?_;refine⟨by kernel_rfl,?_⟩)|(refine uU7_24_7 ?_;refine⟨by kernel_rfl,?_⟩)|(refine uU7_24_11 ?_;refine⟨by kernel_rfl,?_⟩)|(refine uU7_24_18 ?_;refine⟨by kernel_rfl,?_⟩)|((first|refine grp_cons (fun _=>hsp _) ?_)<;>try first|omega|assumption)|(refine g_d ?_;refine d_args ?_;(first|refine d_fn (hsp _) ?_|refine d_fnQ (fun _=>hsp _) ?_)<;>try first|omega|assumption)|(refine g_d ?_;(first|refine d_fnY (hsp _) ?_)<;>try first|omega|assumption)))
  all_goals(try(exfalso;first|omega|contradiction))
  rw [xs_rest]
  refine g_op ?_;refine g_call ?_;refine g_args ?_;refine s_fnA (hnu _) ?_
  rintro v mo ⟨rfl,rfl⟩
  simp only [Option.getD_none]
  cases hq:numsP 7 w with
  | none=>
    have hend:=hbad _ _ (.inl hq) ⟨v1,v2,v3,X,rfl,hv⟩
    simp only [nbV]
    (have FX:=And.intro hll (And.intro hal (And.intro hx0 (And.intro hbn (And.intro n1 (And.intro n2 (And.intro n3 hn))))));repeat'(first|(refine sx ?_ ?_<;>intro h<;>first|(exfalso;omega)|skip)|(refine g_op ?_;refine g_call ?_;refine g_args ?_;(first|refine s_fn (hsp _) ?_)<;>try first|omega|assumption)|refine ny ?_|refine WA_block ?_|(refine uU7_24_2 ?_;refine⟨by kernel_rfl,?_⟩)|(refine uU7_24_5 ?_;refine⟨by kernel_rfl,?_⟩)|(refine uU7_24_7 ?_;refine⟨by kernel_rfl,?_⟩)|(refine uU7_24_11 ?_;refine⟨by kernel_rfl,?_⟩)|(refine uU7_24_18 ?_;refine⟨by kernel_rfl,?_⟩)|((first|refine grp_cons (fun _=>hsp _) ?_)<;>try first|omega|assumption)|(refine g_d ?_;refine d_args ?_;(first|refine d_fn (hsp _) ?_|refine d_fnQ (fun _=>hsp _) ?_)<;>try first|omega|assumption)|(refine g_d ?_;(first|refine d_fnY (hsp _) ?_)<;>try first|omega|assumption)))
    all_goals(try(exfalso;first|omega|contradiction))
    all_goals(exact hQ _ _ _ (by first|exact .inl rfl|exact .inr rfl) (V.bool false) rfl hend)
  | some l=>
    have hlen:=numsP_len hq
    simp only [nbV]
    clear FX
    have hnl:=nsV_length (l:=l)
    by_cases h1:w.length=2
    · obtain⟨x,y,rfl⟩:∃ x y,l=[x,y]:=by
        rcases l with _|⟨x,_|⟨y,_|⟨z,l⟩⟩⟩
        · simp at hlen;omega
        · simp at hlen;omega
        · exact⟨x,y,rfl⟩
        · simp at hlen;omega
      have hR:=fun M'=>hok x y M' hq
      have hnl:(nsV [x,y]).length=2:=rfl
      have hn0:(nsV [x,y])[0]?=some [.int .i64 x]:=rfl
      have hn2:(nsV [x,y])[1]?=some [.int .i64 y]:=rfl
      have hna:(nsV [x,y]).all (fun e=>e.length==1)=true:=nsV_all rfl
      obtain⟨hv1,hv2,hv3⟩:=hv
      rcases hv3 with ⟨rfl,h2⟩|⟨j,rfl,h2,h3⟩
      · 
        (have FX:=And.intro hll (And.intro hal (And.intro hx0 (And.intro hbn (And.intro n1 (And.intro n2 (And.intro n3 (And.intro hn (And.intro hnl (And.intro hn0 (And.intro hn2 hna))))))))));repeat'(first|(refine sx ?_ ?_<;>intro h<;>first|(exfalso;omega)|skip)|(refine g_op ?_;refine g_call ?_;refine g_args ?_;(first|refine s_fn (hsp _) ?_)<;>try first|omega|assumption)|refine ny ?_|refine WA_block ?_|(refine uU7_24_2 ?_;refine⟨by kernel_rfl,?_⟩)|(refine uU7_24_5 ?_;refine⟨by kernel_rfl,?_⟩)|(refine uU7_24_7 ?_;refine⟨by kernel_rfl,?_⟩)|(refine uU7_24_11 ?_;refine⟨by kernel_rfl,?_⟩)|(refine uU7_24_18 ?_;refine⟨by kernel_rfl,?_⟩)|((first|refine grp_cons (fun _=>hsp _) ?_)<;>try first|omega|assumption)|(refine g_d ?_;refine d_args ?_;(first|refine d_fn (hsp _) ?_|refine d_fnQ (fun _=>hsp _) ?_)<;>try first|omega|assumption)|(refine g_d ?_;(first|refine d_fnY (hsp _) ?_)<;>try first|omega|assumption)))
        all_goals(try(exfalso;first|omega|contradiction))
        have e1:a.leads=[]:=List.map_eq_nil_iff.1 h2
        refine hQ _ _ _ (.inr rfl) (.bool true) rfl (hR _ ⟨_,_,_,X++[_,_],rfl,slAt_ext hv1,slAt_ext hv2,.inr ⟨X.length+1,?_,?_,?_⟩⟩)
        · rw [e1];simp [ldsV];omega
        · simp [ldsV]
        · rw [e1];simp [ldsV,ldV]
      · have hjl:=(List.getElem?_eq_some_iff.1 h3).1
        have hgj:∀ Y:Mem,(X++Y)[j]?=some (.cells .own 76 2 (ldsV a.leads)):=fun Y=>by rw [List.getElem?_append_left hjl];exact h3
        have hsj:∀ (Y:Mem) (z:Blk),(X++Y).set j z=X.set j z++Y:=fun Y z=>List.set_append_left _ _ hjl
        have hlm:(ldsV a.leads).length=a.leads.length:=ldsV_length
        have hlt:(ldsV a.leads).take a.leads.length=(ldsV a.leads):=List.take_of_length_le (by rw [hlm];exact Nat.le_refl _)
        rw [hlm,show A.length+4+j=A.length+(j+4) by omega,show X=X++[] from(List.append_nil _).symm]
        (have FX:=And.intro hll (And.intro hal (And.intro hx0 (And.intro hbn (And.intro n1 (And.intro n2 (And.intro n3 (And.intro hn (And.intro hnl (And.intro hn0 (And.intro hn2 (And.intro hna (And.intro hgj (And.intro hsj (And.intro hlm (And.intro hlt hb)))))))))))))));repeat'(first|(refine sx ?_ ?_<;>intro h<;>first|(exfalso;omega)|skip)|(refine g_op ?_;refine g_call ?_;refine g_args ?_;(first|refine s_fn (hsp _) ?_)<;>try first|omega|assumption)|refine ny ?_|refine WA_block ?_|(refine uU7_24_2 ?_;refine⟨by kernel_rfl,?_⟩)|(refine uU7_24_5 ?_;refine⟨by kernel_rfl,?_⟩)|(refine uU7_24_7 ?_;refine⟨by kernel_rfl,?_⟩)|(refine uU7_24_11 ?_;refine⟨by kernel_rfl,?_⟩)|(refine uU7_24_18 ?_;refine⟨by kernel_rfl,?_⟩)|((first|refine grp_cons (fun _=>hsp _) ?_)<;>try first|omega|assumption)|(refine g_d ?_;refine d_args ?_;(first|refine d_fn (hsp _) ?_|refine d_fnQ (fun _=>hsp _) ?_)<;>try first|omega|assumption)|(refine g_d ?_;(first|refine d_fnY (hsp _) ?_)<;>try first|omega|assumption)))
        all_goals(try(exfalso;first|omega|contradiction))
        refine hQ _ _ _ (.inr rfl) (.bool true) rfl (hR _ ⟨_,_,_,X.set j .dead++[_,_],rfl,slAt_ext (slAt_set hv1 h3 (by decide) _),slAt_ext (slAt_set hv2 h3 (by decide) _),.inr ⟨X.length+1,?_,?_,?_⟩⟩)
        · simp [ldsV];omega
        · simp [ldsV]
        · simp [ldsV,ldV]
    · have hend:=hbad _ _ (.inr h1) ⟨v1,v2,v3,X,rfl,hv⟩
      have hl1:¬ l.length=2:=by omega
      (have FX:=And.intro hll (And.intro hal (And.intro hx0 (And.intro hbn (And.intro n1 (And.intro n2 (And.intro n3 (And.intro hn hnl)))))));repeat'(first|(refine sx ?_ ?_<;>intro h<;>first|(exfalso;omega)|skip)|(refine g_op ?_;refine g_call ?_;refine g_args ?_;(first|refine s_fn (hsp _) ?_)<;>try first|omega|assumption)|refine ny ?_|refine WA_block ?_|(refine uU7_24_2 ?_;refine⟨by kernel_rfl,?_⟩)|(refine uU7_24_5 ?_;refine⟨by kernel_rfl,?_⟩)|(refine uU7_24_7 ?_;refine⟨by kernel_rfl,?_⟩)|(refine uU7_24_11 ?_;refine⟨by kernel_rfl,?_⟩)|(refine uU7_24_18 ?_;refine⟨by kernel_rfl,?_⟩)|((first|refine grp_cons (fun _=>hsp _) ?_)<;>try first|omega|assumption)|(refine g_d ?_;refine d_args ?_;(first|refine d_fn (hsp _) ?_|refine d_fnQ (fun _=>hsp _) ?_)<;>try first|omega|assumption)|(refine g_d ?_;(first|refine d_fnY (hsp _) ?_)<;>try first|omega|assumption)))
      all_goals(try(exfalso;first|omega|contradiction))
      all_goals(exact hQ _ _ _ (by first|exact .inl rfl|exact .inr rfl) (V.bool false) rfl hend)
end Go.Proofs.YtomkbpoicjabfaaGreatDoor
