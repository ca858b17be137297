/- contracts: the reference reads a line of an action: the dip, leads, what is no line -/
import Derived.Test.YtomkbpoicjabfaaGreatDoorGAK
set_option linter.unusedSimpArgs false
set_option linter.unusedVariables false
namespace Go.Proofs.YtomkbpoicjabfaaGreatDoor
open Go.RowKit
attribute [local irreducible] WA WOs WDs WAn qThen qBlock tput
set_option maxHeartbeats 1000000
set_option maxRecDepth 20000
set_option linter.unusedSimpArgs false
set_option linter.unusedVariables false
set_option maxHeartbeats 4000000
/-- the memory of the reference's reader -/
def rlI(A:Mem)(rk:Int)(a:ActR)(M:Mem):Prop:=∃ v1 v2 v3 X,M=A++(.cells .own 69 5 [[.int .i64 a.dip,v1,v2,v3,.int .i64 rk]]::X)∧acAt (A.length+1) X a v1 v2 v3
theorem rgoes_k(A Z:Mem)(d v1 v2 v3:V)(rk rank:Int):CallA Tryz.prog 62 [.ptr A.length 0 0,.int .i64 rank] (A++(.cells .own 69 5 [[d,v1,v2,v3,.int .i64 rk]]::Z)) (fun v mo=>((rk≤rank∧(rank=0↔rk=0))∧v= .bool true∧mo=some (A++(.cells .own 69 5 [[d,v1,v2,v3,.int .i64 (if rank<1 then 1 else rank)]]::Z)))∨(¬ (rk≤rank∧(rank=0↔rk=0))∧v= .bool false∧mo=some (A++(.cells .own 69 5 [[d,v1,v2,v3,.int .i64 rk]]::Z)))):=
  rgoes_c A Z d v1 v2 v3 rk rank A.length rfl _ (fun h1 h2=> .inl ⟨⟨h1,h2⟩,rfl,rfl⟩) fun h=> .inr ⟨h,rfl,rfl⟩
theorem xs_r1(o:Txt)(w:List Txt):List.take (((w.length+1:Nat):Int) - 1).toNat (List.drop 1 (xsV (o::w)))=xsV w:=by
  show List.take _ (xsV w)=_
  exact List.take_of_length_le (by rw [xsV_length];omega)
theorem xs_r3(o p q:Txt)(w:List Txt):List.take (((w.length+3:Nat):Int) - 3).toNat (List.drop 3 (xsV (o::p::q::w)))=xsV w:=by
  show List.take _ (xsV w)=_
  exact List.take_of_length_le (by rw [xsV_length];omega)
theorem uU10_26_15{N:Nat}{l:List Oper}{t:List (Nat×V)}{m:Mem}{Q:Exit→List (Nat×V)→Mem→Prop}(h:RgN Tryz.prog N l t m Q (fun i=>if i==14 then .f else if i==13 then .a else if i==2 || i==5 || i==8 || i==11 then .q else .p) [.one 0,.one 1,.one 2,.one 3,.one 4,.one 5,.one 6,.one 7,.one 8,.one 9,.one 10,.one 11,.one 12,.one 13,.one 14]):WA Tryz.prog N (.region 15 l.toArray true) t m Q:=d_rgN h
theorem uU10_26_23{N:Nat}{l:List Oper}{t:List (Nat×V)}{m:Mem}{Q:Exit→List (Nat×V)→Mem→Prop}(h:RgN Tryz.prog N l t m Q (fun i=>if i==16 || i==19 then .w else if i==15 then .a else if i==2 || i==6 || i==7 || i==12 || i==13 then .q else .p) [.one 0,.one 1,.one 2,.one 3,.one 4,.one 5,.one 6,.one 7,.one 8,.one 9,.one 10,.one 11,.one 12,.one 13,.one 14,.one 15,.one 16,.one 17,.one 18,.one 19]):WA Tryz.prog N (.region 23 l.toArray true) t m Q:=d_rgN h
theorem uU10_26_24{N:Nat}{l:List Oper}{t:List (Nat×V)}{m:Mem}{Q:Exit→List (Nat×V)→Mem→Prop}(h:RgN Tryz.prog N l t m Q (fun i=>if i==8 || i==12 then .w else if i==7 then .a else if i==5 || i==6 then .q else .p) [.one 0,.one 1,.one 2,.one 3,.one 4,.one 5,.one 6,.one 7,.one 8,.one 9,.one 10,.one 11,.one 12]):WA Tryz.prog N (.region 24 l.toArray true) t m Q:=d_rgN h
theorem uU10_26_32{N:Nat}{l:List Oper}{t:List (Nat×V)}{m:Mem}{Q:Exit→List (Nat×V)→Mem→Prop}(h:RgN Tryz.prog N l t m Q (fun i=>if i==21 || i==25 then .w else if i==20 then .a else if i==5 || i==8 || i==11 || i==14 || i==17 || i==18 then .q else .p) [.one 0,.one 1,.one 2,.one 3,.one 4,.one 5,.one 6,.one 7,.one 8,.one 9,.one 10,.one 11,.one 12,.one 13,.one 14,.one 15,.one 16,.one 17,.one 18,.one 19,.one 20,.one 21,.one 22,.one 23,.one 24,.one 25]):WA Tryz.prog N (.region 32 l.toArray true) t m Q:=d_rgN h
theorem uU10_26_38{N:Nat}{l:List Oper}{t:List (Nat×V)}{m:Mem}{Q:Exit→List (Nat×V)→Mem→Prop}(h:RgN Tryz.prog N l t m Q (fun i=>if i==14 || i==18 then .w else if i==13 then .a else if i==5 || i==8 || i==11 then .q else .p) [.one 0,.one 1,.one 2,.one 3,.one 4,.one 5,.one 6,.one 7,.one 8,.one 9,.one 10,.one 11,.one 12,.one 13,.one 14,.one 15,.one 16,.one 17,.one 18]):WA Tryz.prog N (.region 38 l.toArray true) t m Q:=d_rgN h
theorem rline_act (A:Mem) (rk:Int) (a:ActR) (M:Mem) (hI:rlI A rk a M) (s:Txt) (w:List Txt) (hc:cutP 32 s=[97,99,116,105,111,110]::w) (hs:s.length≤1000) (R:V→Option Mem→Prop) (hok:∀ n M',numsP 7 w=some [n]→rk=0→rlI A 1 ⟨n,a.parts,a.evs,a.leads⟩ M'→R (.bool true) (some M')) (hbad:∀ Z,(numsP 7 w=none∨w.length≠1∨rk≠0)→R (.bool false) (some (A++Z))) (hr0:0≤rk):CallA Tryz.prog 26 [.ptr A.length 0 0,.str s] M R:=by
  obtain⟨v1,v2,v3,X,rfl,hv⟩:=hI
  have hsp:=fun m=>bcut_c s 32 (by omega) m
  have hcm:=fun p=>cutP_sub (c:=32) (s:=s) (p:=p)
  have hcl:=cutP_len 32 s
  rw [hc] at hsp hcm hcl
  rw [List.length_cons] at hcl
  have hwm:∀ x∈w,x.length≤100000:=fun x hx=>Nat.le_trans (hcm x (List.mem_cons_of_mem _ hx)) (by omega)
  have hnu:=fun m=>rints_c w (by omega) (fun i hi=>hwm _ (gdm hi)) m
  have hll:(xsV ([97,99,116,105,111,110]::w)).length=w.length+1:=by rw [xsV_length];rfl
  have hal:(xsV ([97,99,116,105,111,110]::w)).all (fun e=>e.length==1)=true:=by simp [xsV]
  have hx0:(xsV ([97,99,116,105,111,110]::w))[0]?=some [.str [97,99,116,105,111,110]]:=rfl
  have hwl:w.length≤1000:=by omega
  clear hc hcm hwm
  refine CallA_inD Tryz.func26 rfl Tryz.ntmps26 Tryz.results26 (by kernel_rfl) (by simp) fun Q hQ=>?_
  (have FX:=And.intro hll (And.intro hal (And.intro hx0 hwl));repeat'(first|(refine sx ?_ ?_<;>intro h<;>first|(exfalso;omega)|skip)|(refine g_op ?_;refine g_call ?_;refine g_args ?_;(first|refine s_fn (hsp _) ?_)<;>try first|omega|assumption)|refine ny ?_|refine WA_block ?_|(refine uU10_26_15 ?_;refine⟨by kernel_rfl,?_⟩)|(refine uU10_26_23 ?_;refine⟨by kernel_rfl,?_⟩)|(refine uU10_26_24 ?_;refine⟨by kernel_rfl,?_⟩)|(refine uU10_26_32 ?_;refine⟨by kernel_rfl,?_⟩)|(refine uU10_26_38 ?_;refine⟨by kernel_rfl,?_⟩)|((first|refine grp_cons (fun _=>hsp _) ?_)<;>try first|omega|assumption)|(refine g_d ?_;refine d_args ?_;(first|refine d_fn (hsp _) ?_|refine d_fnQ (fun _=>hsp _) ?_)<;>try first|omega|assumption)|(refine g_d ?_;(first|refine d_fnY (hsp _) ?_)<;>try first|omega|assumption)))
  all_goals(try(exfalso;first|omega|contradiction))
  rw [xs_r1]
  refine g_op ?_;refine g_call ?_;refine g_args ?_;refine s_fnA (hnu _) ?_
  rintro v mo ⟨rfl,rfl⟩
  simp only [Option.getD_none]
  cases hq:numsP 7 w with
  | none=>
    simp only [nbV]
    (have FX:=And.intro hll (And.intro hal (And.intro hx0 hwl));repeat'(first|(refine sx ?_ ?_<;>intro h<;>first|(exfalso;omega)|skip)|(refine g_op ?_;refine g_call ?_;refine g_args ?_;(first|refine s_fn (hsp _) ?_)<;>try first|omega|assumption)|refine ny ?_|refine WA_block ?_|(refine uU10_26_15 ?_;refine⟨by kernel_rfl,?_⟩)|(refine uU10_26_23 ?_;refine⟨by kernel_rfl,?_⟩)|(refine uU10_26_24 ?_;refine⟨by kernel_rfl,?_⟩)|(refine uU10_26_32 ?_;refine⟨by kernel_rfl,?_⟩)|(refine uU10_26_38 ?_;refine⟨by kernel_rfl,?_⟩)|((first|refine grp_cons (fun _=>hsp _) ?_)<;>try first|omega|assumption)|(refine g_d ?_;refine d_args ?_;(first|refine d_fn (hsp _) ?_|refine d_fnQ (fun _=>hsp _) ?_)<;>try first|omega|assumption)|(refine g_d ?_;(first|refine d_fnY (hsp _) ?_)<;>try first|omega|assumption)))
    all_goals(try(exfalso;first|omega|contradiction))
    all_goals(exact hQ _ _ _ (by first|exact .inl rfl|exact .inr rfl) (V.bool false) rfl (hbad _ (.inl hq)))
  | some l=>
    have hlen:=numsP_len hq
    simp only [nbV]
    clear FX
    have hnl:=nsV_length (l:=l)
    by_cases h1:w.length=1
    · obtain⟨n,rfl⟩:∃ n,l=[n]:=by
        rcases l with _|⟨x,_|⟨y,l⟩⟩
        · simp at hlen;omega
        · exact⟨x,rfl⟩
        · simp at hlen;omega
      have hnl:(nsV [n]).length=1:=rfl
      have hn0:(nsV [n])[0]?=some [.int .i64 n]:=rfl
      have hna:(nsV [n]).all (fun e=>e.length==1)=true:=nsV_all rfl
      (have FX:=And.intro hll (And.intro hal (And.intro hx0 (And.intro hwl (And.intro hnl (And.intro hn0 hna)))));repeat'(first|(refine sx ?_ ?_<;>intro h<;>first|(exfalso;omega)|skip)|(refine g_op ?_;refine g_call ?_;refine g_args ?_;(first|refine s_fn (hsp _) ?_)<;>try first|omega|assumption)|refine ny ?_|refine WA_block ?_|(refine uU10_26_15 ?_;refine⟨by kernel_rfl,?_⟩)|(refine uU10_26_23 ?_;refine⟨by kernel_rfl,?_⟩)|(refine uU10_26_24 ?_;refine⟨by kernel_rfl,?_⟩)|(refine uU10_26_32 ?_;refine⟨by kernel_rfl,?_⟩)|(refine uU10_26_38 ?_;refine⟨by kernel_rfl,?_⟩)|((first|refine grp_cons (fun _=>hsp _) ?_)<;>try first|omega|assumption)|(refine g_d ?_;refine d_args ?_;(first|refine d_fn (hsp _) ?_|refine d_fnQ (fun _=>hsp _) ?_)<;>try first|omega|assumption)|(refine g_d ?_;(first|refine d_fnY (hsp _) ?_)<;>try first|omega|assumption)))
      all_goals(try(exfalso;first|omega|contradiction))
      refine g_op ?_;refine g_call ?_;refine g_args ?_;refine s_fnA (rgoes_k A _ _ _ _ _ rk 0) ?_
      rintro v mo hgo
      rcases hgo with ⟨⟨-,hg⟩,rfl,rfl⟩|⟨hg,rfl,rfl⟩
      all_goals simp only [Option.getD_some]
      all_goals(have FX:=And.intro hll (And.intro hal (And.intro hx0 (And.intro hwl (And.intro hnl (And.intro hn0 hna)))));repeat'(first|(refine sx ?_ ?_<;>intro h<;>first|(exfalso;omega)|skip)|(refine g_op ?_;refine g_call ?_;refine g_args ?_;(first|refine s_fn (hsp _) ?_)<;>try first|omega|assumption)|refine ny ?_|refine WA_block ?_|(refine uU10_26_15 ?_;refine⟨by kernel_rfl,?_⟩)|(refine uU10_26_23 ?_;refine⟨by kernel_rfl,?_⟩)|(refine uU10_26_24 ?_;refine⟨by kernel_rfl,?_⟩)|(refine uU10_26_32 ?_;refine⟨by kernel_rfl,?_⟩)|(refine uU10_26_38 ?_;refine⟨by kernel_rfl,?_⟩)|((first|refine grp_cons (fun _=>hsp _) ?_)<;>try first|omega|assumption)|(refine g_d ?_;refine d_args ?_;(first|refine d_fn (hsp _) ?_|refine d_fnQ (fun _=>hsp _) ?_)<;>try first|omega|assumption)|(refine g_d ?_;(first|refine d_fnY (hsp _) ?_)<;>try first|omega|assumption)))
      · exact hQ _ _ _ (by first|exact .inl rfl|exact .inr rfl) (V.bool true) rfl (hok n _ hq (hg.1 rfl) ⟨v1,v2,v3,X,rfl,⟨hv.p,hv.e,hv.l⟩⟩)
      · (exact hQ _ _ _ (by first|exact .inl rfl|exact .inr rfl) (V.bool false) rfl (hbad _ (.inr (.inr (by omega)))))
    · have hl1:¬ l.length=1:=by omega
      (have FX:=And.intro hll (And.intro hal (And.intro hx0 (And.intro hwl hnl)));repeat'(first|(refine sx ?_ ?_<;>intro h<;>first|(exfalso;omega)|skip)|(refine g_op ?_;refine g_call ?_;refine g_args ?_;(first|refine s_fn (hsp _) ?_)<;>try first|omega|assumption)|refine ny ?_|refine WA_block ?_|(refine uU10_26_15 ?_;refine⟨by kernel_rfl,?_⟩)|(refine uU10_26_23 ?_;refine⟨by kernel_rfl,?_⟩)|(refine uU10_26_24 ?_;refine⟨by kernel_rfl,?_⟩)|(refine uU10_26_32 ?_;refine⟨by kernel_rfl,?_⟩)|(refine uU10_26_38 ?_;refine⟨by kernel_rfl,?_⟩)|((first|refine grp_cons (fun _=>hsp _) ?_)<;>try first|omega|assumption)|(refine g_d ?_;refine d_args ?_;(first|refine d_fn (hsp _) ?_|refine d_fnQ (fun _=>hsp _) ?_)<;>try first|omega|assumption)|(refine g_d ?_;(first|refine d_fnY (hsp _) ?_)<;>try first|omega|assumption)))
      all_goals(try(exfalso;first|omega|contradiction))
      all_goals(exact hQ _ _ _ (by first|exact .inl rfl|exact .inr rfl) (V.bool false) rfl (hbad _ (.inr (.inl h1))))
theorem rline_ld (A:Mem) (rk:Int) (a:ActR) (M:Mem) (hI:rlI A rk a M) (s:Txt) (w:List Txt) (hc:cutP 32 s=[108,101,97,100]::w) (hs:s.length≤1000) (hb:a.leads.length≤1000) (R:V→Option Mem→Prop) (hok:∀ x y M',numsP 7 w=some [x,y]→rk≠0→rlI A 3 ⟨a.dip,a.parts,a.evs,a.leads++[(x,y)]⟩ M'→R (.bool true) (some M')) (hbad:∀ Z,(numsP 7 w=none∨w.length≠2∨rk=0)→R (.bool false) (some (A++Z))) (hr3:rk≤3):CallA Tryz.prog 26 [.ptr A.length 0 0,.str s] M R:=by
  obtain⟨v1,v2,v3,X,rfl,hv⟩:=hI
  have hsp:=fun m=>bcut_c s 32 (by omega) m
  have hcm:=fun p=>cutP_sub (c:=32) (s:=s) (p:=p)
  have hcl:=cutP_len 32 s
  rw [hc] at hsp hcm hcl
  rw [List.length_cons] at hcl
  have hwm:∀ x∈w,x.length≤100000:=fun x hx=>Nat.le_trans (hcm x (List.mem_cons_of_mem _ hx)) (by omega)
  have hnu:=fun m=>rints_c w (by omega) (fun i hi=>hwm _ (gdm hi)) m
  have hll:(xsV ([108,101,97,100]::w)).length=w.length+1:=by rw [xsV_length];rfl
  have hal:(xsV ([108,101,97,100]::w)).all (fun e=>e.length==1)=true:=by simp [xsV]
  have hx0:(xsV ([108,101,97,100]::w))[0]?=some [.str [108,101,97,100]]:=rfl
  have hwl:w.length≤1000:=by omega
  have n1:¬ ([108,101,97,100]:Txt)=[97,99,116,105,111,110]:=by decide
  have n2:¬ ([108,101,97,100]:Txt)=[112,97,114,116]:=by decide
  have n3:¬ ([108,101,97,100]:Txt)=[101,118,101,110,116]:=by decide
  clear hc hcm hwm
  refine CallA_inD Tryz.func26 rfl Tryz.ntmps26 Tryz.results26 (by kernel_rfl) (by simp) fun Q hQ=>?_
  (have FX:=And.intro hll (And.intro hal (And.intro hx0 (And.intro hwl (And.intro n1 (And.intro n2 n3)))));repeat'(first|(refine sx ?_ ?_<;>intro h<;>first|(exfalso;omega)|skip)|(refine g_op ?_;refine g_call ?_;refine g_args ?_;(first|refine s_fn (hsp _) ?_)<;>try first|omega|assumption)|refine ny ?_|refine WA_block ?_|(refine uU10_26_15 ?_;refine⟨by kernel_rfl,?_⟩)|(refine uU10_26_23 ?_;refine⟨by kernel_rfl,?_⟩)|(refine uU10_26_24 ?_;refine⟨by kernel_rfl,?_⟩)|(refine uU10_26_32 ?_;refine⟨by kernel_rfl,?_⟩)|(refine uU10_26_38 ?_;refine⟨by kernel_rfl,?_⟩)|((first|refine grp_cons (fun _=>hsp _) ?_)<;>try first|omega|assumption)|(refine g_d ?_;refine d_args ?_;(first|refine d_fn (hsp _) ?_|refine d_fnQ (fun _=>hsp _) ?_)<;>try first|omega|assumption)|(refine g_d ?_;(first|refine d_fnY (hsp _) ?_)<;>try first|omega|assumption)))
  all_goals(try(exfalso;first|omega|contradiction))
  rw [xs_r1]
  refine g_op ?_;refine g_call ?_;refine g_args ?_;refine s_fnA (hnu _) ?_
  rintro v mo ⟨rfl,rfl⟩
  simp only [Option.getD_none]
  cases hq:numsP 7 w with
  | none=>
    simp only [nbV]
    (have FX:=And.intro hll (And.intro hal (And.intro hx0 (And.intro hwl (And.intro n1 (And.intro n2 n3)))));repeat'(first|(refine sx ?_ ?_<;>intro h<;>first|(exfalso;omega)|skip)|(refine g_op ?_;refine g_call ?_;refine g_args ?_;(first|refine s_fn (hsp _) ?_)<;>try first|omega|assumption)|refine ny ?_|refine WA_block ?_|(refine uU10_26_15 ?_;refine⟨by kernel_rfl,?_⟩)|(refine uU10_26_23 ?_;refine⟨by kernel_rfl,?_⟩)|(refine uU10_26_24 ?_;refine⟨by kernel_rfl,?_⟩)|(refine uU10_26_32 ?_;refine⟨by kernel_rfl,?_⟩)|(refine uU10_26_38 ?_;refine⟨by kernel_rfl,?_⟩)|((first|refine grp_cons (fun _=>hsp _) ?_)<;>try first|omega|assumption)|(refine g_d ?_;refine d_args ?_;(first|refine d_fn (hsp _) ?_|refine d_fnQ (fun _=>hsp _) ?_)<;>try first|omega|assumption)|(refine g_d ?_;(first|refine d_fnY (hsp _) ?_)<;>try first|omega|assumption)))
    all_goals(try(exfalso;first|omega|contradiction))
    all_goals(exact hQ _ _ _ (by first|exact .inl rfl|exact .inr rfl) (V.bool false) rfl (hbad _ (.inl hq)))
  | some l=>
    have hlen:=numsP_len hq
    simp only [nbV]
    clear FX
    have hnl:=nsV_length (l:=l)
    by_cases h1:w.length=2
    · obtain⟨x,y,rfl⟩:∃ x y,l=[x,y]:=by
        rcases l with _|⟨x,_|⟨y,_|⟨z,l⟩⟩⟩
        · simp at hlen;omega
        · simp at hlen;omega
        · exact⟨x,y,rfl⟩
        · simp at hlen;omega
      have hnl:(nsV [x,y]).length=2:=rfl
      have hn0:(nsV [x,y])[0]?=some [.int .i64 x]:=rfl
      have hn2:(nsV [x,y])[1]?=some [.int .i64 y]:=rfl
      have hna:(nsV [x,y]).all (fun e=>e.length==1)=true:=nsV_all rfl
      (have FX:=And.intro hll (And.intro hal (And.intro hx0 (And.intro hwl (And.intro n1 (And.intro n2 (And.intro n3 (And.intro hnl (And.intro hn0 (And.intro hn2 hna)))))))));repeat'(first|(refine sx ?_ ?_<;>intro h<;>first|(exfalso;omega)|skip)|(refine g_op ?_;refine g_call ?_;refine g_args ?_;(first|refine s_fn (hsp _) ?_)<;>try first|omega|assumption)|refine ny ?_|refine WA_block ?_|(refine uU10_26_15 ?_;refine⟨by kernel_rfl,?_⟩)|(refine uU10_26_23 ?_;refine⟨by kernel_rfl,?_⟩)|(refine uU10_26_24 ?_;refine⟨by kernel_rfl,?_⟩)|(refine uU10_26_32 ?_;refine⟨by kernel_rfl,?_⟩)|(refine uU10_26_38 ?_;refine⟨by kernel_rfl,?_⟩)|((first|refine grp_cons (fun _=>hsp _) ?_)<;>try first|omega|assumption)|(refine g_d ?_;refine d_args ?_;(first|refine d_fn (hsp _) ?_|refine d_fnQ (fun _=>hsp _) ?_)<;>try first|omega|assumption)|(refine g_d ?_;(first|refine d_fnY (hsp _) ?_)<;>try first|omega|assumption)))
      all_goals(try(exfalso;first|omega|contradiction))
      refine g_op ?_;refine g_call ?_;refine g_args ?_;refine s_fnA (rgoes_k A _ _ _ _ _ rk 3) ?_
      rintro v mo hgo
      rcases hgo with ⟨⟨-,hg⟩,rfl,rfl⟩|⟨hg,rfl,rfl⟩
      all_goals simp only [Option.getD_some]
      rotate_left
      · (have FX:=And.intro hll (And.intro hal (And.intro hx0 (And.intro hwl (And.intro n1 (And.intro n2 (And.intro n3 (And.intro hnl (And.intro hn0 (And.intro hn2 hna)))))))));repeat'(first|(refine sx ?_ ?_<;>intro h<;>first|(exfalso;omega)|skip)|(refine g_op ?_;refine g_call ?_;refine g_args ?_;(first|refine s_fn (hsp _) ?_)<;>try first|omega|assumption)|refine ny ?_|refine WA_block ?_|(refine uU10_26_15 ?_;refine⟨by kernel_rfl,?_⟩)|(refine uU10_26_23 ?_;refine⟨by kernel_rfl,?_⟩)|(refine uU10_26_24 ?_;refine⟨by kernel_rfl,?_⟩)|(refine uU10_26_32 ?_;refine⟨by kernel_rfl,?_⟩)|(refine uU10_26_38 ?_;refine⟨by kernel_rfl,?_⟩)|((first|refine grp_cons (fun _=>hsp _) ?_)<;>try first|omega|assumption)|(refine g_d ?_;refine d_args ?_;(first|refine d_fn (hsp _) ?_|refine d_fnQ (fun _=>hsp _) ?_)<;>try first|omega|assumption)|(refine g_d ?_;(first|refine d_fnY (hsp _) ?_)<;>try first|omega|assumption)))
        (exact hQ _ _ _ (by first|exact .inl rfl|exact .inr rfl) (V.bool false) rfl (hbad _ (.inr (.inr (by omega)))))
      have hR:=fun M'=>hok x y M' hq (by omega)
      rw [if_neg (by decide)]
      obtain⟨hv1,hv2,hv3⟩:=hv
      rcases hv3 with ⟨rfl,h2⟩|⟨j,rfl,h2,h3⟩
      · (have FX:=And.intro hll (And.intro hal (And.intro hx0 (And.intro hwl (And.intro n1 (And.intro n2 (And.intro n3 (And.intro hnl (And.intro hn0 (And.intro hn2 hna)))))))));repeat'(first|(refine sx ?_ ?_<;>intro h<;>first|(exfalso;omega)|skip)|(refine g_op ?_;refine g_call ?_;refine g_args ?_;(first|refine s_fn (hsp _) ?_)<;>try first|omega|assumption)|refine ny ?_|refine WA_block ?_|(refine uU10_26_15 ?_;refine⟨by kernel_rfl,?_⟩)|(refine uU10_26_23 ?_;refine⟨by kernel_rfl,?_⟩)|(refine uU10_26_24 ?_;refine⟨by kernel_rfl,?_⟩)|(refine uU10_26_32 ?_;refine⟨by kernel_rfl,?_⟩)|(refine uU10_26_38 ?_;refine⟨by kernel_rfl,?_⟩)|((first|refine grp_cons (fun _=>hsp _) ?_)<;>try first|omega|assumption)|(refine g_d ?_;refine d_args ?_;(first|refine d_fn (hsp _) ?_|refine d_fnQ (fun _=>hsp _) ?_)<;>try first|omega|assumption)|(refine g_d ?_;(first|refine d_fnY (hsp _) ?_)<;>try first|omega|assumption)))
        have e1:a.leads=[]:=List.map_eq_nil_iff.1 h2
        refine hQ _ _ _ (.inr rfl) (.bool true) rfl (hR _ ⟨_,_,_,X++[_,_],rfl,slAt_ext hv1,slAt_ext hv2,.inr ⟨X.length+1,?_,?_,?_⟩⟩)
        · rw [e1];simp [ldsV];omega
        · simp [ldsV]
        · rw [e1];simp [ldsV,ldV]
      · clear FX
        have hjl:=(List.getElem?_eq_some_iff.1 h3).1
        have hgj:∀ Y:Mem,(X++Y)[j]?=some (.cells .own 76 2 (ldsV a.leads)):=fun Y=>by rw [List.getElem?_append_left hjl];exact h3
        have hsj:∀ (Y:Mem) (z:Blk),(X++Y).set j z=X.set j z++Y:=fun Y z=>List.set_append_left _ _ hjl
        have hlm:(ldsV a.leads).length=a.leads.length:=ldsV_length
        have hlt:(ldsV a.leads).take a.leads.length=(ldsV a.leads):=List.take_of_length_le (by rw [hlm];exact Nat.le_refl _)
        rw [hlm,show A.length+1+j=A.length+(j+1) by omega,show X=X++[] from(List.append_nil _).symm]
        (have FX:=And.intro hll (And.intro hal (And.intro hx0 (And.intro hwl (And.intro n1 (And.intro n2 (And.intro n3 (And.intro hnl (And.intro hn0 (And.intro hn2 (And.intro hna (And.intro hgj (And.intro hsj (And.intro hlm (And.intro hlt hb))))))))))))));repeat'(first|(refine sx ?_ ?_<;>intro h<;>first|(exfalso;omega)|skip)|(refine g_op ?_;refine g_call ?_;refine g_args ?_;(first|refine s_fn (hsp _) ?_)<;>try first|omega|assumption)|refine ny ?_|refine WA_block ?_|(refine uU10_26_15 ?_;refine⟨by kernel_rfl,?_⟩)|(refine uU10_26_23 ?_;refine⟨by kernel_rfl,?_⟩)|(refine uU10_26_24 ?_;refine⟨by kernel_rfl,?_⟩)|(refine uU10_26_32 ?_;refine⟨by kernel_rfl,?_⟩)|(refine uU10_26_38 ?_;refine⟨by kernel_rfl,?_⟩)|((first|refine grp_cons (fun _=>hsp _) ?_)<;>try first|omega|assumption)|(refine g_d ?_;refine d_args ?_;(first|refine d_fn (hsp _) ?_|refine d_fnQ (fun _=>hsp _) ?_)<;>try first|omega|assumption)|(refine g_d ?_;(first|refine d_fnY (hsp _) ?_)<;>try first|omega|assumption)))
        refine hQ _ _ _ (.inr rfl) (.bool true) rfl (hR _ ⟨_,_,_,X.set j .dead++[_,_],rfl,slAt_ext (slAt_set hv1 h3 (by decide) _),slAt_ext (slAt_set hv2 h3 (by decide) _),.inr ⟨X.length+1,?_,?_,?_⟩⟩)
        · simp [ldsV];omega
        · simp [ldsV]
        · simp [ldsV,ldV]
    · have hl1:¬ l.length=2:=by omega
      (have FX:=And.intro hll (And.intro hal (And.intro hx0 (And.intro hwl (And.intro n1 (And.intro n2 (And.intro n3 hnl))))));repeat'(first|(refine sx ?_ ?_<;>intro h<;>first|(exfalso;omega)|skip)|(refine g_op ?_;refine g_call ?_;refine g_args ?_;(first|refine s_fn (hsp _) ?_)<;>try first|omega|assumption)|refine ny ?_|refine WA_block ?_|(refine uU10_26_15 ?_;refine⟨by kernel_rfl,?_⟩)|(refine uU10_26_23 ?_;refine⟨by kernel_rfl,?_⟩)|(refine uU10_26_24 ?_;refine⟨by kernel_rfl,?_⟩)|(refine uU10_26_32 ?_;refine⟨by kernel_rfl,?_⟩)|(refine uU10_26_38 ?_;refine⟨by kernel_rfl,?_⟩)|((first|refine grp_cons (fun _=>hsp _) ?_)<;>try first|omega|assumption)|(refine g_d ?_;refine d_args ?_;(first|refine d_fn (hsp _) ?_|refine d_fnQ (fun _=>hsp _) ?_)<;>try first|omega|assumption)|(refine g_d ?_;(first|refine d_fnY (hsp _) ?_)<;>try first|omega|assumption)))
      all_goals(try(exfalso;first|omega|contradiction))
      all_goals(exact hQ _ _ _ (by first|exact .inl rfl|exact .inr rfl) (V.bool false) rfl (hbad _ (.inr (.inl h1))))
theorem rline_no(A:Mem)(rk:Int)(a:ActR)(M:Mem)(hI:rlI A rk a M)(s o:Txt)(w:List Txt)(hc:cutP 32 s=o::w)(hs:s.length≤1000)(n1:¬ o=[97,99,116,105,111,110])(n2:¬ o=[112,97,114,116])(n3:¬ o=[101,118,101,110,116])(n4:¬ o=[108,101,97,100])(R:V→Option Mem→Prop)(hbad:∀ Z,R (.bool false) (some (A++Z))):CallA Tryz.prog 26 [.ptr A.length 0 0,.str s] M R:=by
  obtain⟨v1,v2,v3,X,rfl,hv⟩:=hI
  have hsp:=fun m=>bcut_c s 32 (by omega) m
  have hcm:=fun p=>cutP_sub (c:=32) (s:=s) (p:=p)
  have hcl:=cutP_len 32 s
  rw [hc] at hsp hcm hcl
  rw [List.length_cons] at hcl
  have hwm:∀ x∈w,x.length≤100000:=fun x hx=>Nat.le_trans (hcm x (List.mem_cons_of_mem _ hx)) (by omega)
  have hnu:=fun m=>rints_c w (by omega) (fun i hi=>hwm _ (gdm hi)) m
  have hll:(xsV (o::w)).length=w.length+1:=by rw [xsV_length];rfl
  have hal:(xsV (o::w)).all (fun e=>e.length==1)=true:=by simp [xsV]
  have hx0:(xsV (o::w))[0]?=some [.str o]:=rfl
  have hwl:w.length≤1000:=by omega
  clear hc hcm hwm
  refine CallA_inD Tryz.func26 rfl Tryz.ntmps26 Tryz.results26 (by kernel_rfl) (by simp) fun Q hQ=>?_
  (have FX:=And.intro hll (And.intro hal (And.intro hx0 (And.intro hwl (And.intro n1 (And.intro n2 (And.intro n3 n4))))));repeat'(first|(refine sx ?_ ?_<;>intro h<;>first|(exfalso;omega)|skip)|(refine g_op ?_;refine g_call ?_;refine g_args ?_;(first|refine s_fn (hsp _) ?_)<;>try first|omega|assumption)|refine ny ?_|refine WA_block ?_|(refine uU10_26_15 ?_;refine⟨by kernel_rfl,?_⟩)|(refine uU10_26_23 ?_;refine⟨by kernel_rfl,?_⟩)|(refine uU10_26_24 ?_;refine⟨by kernel_rfl,?_⟩)|(refine uU10_26_32 ?_;refine⟨by kernel_rfl,?_⟩)|(refine uU10_26_38 ?_;refine⟨by kernel_rfl,?_⟩)|((first|refine grp_cons (fun _=>hsp _) ?_)<;>try first|omega|assumption)|(refine g_d ?_;refine d_args ?_;(first|refine d_fn (hsp _) ?_|refine d_fnQ (fun _=>hsp _) ?_)<;>try first|omega|assumption)|(refine g_d ?_;(first|refine d_fnY (hsp _) ?_)<;>try first|omega|assumption)))
  all_goals(try(exfalso;first|omega|contradiction))
  all_goals(exact hQ _ _ _ (by first|exact .inl rfl|exact .inr rfl) (V.bool false) rfl (hbad _ ))
end Go.Proofs.YtomkbpoicjabfaaGreatDoor
