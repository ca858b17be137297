/- contracts: the reference reads a line of an action: parts -/
import Derived.Test.YtomkbpoicjabfaaGreatDoorU10
import Derived.Test.YtomkbpoicjabfaaGreatDoorGAM
import Derived.Test.YtomkbpoicjabfaaGreatDoorGAN
set_option linter.unusedSimpArgs false
set_option linter.unusedVariables false
namespace Go.Proofs.YtomkbpoicjabfaaGreatDoor
open Go.RowKit
attribute [local irreducible] WA WOs WDs WAn qThen qBlock tput
set_option maxHeartbeats 1000000
set_option maxRecDepth 20000
set_option linter.unusedSimpArgs false
set_option linter.unusedVariables false
set_option maxHeartbeats 4000000
theorem rp_out{nm dr:Txt}{r:List Txt}(h:¬ (2≤r.length∧r.length % 2=0∧dr≠[])):partP (nm::dr::r)=none:=if_neg h
theorem rp_in{nm dr:Txt}{r:List Txt}(h:2≤r.length∧r.length % 2=0∧dr≠[]):partP (nm::dr::r)=(numsP 7 r).map fun n=>⟨nm,if dr=[45] then [] else dr,knP (n.drop 2),n.getD 0 0,n.getD 1 0⟩:=if_pos h
theorem uU102_26_15{N:Nat}{l:List Oper}{t:List (Nat×V)}{m:Mem}{Q:Exit→List (Nat×V)→Mem→Prop}(h:RgN Tryz.prog N l t m Q (fun i=>if i==14 then .f else if i==13 then .a else if i==2 || i==5 || i==8 || i==11 then .q else .p) [.one 0,.one 1,.one 2,.one 3,.one 4,.one 5,.one 6,.one 7,.one 8,.one 9,.one 10,.one 11,.one 12,.one 13,.one 14]):WA Tryz.prog N (.region 15 l.toArray true) t m Q:=d_rgN h
theorem uU102_26_23{N:Nat}{l:List Oper}{t:List (Nat×V)}{m:Mem}{Q:Exit→List (Nat×V)→Mem→Prop}(h:RgN Tryz.prog N l t m Q (fun i=>if i==16 || i==19 then .w else if i==15 then .a else if i==2 || i==6 || i==7 || i==12 || i==13 then .q else .p) [.one 0,.one 1,.one 2,.one 3,.one 4,.one 5,.one 6,.one 7,.one 8,.one 9,.one 10,.one 11,.one 12,.one 13,.one 14,.one 15,.one 16,.one 17,.one 18,.one 19]):WA Tryz.prog N (.region 23 l.toArray true) t m Q:=d_rgN h
theorem uU102_26_24{N:Nat}{l:List Oper}{t:List (Nat×V)}{m:Mem}{Q:Exit→List (Nat×V)→Mem→Prop}(h:RgN Tryz.prog N l t m Q (fun i=>if i==8 || i==12 then .w else if i==7 then .a else if i==5 || i==6 then .q else .p) [.one 0,.one 1,.one 2,.one 3,.one 4,.one 5,.one 6,.one 7,.one 8,.one 9,.one 10,.one 11,.one 12]):WA Tryz.prog N (.region 24 l.toArray true) t m Q:=d_rgN h
theorem uU102_26_32{N:Nat}{l:List Oper}{t:List (Nat×V)}{m:Mem}{Q:Exit→List (Nat×V)→Mem→Prop}(h:RgN Tryz.prog N l t m Q (fun i=>if i==21 || i==25 then .w else if i==20 then .a else if i==5 || i==8 || i==11 || i==14 || i==17 || i==18 then .q else .p) [.one 0,.one 1,.one 2,.one 3,.one 4,.one 5,.one 6,.one 7,.one 8,.one 9,.one 10,.one 11,.one 12,.one 13,.one 14,.one 15,.one 16,.one 17,.one 18,.one 19,.one 20,.one 21,.one 22,.one 23,.one 24,.one 25]):WA Tryz.prog N (.region 32 l.toArray true) t m Q:=d_rgN h
theorem uU102_26_38{N:Nat}{l:List Oper}{t:List (Nat×V)}{m:Mem}{Q:Exit→List (Nat×V)→Mem→Prop}(h:RgN Tryz.prog N l t m Q (fun i=>if i==14 || i==18 then .w else if i==13 then .a else if i==5 || i==8 || i==11 then .q else .p) [.one 0,.one 1,.one 2,.one 3,.one 4,.one 5,.one 6,.one 7,.one 8,.one 9,.one 10,.one 11,.one 12,.one 13,.one 14,.one 15,.one 16,.one 17,.one 18]):WA Tryz.prog N (.region 38 l.toArray true) t m Q:=d_rgN h
theorem rline_pno(A:Mem)(rk:Int)(a:ActR)(M:Mem)(hI:rlI A rk a M)(s:Txt)(w:List Txt)(hc:cutP 32 s=[112,97,114,116]::w)(hs:s.length≤1000)(hsh:w.length<4∨w.length % 2=1)(R:V→Option Mem→Prop)(hbad:∀ Z,R (.bool false) (some (A++Z))):CallA Tryz.prog 26 [.ptr A.length 0 0,.str s] M R:=by
  obtain⟨v1,v2,v3,X,rfl,hv⟩:=hI
  have hsp:=fun m=>bcut_c s 32 (by omega) m
  have hcm:=fun p=>cutP_sub (c:=32) (s:=s) (p:=p)
  have hcl:=cutP_len 32 s
  rw [hc] at hsp hcm hcl
  rw [List.length_cons] at hcl
  have hwm:∀ x∈w,x.length≤100000:=fun x hx=>Nat.le_trans (hcm x (List.mem_cons_of_mem _ hx)) (by omega)
  have hnu:=fun m=>rints_c w (by omega) (fun i hi=>hwm _ (gdm hi)) m
  have hll:(xsV ([112,97,114,116]::w)).length=w.length+1:=by rw [xsV_length];rfl
  have hal:(xsV ([112,97,114,116]::w)).all (fun e=>e.length==1)=true:=by simp [xsV]
  have hx0:(xsV ([112,97,114,116]::w))[0]?=some [.str [112,97,114,116]]:=rfl
  have hwl:w.length≤1000:=by omega
  have n1:¬ ([112,97,114,116]:Txt)=[97,99,116,105,111,110]:=by decide
  have htm:=tmod2 (w.length+1)
  clear hc hcm hwm hnu
  refine CallA_inD Tryz.func26 rfl Tryz.ntmps26 Tryz.results26 (by kernel_rfl) (by simp) fun Q hQ=>?_
  by_cases h4:w.length<4
  · 
    (have FX:=And.intro hll (And.intro hal (And.intro hx0 (And.intro hwl n1)));repeat'(first|(refine sx ?_ ?_<;>intro h<;>first|(exfalso;omega)|skip)|(refine g_op ?_;refine g_call ?_;refine g_args ?_;(first|refine s_fn (hsp _) ?_)<;>try first|omega|assumption)|refine ny ?_|refine WA_block ?_|(refine uU102_26_15 ?_;refine⟨by kernel_rfl,?_⟩)|(refine uU102_26_23 ?_;refine⟨by kernel_rfl,?_⟩)|(refine uU102_26_24 ?_;refine⟨by kernel_rfl,?_⟩)|(refine uU102_26_32 ?_;refine⟨by kernel_rfl,?_⟩)|(refine uU102_26_38 ?_;refine⟨by kernel_rfl,?_⟩)|((first|refine grp_cons (fun _=>hsp _) ?_)<;>try first|omega|assumption)|(refine g_d ?_;refine d_args ?_;(first|refine d_fn (hsp _) ?_|refine d_fnQ (fun _=>hsp _) ?_)<;>try first|omega|assumption)|(refine g_d ?_;(first|refine d_fnY (hsp _) ?_)<;>try first|omega|assumption)))
    all_goals(try(exfalso;first|omega|contradiction))
    all_goals(exact hQ _ _ _ (by first|exact .inl rfl|exact .inr rfl) (V.bool false) rfl (hbad _ ))
  · have hm2:(w.length+1) % 2=0:=by omega
    (have FX:=And.intro hll (And.intro hal (And.intro hx0 (And.intro hwl (And.intro n1 (And.intro htm hm2)))));repeat'(first|(refine sx ?_ ?_<;>intro h<;>first|(exfalso;omega)|skip)|(refine g_op ?_;refine g_call ?_;refine g_args ?_;(first|refine s_fn (hsp _) ?_)<;>try first|omega|assumption)|refine ny ?_|refine WA_block ?_|(refine uU102_26_15 ?_;refine⟨by kernel_rfl,?_⟩)|(refine uU102_26_23 ?_;refine⟨by kernel_rfl,?_⟩)|(refine uU102_26_24 ?_;refine⟨by kernel_rfl,?_⟩)|(refine uU102_26_32 ?_;refine⟨by kernel_rfl,?_⟩)|(refine uU102_26_38 ?_;refine⟨by kernel_rfl,?_⟩)|((first|refine grp_cons (fun _=>hsp _) ?_)<;>try first|omega|assumption)|(refine g_d ?_;refine d_args ?_;(first|refine d_fn (hsp _) ?_|refine d_fnQ (fun _=>hsp _) ?_)<;>try first|omega|assumption)|(refine g_d ?_;(first|refine d_fnY (hsp _) ?_)<;>try first|omega|assumption)))
    all_goals(try(exfalso;first|omega|contradiction))
    all_goals(exact hQ _ _ _ (by first|exact .inl rfl|exact .inr rfl) (V.bool false) rfl (hbad _ ))
theorem rline_pyes (A:Mem) (rk:Int) (a:ActR) (M:Mem) (hI:rlI A rk a M) (s nm dr:Txt) (r:List Txt) (hc:cutP 32 s=[112,97,114,116]::nm::dr::r) (hs:s.length≤1000) (hb:a.parts.length≤1000) (hr2:2≤r.length) (hev:r.length % 2=0) (R:V→Option Mem→Prop) (hok:∀ p M',partP (nm::dr::r)=some p→rk≠0→rk≤1→rlI A 1 ⟨a.dip,a.parts++[p],a.evs,a.leads⟩ M'→R (.bool true) (some M')) (hbad:∀ Z,(partP (nm::dr::r)=none∨rk=0∨1<rk)→R (.bool false) (some (A++Z))):CallA Tryz.prog 26 [.ptr A.length 0 0,.str s] M R:=by
  obtain⟨v1,v2,v3,X,rfl,hv⟩:=hI
  have hsp:=fun m=>bcut_c s 32 (by omega) m
  have hcm:=fun p=>cutP_sub (c:=32) (s:=s) (p:=p)
  have hcl:=cutP_len 32 s
  rw [hc] at hsp hcm hcl
  simp only [List.length_cons] at hcl
  have hnu:=fun m=>rints_c r (by omega) (fun i hi=>Nat.le_trans (hcm _ (List.mem_cons_of_mem _ (List.mem_cons_of_mem _ (List.mem_cons_of_mem _ (gdm hi))))) (by omega)) m
  have hll:(xsV ([112,97,114,116]::nm::dr::r)).length=r.length+3:=by rw [xsV_length];rfl
  have hal:(xsV ([112,97,114,116]::nm::dr::r)).all (fun e=>e.length==1)=true:=by simp [xsV]
  have hx0:(xsV ([112,97,114,116]::nm::dr::r))[0]?=some [.str [112,97,114,116]]:=rfl
  have hx1:(xsV ([112,97,114,116]::nm::dr::r))[1]?=some [.str nm]:=rfl
  have hx2:(xsV ([112,97,114,116]::nm::dr::r))[2]?=some [.str dr]:=rfl
  have hwl:r.length≤1000:=by omega
  have htm:=tmod2 (r.length+3)
  have hm2:(r.length+3) % 2=1:=by omega
  have n1:¬ ([112,97,114,116]:Txt)=[97,99,116,105,111,110]:=by decide
  clear hc hcm
  refine CallA_inD Tryz.func26 rfl Tryz.ntmps26 Tryz.results26 (by kernel_rfl) (by simp) fun Q hQ=>?_
  (have FX:=And.intro hll (And.intro hal (And.intro hx0 (And.intro hx1 (And.intro hx2 (And.intro hwl (And.intro htm (And.intro hm2 (And.intro hr2 n1))))))));repeat'(first|(refine sx ?_ ?_<;>intro h<;>first|(exfalso;omega)|skip)|(refine g_op ?_;refine g_call ?_;refine g_args ?_;(first|refine s_fn (hsp _) ?_)<;>try first|omega|assumption)|refine ny ?_|refine WA_block ?_|(refine uU102_26_15 ?_;refine⟨by kernel_rfl,?_⟩)|(refine uU102_26_23 ?_;refine⟨by kernel_rfl,?_⟩)|(refine uU102_26_24 ?_;refine⟨by kernel_rfl,?_⟩)|(refine uU102_26_32 ?_;refine⟨by kernel_rfl,?_⟩)|(refine uU102_26_38 ?_;refine⟨by kernel_rfl,?_⟩)|((first|refine grp_cons (fun _=>hsp _) ?_)<;>try first|omega|assumption)|(refine g_d ?_;refine d_args ?_;(first|refine d_fn (hsp _) ?_|refine d_fnQ (fun _=>hsp _) ?_)<;>try first|omega|assumption)|(refine g_d ?_;(first|refine d_fnY (hsp _) ?_)<;>try first|omega|assumption)))
  all_goals(try(exfalso;first|omega|contradiction))
  refine g_op ?_;refine g_call ?_;refine g_args ?_;refine s_fnA (rgoes_k A _ _ _ _ _ rk 1) ?_
  rintro v mo hgo
  rcases hgo with ⟨hg,rfl,rfl⟩|⟨hg,rfl,rfl⟩
  all_goals simp only [Option.getD_some]
  rotate_left
  · (have FX:=And.intro hll (And.intro hal (And.intro hx0 (And.intro hx1 (And.intro hx2 (And.intro hwl (And.intro htm (And.intro hm2 (And.intro hr2 n1))))))));repeat'(first|(refine sx ?_ ?_<;>intro h<;>first|(exfalso;omega)|skip)|(refine g_op ?_;refine g_call ?_;refine g_args ?_;(first|refine s_fn (hsp _) ?_)<;>try first|omega|assumption)|refine ny ?_|refine WA_block ?_|(refine uU102_26_15 ?_;refine⟨by kernel_rfl,?_⟩)|(refine uU102_26_23 ?_;refine⟨by kernel_rfl,?_⟩)|(refine uU102_26_24 ?_;refine⟨by kernel_rfl,?_⟩)|(refine uU102_26_32 ?_;refine⟨by kernel_rfl,?_⟩)|(refine uU102_26_38 ?_;refine⟨by kernel_rfl,?_⟩)|((first|refine grp_cons (fun _=>hsp _) ?_)<;>try first|omega|assumption)|(refine g_d ?_;refine d_args ?_;(first|refine d_fn (hsp _) ?_|refine d_fnQ (fun _=>hsp _) ?_)<;>try first|omega|assumption)|(refine g_d ?_;(first|refine d_fnY (hsp _) ?_)<;>try first|omega|assumption)))
    (exact hQ _ _ _ (by first|exact .inl rfl|exact .inr rfl) (V.bool false) rfl (hbad _ (.inr (by omega))))
  rw [if_neg (by decide)]
  (have FX:=And.intro hll (And.intro hal (And.intro hx0 (And.intro hx1 (And.intro hx2 (And.intro hwl (And.intro htm (And.intro hm2 (And.intro hr2 n1))))))));repeat'(first|(refine sx ?_ ?_<;>intro h<;>first|(exfalso;omega)|skip)|(refine g_op ?_;refine g_call ?_;refine g_args ?_;(first|refine s_fn (hsp _) ?_)<;>try first|omega|assumption)|refine ny ?_|refine WA_block ?_|(refine uU102_26_15 ?_;refine⟨by kernel_rfl,?_⟩)|(refine uU102_26_23 ?_;refine⟨by kernel_rfl,?_⟩)|(refine uU102_26_24 ?_;refine⟨by kernel_rfl,?_⟩)|(refine uU102_26_32 ?_;refine⟨by kernel_rfl,?_⟩)|(refine uU102_26_38 ?_;refine⟨by kernel_rfl,?_⟩)|((first|refine grp_cons (fun _=>hsp _) ?_)<;>try first|omega|assumption)|(refine g_d ?_;refine d_args ?_;(first|refine d_fn (hsp _) ?_|refine d_fnQ (fun _=>hsp _) ?_)<;>try first|omega|assumption)|(refine g_d ?_;(first|refine d_fnY (hsp _) ?_)<;>try first|omega|assumption)))
  rw [xs_r3]
  refine g_op ?_;refine g_call ?_;refine g_args ?_;refine s_fnA (hnu _) ?_
  rintro v mo ⟨rfl,rfl⟩
  simp only [Option.getD_none]
  have hpn:numsP 7 r=none→partP (nm::dr::r)=none:=fun h=>by
    by_cases hd:dr=[]
    · exact rp_out fun q=>q.2.2 hd
    · rw [rp_in ⟨hr2,hev,hd⟩,h];rfl
  cases hn:numsP 7 r with
  | none=>
    simp only [nbV]
    (have FX:=And.intro hll (And.intro hal (And.intro hx0 (And.intro hx1 (And.intro hx2 (And.intro hwl (And.intro htm (And.intro hm2 (And.intro hr2 n1))))))));repeat'(first|(refine sx ?_ ?_<;>intro h<;>first|(exfalso;omega)|skip)|(refine g_op ?_;refine g_call ?_;refine g_args ?_;(first|refine s_fn (hsp _) ?_)<;>try first|omega|assumption)|refine ny ?_|refine WA_block ?_|(refine uU102_26_15 ?_;refine⟨by kernel_rfl,?_⟩)|(refine uU102_26_23 ?_;refine⟨by kernel_rfl,?_⟩)|(refine uU102_26_24 ?_;refine⟨by kernel_rfl,?_⟩)|(refine uU102_26_32 ?_;refine⟨by kernel_rfl,?_⟩)|(refine uU102_26_38 ?_;refine⟨by kernel_rfl,?_⟩)|((first|refine grp_cons (fun _=>hsp _) ?_)<;>try first|omega|assumption)|(refine g_d ?_;refine d_args ?_;(first|refine d_fn (hsp _) ?_|refine d_fnQ (fun _=>hsp _) ?_)<;>try first|omega|assumption)|(refine g_d ?_;(first|refine d_fnY (hsp _) ?_)<;>try first|omega|assumption)))
    (exact hQ _ _ _ (by first|exact .inl rfl|exact .inr rfl) (V.bool false) rfl (hbad _ (.inl (hpn hn))))
  | some l=>
    have hlen:=numsP_len hn
    obtain⟨a0,b0,ks,rfl⟩:∃ a b ks,l=a::b::ks:=by
      rcases l with _|⟨a,_|⟨b,ks⟩⟩
      · simp at hlen;omega
      · simp at hlen;omega
      · exact⟨a,b,ks,rfl⟩
    simp only [List.length_cons] at hlen
    have hkl:ks.length % 2=0:=by omega
    have hkl3:ks.length≤1000:=by omega
    have hln:(nsV (a0::b0::ks)).length=ks.length+2:=by rw [nsV_length];rfl
    have hna:(nsV (a0::b0::ks)).all (fun e=>e.length==1)=true:=nsV_all rfl
    have hn0:(nsV (a0::b0::ks))[0]?=some [.int .i64 a0]:=rfl
    have hn1:(nsV (a0::b0::ks))[1]?=some [.int .i64 b0]:=rfl
    simp only [nbV]
    clear FX hpn
    obtain⟨d,hd⟩:∃ d:Txt,(if dr=[45] then [] else dr)=d:=⟨_,rfl⟩
    (have FX:=And.intro hll (And.intro hal (And.intro hx0 (And.intro hx1 (And.intro hx2 (And.intro hwl (And.intro n1 (And.intro hln (And.intro hna (And.intro hn0 hn1)))))))));repeat'(first|(refine sx ?_ ?_<;>intro h<;>first|(exfalso;omega)|skip)|(refine g_op ?_;refine g_call ?_;refine g_args ?_;(first|refine s_fn (hsp _) ?_)<;>try first|omega|assumption)|refine ny ?_|refine WA_block ?_|(refine uU102_26_15 ?_;refine⟨by kernel_rfl,?_⟩)|(refine uU102_26_23 ?_;refine⟨by kernel_rfl,?_⟩)|(refine uU102_26_24 ?_;refine⟨by kernel_rfl,?_⟩)|(refine uU102_26_32 ?_;refine⟨by kernel_rfl,?_⟩)|(refine uU102_26_38 ?_;refine⟨by kernel_rfl,?_⟩)|((first|refine grp_cons (fun _=>hsp _) ?_)<;>try first|omega|assumption)|(refine g_d ?_;refine d_args ?_;(first|refine d_fn (hsp _) ?_|refine d_fnQ (fun _=>hsp _) ?_)<;>try first|omega|assumption)|(refine g_d ?_;(first|refine d_fnY (hsp _) ?_)<;>try first|omega|assumption)))
    · (exact hQ _ _ _ (by first|exact .inl rfl|exact .inr rfl) (V.bool false) rfl (hbad _ (.inl (rp_out fun q=>q.2.2 (by assumption)))))
    all_goals have hpp:partP (nm::dr::r)=some ⟨nm,d,knP ks,a0,b0⟩:=by(rw [rp_in ⟨hr2,hev,by assumption⟩,hn,←hd];rfl)
    all_goals first
      |rw [show(Blk.cells .own 71 5 [[.str nm,.str [],.nilsl,.int .i64 a0,.int .i64 b0]])=Blk.cells .own 71 5 [[.str nm,.str d,.nilsl,.int .i64 a0,.int .i64 b0]] by rw [←hd,if_pos (by assumption)]]
      |rw [show(Blk.cells .own 71 5 [[.str nm,.str dr,.nilsl,.int .i64 a0,.int .i64 b0]])=Blk.cells .own 71 5 [[.str nm,.str d,.nilsl,.int .i64 a0,.int .i64 b0]] by rw [←hd,if_neg (by assumption)]]
    all_goals have hR:=fun M'=>hok _ M' hpp (by omega) (by omega)
    all_goals clear FX hok hbad hpp
    all_goals obtain⟨A1,hA1⟩:∃ A1:Mem,A1=A++[.cells .own 69 5 [[.int .i64 a.dip,v1,v2,v3,.int .i64 1]]]++X:=⟨_,rfl⟩
    all_goals have hA2:A.length+(X.length+1)=A1.length:=by rw [hA1];simp
    all_goals rw [show(A++Blk.cells .own 69 5 [[.int .i64 a.dip,v1,v2,v3,.int .i64 1]]::(X++[Blk.cells .own 71 5 [[.str nm,.str d,.nilsl,.int .i64 a0,.int .i64 b0]]]))=A1++[Blk.cells .own 71 5 [[.str nm,.str d,.nilsl,.int .i64 a0,.int .i64 b0]]] by rw [hA1];simp,hA2]
    all_goals(
      refine WA_while (σ:=Nat×Mem) [0,8,10,11] (fun q=>[.ptr A.length 0 0,.lst (nsV (a0::b0::ks)),.ptr A1.length 0 0,.int .i64 ((q.1:Int)+2)]) (fun q=>q.2) (fun q=>(q.1≤ks.length∧q.1 % 2=0)∧∃ v Y,q.2=A1++(Blk.cells .own 71 5 [[.str nm,.str d,v,.int .i64 a0,.int .i64 b0]]::Y)∧slAt (A1.length+1) Y 80 4 (rksV (knP (ks.take q.1))) v) (fun q=>ks.length - q.1) (0,A1++[Blk.cells .own 71 5 [[.str nm,.str d,.nilsl,.int .i64 a0,.int .i64 b0]]]) ⟨⟨Nat.zero_le _,rfl⟩,.nilsl,[],rfl,.inl ⟨rfl,rfl⟩⟩ tv_ rfl ?_
      rintro⟨k,M'⟩ ⟨⟨hk1,hk2⟩,v,Y,rfl,hvY⟩ K hK
      dsimp only at hk1 hk2 hvY
      simp only [zipT]
      rcases Nat.lt_or_ge k ks.length with hlt|hge
      · have hk3:k+2≤ks.length:=by omega
        have hkn:=knP_snoc _ (ks.take k) (ks.getD k 0) (ks.getD (k+1) 0) (Nat.le_refl _) (by rw [List.length_take];omega)
        rw [←take_two hk3] at hkn
        have hi1:(nsV (a0::b0::ks))[k+2]?=some [.int .i64 (ks.getD k 0)]:=nsV_get (l:=ks) (by omega)
        have hi2:(nsV (a0::b0::ks))[k+3]?=some [.int .i64 (ks.getD (k+1) 0)]:=nsV_get (l:=ks) (by omega)
        have ht1:((k:Int)+2).toNat=k+2:=by omega
        have ht2:((k:Int)+2+1).toNat=k+3:=by omega
        generalize ks.getD k 0=x at *
        generalize ks.getD (k+1) 0=y at *
        rcases hvY with ⟨rfl,hvY⟩|⟨j,rfl,hj1,hj2⟩
        · 
          (have FX:=And.intro hln (And.intro hna (And.intro hi1 (And.intro hi2 (And.intro ht1 (And.intro ht2 (And.intro hlt (And.intro hk3 hkl3)))))));repeat'(first|(refine sx ?_ ?_<;>intro h<;>first|(exfalso;omega)|skip)|(refine g_op ?_;refine g_call ?_;refine g_args ?_;(first|refine s_fn (rwhole_c _ _) ?_)<;>try first|omega|assumption)|refine ny ?_|refine WA_block ?_|(refine uU102_26_15 ?_;refine⟨by kernel_rfl,?_⟩)|(refine uU102_26_23 ?_;refine⟨by kernel_rfl,?_⟩)|(refine uU102_26_24 ?_;refine⟨by kernel_rfl,?_⟩)|(refine uU102_26_32 ?_;refine⟨by kernel_rfl,?_⟩)|(refine uU102_26_38 ?_;refine⟨by kernel_rfl,?_⟩)|((first|refine grp_cons (fun _=>rwhole_c _ _) ?_)<;>try first|omega|assumption)|(refine g_d ?_;refine d_args ?_;(first|refine d_fn (rwhole_c _ _) ?_|refine d_fnQ (fun _=>rwhole_c _ _) ?_)<;>try first|omega|assumption)|(refine g_d ?_;(first|refine d_fnY (rwhole_c _ _) ?_)<;>try first|omega|assumption)))
          all_goals(try(exfalso;first|omega|contradiction))
          refine next_ hK (k+2,_) ⟨⟨by dsimp only;omega,by dsimp only;omega⟩,_,Y++[_,_],rfl,.inr ⟨Y.length+1,?_,?_,?_⟩⟩ (by dsimp only;omega)
          · rw [hkn,List.map_eq_nil_iff.1 hvY];simp [rksV];omega
          · rw [hkn];simp [rksV]
          · rw [hkn,List.map_eq_nil_iff.1 hvY];simp [rksV,rkV]
        · have hjl:=(List.getElem?_eq_some_iff.1 hj2).1
          have hgj:∀ Z:Mem,(Y++Z)[j]?=some (.cells .own 80 4 (rksV (knP (ks.take k)))):=fun Z=>by rw [List.getElem?_append_left hjl];exact hj2
          have hsj:∀ (Z:Mem) (z:Blk),(Y++Z).set j z=Y.set j z++Z:=fun Z z=>List.set_append_left _ _ hjl
          have hlc:=rksV_length (l:=knP (ks.take k))
          have hkl2:(knP (ks.take k)).length≤1000:=Nat.le_trans (knP_len _ _ (Nat.le_refl _)) (by rw [List.length_take];omega)
          have hlt9:(rksV (knP (ks.take k))).take (knP (ks.take k)).length=rksV (knP (ks.take k)):=List.take_of_length_le (by rw [hlc];exact Nat.le_refl _)
          rw [hlc,show A1.length+1+j=A1.length+(j+1) by omega,show Y=Y++[] from(List.append_nil _).symm]
          (have FX:=And.intro hln (And.intro hna (And.intro hi1 (And.intro hi2 (And.intro ht1 (And.intro ht2 (And.intro hlt (And.intro hk3 (And.intro hkl3 (And.intro hgj (And.intro hsj (And.intro hlc (And.intro hlt9 hkl2))))))))))));repeat'(first|(refine sx ?_ ?_<;>intro h<;>first|(exfalso;omega)|skip)|(refine g_op ?_;refine g_call ?_;refine g_args ?_;(first|refine s_fn (rwhole_c _ _) ?_)<;>try first|omega|assumption)|refine ny ?_|refine WA_block ?_|(refine uU102_26_15 ?_;refine⟨by kernel_rfl,?_⟩)|(refine uU102_26_23 ?_;refine⟨by kernel_rfl,?_⟩)|(refine uU102_26_24 ?_;refine⟨by kernel_rfl,?_⟩)|(refine uU102_26_32 ?_;refine⟨by kernel_rfl,?_⟩)|(refine uU102_26_38 ?_;refine⟨by kernel_rfl,?_⟩)|((first|refine grp_cons (fun _=>rwhole_c _ _) ?_)<;>try first|omega|assumption)|(refine g_d ?_;refine d_args ?_;(first|refine d_fn (rwhole_c _ _) ?_|refine d_fnQ (fun _=>rwhole_c _ _) ?_)<;>try first|omega|assumption)|(refine g_d ?_;(first|refine d_fnY (rwhole_c _ _) ?_)<;>try first|omega|assumption)))
          all_goals(try(exfalso;first|omega|contradiction))
          refine next_ hK (k+2,_) ⟨⟨by dsimp only;omega,by dsimp only;omega⟩,_,Y.set j .dead++[_,_],rfl,.inr ⟨Y.length+1,?_,?_,?_⟩⟩ (by dsimp only;omega)
          · rw [hkn];simp [rksV];omega
          · rw [hkn];simp [rksV]
          · rw [hkn];simp [rksV,rkV]
      · obtain rfl:k=ks.length:=by omega
        rw [List.take_of_length_le (Nat.le_refl _)] at hvY
        clear hK
        refine fz_step (L:=A1) (Y1:=[]) (Y2:=[]) (p:=[.str nm,.str d]) (q:=[.int .i64 a0,.int .i64 b0]) (o:=A1.length+1) rfl hvY (fun b xs=>by simp [rksV,rkV,frzV]) (fun _ _=>rfl) (fun _ _=>rfl) (fun _ _=>rfl) fun f Y' _ hf=>?_
        simp only [List.map_cons,List.map_nil,hf (.str nm) (fun _ _=>rfl),hf (.str d) (fun _ _=>rfl),hf (.int .i64 a0) (fun _ _=>rfl),hf (.int .i64 b0) (fun _ _=>rfl),List.cons_append,List.nil_append]
        rw [←hA2,hA1]
        simp only [List.append_assoc,List.cons_append,List.nil_append]
        obtain⟨hv1,hv2,hv3⟩:=hv
        rcases hv1 with ⟨rfl,h2⟩|⟨j,rfl,h2,h3⟩
        · 
          (have FX:=And.intro hln (And.intro hna hkl3);repeat'(first|(refine sx ?_ ?_<;>intro h<;>first|(exfalso;omega)|skip)|refine ny ?_|refine WA_block ?_|(refine uU102_26_15 ?_;refine⟨by kernel_rfl,?_⟩)|(refine uU102_26_23 ?_;refine⟨by kernel_rfl,?_⟩)|(refine uU102_26_24 ?_;refine⟨by kernel_rfl,?_⟩)|(refine uU102_26_32 ?_;refine⟨by kernel_rfl,?_⟩)|(refine uU102_26_38 ?_;refine⟨by kernel_rfl,?_⟩)))
          all_goals(try(exfalso;first|omega|contradiction))
          have e1:a.parts=[]:=List.map_eq_nil_iff.1 h2
          refine hQ _ _ _ (.inr rfl) (.bool true) rfl (hR _ ⟨_,_,_,X++(_::(Y'++[_,_])),rfl,.inr ⟨X.length+(Y'.length+2),?_,?_,?_⟩,slAt_ext hv2,slAt_ext hv3⟩)
          · rw [e1];simp [prtsV];omega
          · simp [prtsV]
          · rw [List.getElem?_append_right (by omega),show X.length+(Y'.length+2) - X.length=(Y'.length+1)+1 by omega,List.getElem?_cons_succ,List.getElem?_append_right (by omega),Nat.add_sub_cancel_left]
            rw [e1];simp [prtsV,prtV]
        · have hjl:=(List.getElem?_eq_some_iff.1 h3).1
          have hgj:∀ Y:Mem,(X++Y)[j]?=some (.cells .own 71 5 (prtsV a.parts)):=fun Y=>by rw [List.getElem?_append_left hjl];exact h3
          have hsj:∀ (Y:Mem) (z:Blk),(X++Y).set j z=X.set j z++Y:=fun Y z=>List.set_append_left _ _ hjl
          have hlm:(prtsV a.parts).length=a.parts.length:=prtsV_length
          have hlt:(prtsV a.parts).take a.parts.length=(prtsV a.parts):=List.take_of_length_le (by rw [hlm];exact Nat.le_refl _)
          rw [hlm,show A.length+1+j=A.length+(j+1) by omega]
          (have FX:=And.intro hln (And.intro hna (And.intro hkl3 (And.intro hgj (And.intro hsj (And.intro hlm (And.intro hlt hb))))));repeat'(first|(refine sx ?_ ?_<;>intro h<;>first|(exfalso;omega)|skip)|refine ny ?_|refine WA_block ?_|(refine uU102_26_15 ?_;refine⟨by kernel_rfl,?_⟩)|(refine uU102_26_23 ?_;refine⟨by kernel_rfl,?_⟩)|(refine uU102_26_24 ?_;refine⟨by kernel_rfl,?_⟩)|(refine uU102_26_32 ?_;refine⟨by kernel_rfl,?_⟩)|(refine uU102_26_38 ?_;refine⟨by kernel_rfl,?_⟩)))
          all_goals(try(exfalso;first|omega|contradiction))
          refine hQ _ _ _ (.inr rfl) (.bool true) rfl (hR _ ⟨_,_,_,X.set j .dead++(_::(Y'++[_,_])),rfl,.inr ⟨X.length+(Y'.length+2),?_,?_,?_⟩,slAt_ext (slAt_set hv2 h3 (by decide) _),slAt_ext (slAt_set hv3 h3 (by decide) _)⟩)
          · simp [prtsV];omega
          · simp [prtsV]
          · rw [List.getElem?_append_right (by simp),List.length_set,show X.length+(Y'.length+2) - X.length=(Y'.length+1)+1 by omega,List.getElem?_cons_succ,List.getElem?_append_right (by omega),Nat.add_sub_cancel_left]
            simp [prtsV,prtV])
end Go.Proofs.YtomkbpoicjabfaaGreatDoor
