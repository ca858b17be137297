/- contracts: the program reads a part's words, and an event's -/
import Derived.Test.YtomkbpoicjabfaaGreatDoorGAM
import Derived.Test.YtomkbpoicjabfaaGreatDoorGAN
set_option linter.unusedSimpArgs false
set_option linter.unusedVariables false
namespace Go.Proofs.YtomkbpoicjabfaaGreatDoor
open Go.RowKit
attribute [local irreducible] WA WOs WDs WAn qThen qBlock tput
set_option maxHeartbeats 1000000
set_option maxRecDepth 20000
set_option linter.unusedSimpArgs false
set_option linter.unusedVariables false
set_option maxHeartbeats 4000000
def rpV(o:Option PartR):V:=match o with
  |some p=> .tup [.agg (prtV p),.bool true]
  |none=> .tup [.agg (prtV p0),.bool false]
def reV(o:Option EvR):V:=match o with
  |some e=> .tup [.agg (evV e),.bool true]
  |none=> .tup [.agg (evV e0),.bool false]
theorem wk_p0:WkV (.tup [.agg [.str [],.str [],.nilsl,.int .i64 0,.int .i64 0],.bool false]) (rpV none):=wk_tup ⟨show WkV _ (.agg [.str [],.str [],.lst [],.int .i64 0,.int .i64 0]) from wk_agg ⟨WkV.refl _,WkV.refl _,wk_nil,WkV.refl _,WkV.refl _,trivial⟩,WkV.refl _,trivial⟩
theorem tmod2(n:Nat):(n:Int).tmod 2=((n % 2:Nat):Int):=by rw [Int.tmod_eq_emod_of_nonneg (by omega)];omega
theorem uU5_58_6{N:Nat}{l:List Oper}{t:List (Nat×V)}{m:Mem}{Q:Exit→List (Nat×V)→Mem→Prop}(h:RgN Tryz.prog N l t m Q (fun i=>if i==14 then .f else if i==13 then .a else if i==2 || i==5 || i==8 || i==11 then .q else .p) [.one 0,.one 1,.one 2,.one 3,.one 4,.one 5,.one 6,.one 7,.one 8,.one 9,.one 10,.one 11,.one 12,.one 13,.one 14]):WA Tryz.prog N (.region 6 l.toArray true) t m Q:=d_rgN h
theorem uU5_58_11{N:Nat}{l:List Oper}{t:List (Nat×V)}{m:Mem}{Q:Exit→List (Nat×V)→Mem→Prop}(h:RgN Tryz.prog N l t m Q (fun i=>if i==13 || i==16 then .w else if i==12 then .a else if i==2 || i==5 || i==6 || i==9 || i==10 then .q else .p) [.one 0,.one 1,.one 2,.one 3,.one 4,.one 5,.one 6,.one 7,.one 8,.one 9,.one 10,.one 11,.one 12,.one 13,.one 14,.one 15,.one 16]):WA Tryz.prog N (.region 11 l.toArray true) t m Q:=d_rgN h
theorem areadpart_no(w:List Txt)(hl:w.length≤1000)(hs:¬ ∃ nm dr r,w=nm::dr::r∧2≤r.length∧r.length % 2=0∧dr≠[])(m:Mem):Gives Tryz.prog 58 [.lst (xsV w)] m (rpV none):=by
  have hll:=xsV_length (l:=w)
  have hal:(xsV w).all (fun e=>e.length==1)=true:=by simp [xsV]
  suffices key:CallA Tryz.prog 58 [.lst (xsV w)] m (fun v mo=>mo=none∧WkV v (rpV none)) from Gives_ofX key fun v mo h=>h
  refine CallA_in Tryz.func58 rfl Tryz.ntmps58 Tryz.results58 (by kernel_rfl) (by simp) fun Q hQ=>?_
  by_cases h4:w.length<4
  · (have FX:=And.intro hll hal;repeat'(first|(refine sx ?_ ?_<;>intro h<;>first|(exfalso;omega)|skip)|refine ny ?_|refine WA_block ?_|(refine uU5_58_6 ?_;refine⟨by kernel_rfl,?_⟩)|(refine uU5_58_11 ?_;refine⟨by kernel_rfl,?_⟩)))
    all_goals(try(exfalso;omega))
    exact r_esA hQ (v':= .tup [.agg [.str [],.str [],.nilsl,.int .i64 0,.int .i64 0],.bool false]) (.inl ⟨rfl,rfl,wk_p0⟩)
  obtain⟨nm,dr,r,rfl⟩:∃ nm dr r,w=nm::dr::r:=by
    rcases w with _|⟨a,_|⟨b,r⟩⟩
    · simp at h4
    · simp at h4
    · exact⟨a,b,r,rfl⟩
  have hx1:(xsV (nm::dr::r))[1]?=some [.str dr]:=rfl
  have htm:=tmod2 (r.length+2)
  simp only [List.length_cons] at hll h4 hl
  by_cases hev:r.length % 2=0
  · have hd:dr=[]:=by
      refine Classical.byContradiction fun h=>hs ⟨nm,dr,r,rfl,by omega,hev,h⟩
    subst hd
    have hm2:(r.length+2) % 2=0:=by omega
    (have FX:=And.intro hll (And.intro hal (And.intro hx1 (And.intro htm hm2)));repeat'(first|(refine sx ?_ ?_<;>intro h<;>first|(exfalso;omega)|skip)|refine ny ?_|refine WA_block ?_|(refine uU5_58_6 ?_;refine⟨by kernel_rfl,?_⟩)|(refine uU5_58_11 ?_;refine⟨by kernel_rfl,?_⟩)))
    all_goals(try(exfalso;omega))
    all_goals first
      |exact r_esA hQ (v':= .tup [.agg [.str [],.str [],.nilsl,.int .i64 0,.int .i64 0],.bool false]) (.inl ⟨rfl,rfl,wk_p0⟩)
      |trace_state
  · have hm2:(r.length+2) % 2=1:=by omega
    (have FX:=And.intro hll (And.intro hal (And.intro hx1 (And.intro htm hm2)));repeat'(first|(refine sx ?_ ?_<;>intro h<;>first|(exfalso;omega)|skip)|refine ny ?_|refine WA_block ?_|(refine uU5_58_6 ?_;refine⟨by kernel_rfl,?_⟩)|(refine uU5_58_11 ?_;refine⟨by kernel_rfl,?_⟩)))
    all_goals(try(exfalso;omega))
    all_goals first
      |exact r_esA hQ (v':= .tup [.agg [.str [],.str [],.nilsl,.int .i64 0,.int .i64 0],.bool false]) (.inl ⟨rfl,rfl,wk_p0⟩)
      |trace_state
theorem frzs_cons{f:V→Option V}{v v':V}{r r':List V}(h1:f v=some v')(h2:frzs f r=some r'):frzs f (v::r)=some (v'::r'):=by simp only [frzs,h1,h2]
theorem frz_ls{m:Mem}{L n:Nat}{es:List (List V)}(h:plainLL es=true):frz m L n (.lst es)=some (.lst es):=frz_plain _ _ _ (by simpa [V.plain] using h) (by simp) (by simp) (by simp) (by simp)
theorem frz_nl{m:Mem}{L n:Nat}:frz m L n .nilsl=some .nilsl:=frz_plain _ _ _ rfl (by simp) (by simp) (by simp) (by simp)
theorem frz_st{m:Mem}{L n:Nat}{s:Txt}:frz m L n (.str s)=some (.str s):=frz_plain _ _ _ rfl (by simp) (by simp) (by simp) (by simp)
theorem frz_own{m0 D:Mem}{n j k:Nat}{st:Sta}{ty sz:Nat}{es:List (List V)}(hX:D[j]?=some (.cells st ty sz es))(hk:es.length=k)(hp:plainLL es=true):frz (lend m0++D) m0.length (n+1) (.sl ((lend m0).length+j) k)=some (.lst es):=by
  subst hk
  have h:=frz_sl (m0:=m0) (D:=[]) (X:=D) (n:=n) (j:=j) (k:=es.length) hX (Nat.le_refl _) (by rw [List.take_of_length_le (Nat.le_refl _)];exact hp)
  rw [List.take_of_length_le (Nat.le_refl _),List.append_nil] at h
  exact h
theorem fin_pt{m0 D:Mem}{nm dr:Txt}{v u:V}{a b:Int}{R:V→Option Mem→Prop}(h1:frz (lend m0++D) m0.length 2 v=some u)(h:R (.tup [.agg [.str nm,.str dr,u,.int .i64 a,.int .i64 b],.bool true]) none):Fin m0 R (.tup [.agg [.str nm,.str dr,v,.int .i64 a,.int .i64 b],.bool true]) (lend m0++D):=by
  refine .inr ⟨D,_,rfl,?_,h⟩
  show(frzs (frz _ _ 3) [_,_]).map V.tup=_
  have e:frz (lend m0++D) m0.length 3 (.agg [.str nm,.str dr,v,.int .i64 a,.int .i64 b])=some (.agg [.str nm,.str dr,u,.int .i64 a,.int .i64 b]):=by
    show(frzs (frz _ _ 2) _).map V.agg=_
    rw [frzs_cons frz_st (frzs_cons frz_st (frzs_cons h1 (frzs_cons (frz_int _ _ _ _ _) (frzs_cons (frz_int _ _ _ _ _) rfl))))]
    rfl
  rw [frzs_cons e (frzs_cons (frz_bool _ _ _ _) rfl)]
  rfl
theorem knP_snoc:∀ (n:Nat) (l:List Int) (x y:Int),l.length≤n→l.length % 2=0→knP (l++[x,y])=knP l++[((x,1),(y,1))]
  | 0,l,x,y,h,_=>by
    obtain rfl:l=[]:=List.length_eq_zero_iff.1 (by omega)
    rfl
  | n +1,l,x,y,h,h2=>by
    rcases l with _|⟨a,_|⟨b,r⟩⟩
    · rfl
    · simp at h2
    · simp only [List.length_cons] at h h2
      simp only [List.cons_append,knP,knP_snoc n r x y (by omega) (by omega)]
theorem take_two{ns:List Int}{k:Nat}(h:k+2≤ns.length):ns.take (k+2)=ns.take k++[ns.getD k 0,ns.getD (k+1) 0]:=by
  rw [show k+2=(k+1)+1 from rfl,List.take_succ_eq_append_getElem (show k+1<ns.length by omega),List.take_succ_eq_append_getElem (show k<ns.length by omega)]
  simp only [List.getD_eq_getElem?_getD,List.getElem?_eq_getElem (show k<ns.length by omega),List.getElem?_eq_getElem (show k+1<ns.length by omega),Option.getD_some,List.append_assoc,List.cons_append,List.nil_append]
/-- the memory of one who reads a part: its block, and its corners behind the loop's record -/
def rpI(m:Mem)(nm dr:Txt)(a b:Int)(ns:List Int)(LB:Blk)(k:Nat)(M:Mem):Prop:=∃ v X,M=lend m++(.cells .own 71 5 [[.str [],.str [],.nilsl,.int .i64 0,.int .i64 0]]:: .cells .own 71 5 [[.str nm,.str dr,v,.int .i64 a,.int .i64 b]]:: .cells .own 99 1 [[.lst (nsV ns)]]:: .cells .own 3 1 [[.int .i64 2]]::LB::X)∧slAt ((lend m).length+5) X 80 4 (rksV (knP (ns.take k))) v
theorem rp_round{m:Mem}{nm d:Txt}{a b:Int}{ks:List Int}{LB LL:Blk}{LD:Code→Blk}{k:Nat}{R':V→Option Mem→Prop}{v':V}{X' M:Mem}{A:Mem}{t':List (Nat×V)}(hR1:∀ M2,rpI m nm d a b ks LB (k+2) M2→R' (.bool true) (some M2))(hA:A.length=4)(hM:M=lend m++(.cells .own 71 5 [[.str [],.str [],.nilsl,.int .i64 0,.int .i64 0]]:: .cells .own 71 5 [[.str nm,.str d,v',.int .i64 a,.int .i64 b]]:: .cells .own 99 1 [[.lst (nsV ks)]]:: .cells .own 3 1 [[.int .i64 2]]::LL::X'))(hv:slAt ((lend m).length+5) X' 80 4 (rksV (knP (ks.take (k+2)))) v'):rndQ LB LL LD (lend m++A).length R' .normal t' M:=by
  subst hM
  refine rndQ_nrm (LL:=LL) (A:=lend m++[.cells .own 71 5 [[.str [],.str [],.nilsl,.int .i64 0,.int .i64 0]],.cells .own 71 5 [[.str nm,.str d,v',.int .i64 a,.int .i64 b]],.cells .own 99 1 [[.lst (nsV ks)]],.cells .own 3 1 [[.int .i64 2]]]) (X:=X') (by simp) (by simp [hA]) (hR1 _ ⟨v',X',by simp,hv⟩)
theorem areadpart_yes (nm dr:Txt) (r:List Txt) (hl:r.length≤1000) (hw:∀ x∈r,x.length≤100000) (h2:2≤r.length) (hev:r.length % 2=0) (hdr:dr≠[]) (m:Mem):Gives Tryz.prog 58 [.lst (xsV (nm::dr::r))] m (rpV (partP (nm::dr::r))):=by
  have hll:(xsV (nm::dr::r)).length=r.length+2:=by rw [xsV_length];rfl
  have hal:(xsV (nm::dr::r)).all (fun e=>e.length==1)=true:=by simp [xsV]
  have hx0:(xsV (nm::dr::r))[0]?=some [.str nm]:=rfl
  have hx1:(xsV (nm::dr::r))[1]?=some [.str dr]:=rfl
  have htm:=tmod2 (r.length+2)
  have hm2:(r.length+2) % 2=0:=by omega
  have hnu:=fun m=>anumbers_c r (by omega) (fun i hi=>hw _ (gdm hi)) m
  have hs1:List.take (((r.length+2:Nat):Int) - 2).toNat (List.drop 2 (xsV (nm::dr::r)))=xsV r:=by
    show List.take _ (xsV r)=_
    exact List.take_of_length_le (by rw [xsV_length];omega)
  have hpp:partP (nm::dr::r)=(numsP 7 r).map fun n=>⟨nm,if dr=[45] then [] else dr,knP (n.drop 2),n.getD 0 0,n.getD 1 0⟩:=by
    show(if 2≤r.length∧r.length % 2=0∧dr≠[] then _ else none)=_
    rw [if_pos ⟨h2,hev,hdr⟩]
  rw [hpp]
  suffices key:CallA Tryz.prog 58 [.lst (xsV (nm::dr::r))] m (fun v mo=>mo=none∧WkV v (rpV ((numsP 7 r).map fun n=>⟨nm,if dr=[45] then [] else dr,knP (n.drop 2),n.getD 0 0,n.getD 1 0⟩))) from Gives_ofX key fun v mo h=>h
  refine CallA_in Tryz.func58 rfl Tryz.ntmps58 Tryz.results58 (by kernel_rfl) (by simp) fun Q hQ=>?_
  (have FX:=And.intro hll (And.intro hal (And.intro hx0 (And.intro hx1 (And.intro htm (And.intro hm2 (And.intro h2 hl))))));repeat'(first|(refine sx ?_ ?_<;>intro h<;>first|(exfalso;omega)|skip)|refine ny ?_|refine WA_block ?_|(refine uU5_58_6 ?_;refine⟨by kernel_rfl,?_⟩)|(refine uU5_58_11 ?_;refine⟨by kernel_rfl,?_⟩)))
  all_goals(try(exfalso;first|omega|contradiction))
  rw [hs1]
  refine g_op ?_;refine g_call ?_;refine g_args ?_;refine s_fnA (hnu _) ?_
  rintro v mo ⟨rfl,rfl⟩
  simp only [Option.getD_none]
  cases hn:numsP 7 r with
  | none=>
    rw [hn] at hQ
    simp only [nbV]
    (have FX:=And.intro hll (And.intro hal (And.intro hx0 (And.intro hx1 (And.intro htm (And.intro hm2 (And.intro h2 hl))))));repeat'(first|(refine sx ?_ ?_<;>intro h<;>first|(exfalso;omega)|skip)|refine ny ?_|refine WA_block ?_|(refine uU5_58_6 ?_;refine⟨by kernel_rfl,?_⟩)|(refine uU5_58_11 ?_;refine⟨by kernel_rfl,?_⟩)))
    exact r_esA hQ (v':= .tup [.agg [.str [],.str [],.nilsl,.int .i64 0,.int .i64 0],.bool false]) (.inl ⟨rfl,rfl,wk_p0⟩)
  | some l=>
    rw [hn] at hQ
    have hlen:=numsP_len hn
    obtain⟨a,b,ks,rfl⟩:∃ a b ks,l=a::b::ks:=by
      rcases l with _|⟨a,_|⟨b,ks⟩⟩
      · simp at hlen;omega
      · simp at hlen;omega
      · exact⟨a,b,ks,rfl⟩
    clear hn hnu hpp
    obtain⟨d,hd⟩:∃ d:Txt,(if dr=[45] then [] else dr)=d:=⟨_,rfl⟩
    simp only [Option.map_some,hd,List.drop_succ_cons,List.drop_zero,List.getD_cons_zero,List.getD_cons_succ] at hQ
    simp only [List.length_cons] at hlen
    have hkl:ks.length % 2=0:=by omega
    have hln:(nsV (a::b::ks)).length=ks.length+2:=by rw [nsV_length];rfl
    have hna:(nsV (a::b::ks)).all (fun e=>e.length==1)=true:=nsV_all rfl
    have hn0:(nsV (a::b::ks))[0]?=some [.int .i64 a]:=rfl
    have hn1:(nsV (a::b::ks))[1]?=some [.int .i64 b]:=rfl
    have hs2:List.take (((ks.length+2:Nat):Int) - 2).toNat (List.drop 2 (nsV (a::b::ks)))=nsV ks:=by
      show List.take _ (nsV ks)=_
      exact List.take_of_length_le (by rw [nsV_length];omega)
    simp only [nbV]
    clear FX
    (have FX:=And.intro hll (And.intro hal (And.intro hx0 (And.intro hx1 (And.intro h2 (And.intro hl (And.intro hln (And.intro hna (And.intro hn0 hn1))))))));repeat'(first|(refine sx ?_ ?_<;>intro h<;>first|(exfalso;omega)|skip)|refine ny ?_|refine WA_block ?_|(refine uU5_58_6 ?_;refine⟨by kernel_rfl,?_⟩)|(refine uU5_58_11 ?_;refine⟨by kernel_rfl,?_⟩)))
    all_goals rw [hs2]
    all_goals(
      refine g_op ?_;refine g_call ?_;refine g_args ?_;refine s_fnA (xchunk_o ks _) ?_
      rintro v mo ⟨rfl,rfl⟩
      simp only [Option.getD_some]
      (have FX:=And.intro hll (And.intro hal (And.intro hx0 (And.intro hx1 (And.intro h2 (And.intro hl (And.intro hln (And.intro hna (And.intro hn0 hn1))))))));repeat'(first|(refine sx ?_ ?_<;>intro h<;>first|(exfalso;omega)|skip)|refine ny ?_|refine WA_block ?_|(refine uU5_58_6 ?_;refine⟨by kernel_rfl,?_⟩)|(refine uU5_58_11 ?_;refine⟨by kernel_rfl,?_⟩))))
    all_goals first
      |rw [show(Blk.cells .own 71 5 [[.str nm,.str [],.nilsl,.int .i64 a,.int .i64 b]])=Blk.cells .own 71 5 [[.str nm,.str d,.nilsl,.int .i64 a,.int .i64 b]] by rw [←hd,if_pos h]]
      |rw [show(Blk.cells .own 71 5 [[.str nm,.str dr,.nilsl,.int .i64 a,.int .i64 b]])=Blk.cells .own 71 5 [[.str nm,.str d,.nilsl,.int .i64 a,.int .i64 b]] by rw [←hd,if_neg h]]
    all_goals have hl2:∀ x y:Blk,(lend m++[x,y]).length=(lend m).length+2:=by intros;simp
    all_goals simp only [hl2,List.append_assoc,List.cons_append,List.nil_append]
    all_goals clear FX
    all_goals (
      refine WA_rfA (fun m'=>rpI m nm d a b ks .dead ks.length m') (fun c m'=>False) (fun lp LB LL LD hY=>?_) (fun m' hm=>?_) (fun c m' hm=>hm.elim)
      · refine xchunk1 lp ((lend m).length+2) _ ks (by omega) hkl _ (fun k M=>rpI m nm d a b ks LB k M) ⟨.nilsl,[],by simp,.inl ⟨rfl,rfl⟩⟩ ?_ ?_ ?_
        · rintro k M' ⟨v,X,rfl, -⟩
          exact⟨by simp,by show(_:Mem)[(lend m).length+3]?=_;simp⟩
        · rintro M' ⟨v,X,rfl,hv⟩
          refine⟨_,rfl,.inl ⟨?_,v,X,?_,hv⟩⟩<;>simp
        · rintro k M' hk2 hkm ⟨v,X,rfl,hv⟩ R' hR1
          have hsp:lend m++(.cells .own 71 5 [[.str [],.str [],.nilsl,.int .i64 0,.int .i64 0]]:: .cells .own 71 5 [[.str nm,.str d,v,.int .i64 a,.int .i64 b]]:: .cells .own 99 1 [[.lst (nsV ks)]]:: .cells .own 3 1 [[.int .i64 2]]::LB::X)=(lend m++[.cells .own 71 5 [[.str [],.str [],.nilsl,.int .i64 0,.int .i64 0]],.cells .own 71 5 [[.str nm,.str d,v,.int .i64 a,.int .i64 b]],.cells .own 99 1 [[.lst (nsV ks)]],.cells .own 3 1 [[.int .i64 2]]])++LB::X:=by simp
          rw [hsp]
          refine hY _ _ _ R' rfl ?_
          simp only [setPs,List.append_assoc,List.cons_append,List.nil_append]
          (have FX:=hkl;repeat'(first|(refine sx ?_ ?_<;>intro h<;>first|(exfalso;omega)|skip)|(refine g_op ?_;refine g_call ?_;refine g_args ?_;(first|refine s_fn (awhole_c _ _) ?_)<;>try first|omega|assumption)|refine ny ?_|refine WA_block ?_|(refine uU5_58_6 ?_;refine⟨by kernel_rfl,?_⟩)|(refine uU5_58_11 ?_;refine⟨by kernel_rfl,?_⟩)|((first|refine grp_cons (fun _=>awhole_c _ _) ?_)<;>try first|omega|assumption)|(refine g_d ?_;refine d_args ?_;(first|refine d_fn (awhole_c _ _) ?_|refine d_fnQ (fun _=>awhole_c _ _) ?_)<;>try first|omega|assumption)|(refine g_d ?_;(first|refine d_fnY (awhole_c _ _) ?_)<;>try first|omega|assumption)))
          refine⟨rfl,by simp,?_⟩
          have hkn:=knP_snoc _ (ks.take k) (ks.getD k 0) (ks.getD (k+1) 0) (Nat.le_refl _) (by rw [List.length_take];omega)
          rw [←take_two hk2] at hkn
          generalize ks.getD k 0=x at *
          generalize ks.getD (k+1) 0=y at *
          clear FX
          rcases hv with ⟨rfl,hv⟩|⟨j,rfl,hv1,hv2⟩
          · (have FX:=hkl;repeat'(first|(refine sx ?_ ?_<;>intro h<;>first|(exfalso;omega)|skip)|(refine g_op ?_;refine g_call ?_;refine g_args ?_;(first|refine s_fn (awhole_c _ _) ?_)<;>try first|omega|assumption)|refine ny ?_|refine WA_block ?_|(refine uU5_58_6 ?_;refine⟨by kernel_rfl,?_⟩)|(refine uU5_58_11 ?_;refine⟨by kernel_rfl,?_⟩)|((first|refine grp_cons (fun _=>awhole_c _ _) ?_)<;>try first|omega|assumption)|(refine g_d ?_;refine d_args ?_;(first|refine d_fn (awhole_c _ _) ?_|refine d_fnQ (fun _=>awhole_c _ _) ?_)<;>try first|omega|assumption)|(refine g_d ?_;(first|refine d_fnY (awhole_c _ _) ?_)<;>try first|omega|assumption)))
            refine rp_round hR1 rfl rfl (.inr ⟨X.length+1,?_,?_,?_⟩)
            · rw [hkn,List.map_eq_nil_iff.1 hv]
              simp [rksV]
              omega
            · rw [hkn];simp [rksV]
            · rw [hkn,List.map_eq_nil_iff.1 hv];simp [rksV,rkV]
          · have hjl:=(List.getElem?_eq_some_iff.1 hv2).1
            have hgj:∀ Y:Mem,(X++Y)[j]?=some (.cells .own 80 4 (rksV (knP (ks.take k)))):=fun Y=>by rw [List.getElem?_append_left hjl];exact hv2
            have hsj:∀ (Y:Mem) (z:Blk),(X++Y).set j z=X.set j z++Y:=fun Y z=>List.set_append_left _ _ hjl
            have hlc:=rksV_length (l:=knP (ks.take k))
            have hkl2:(knP (ks.take k)).length≤1000:=Nat.le_trans (knP_len _ _ (Nat.le_refl _)) (by rw [List.length_take];omega)
            have hlt:(rksV (knP (ks.take k))).take (knP (ks.take k)).length=rksV (knP (ks.take k)):=List.take_of_length_le (by rw [hlc];exact Nat.le_refl _)
            rw [hlc,show(lend m).length+5+j=(lend m).length+(j+5) by omega,show X=X++[] from(List.append_nil _).symm]
            (have FX:=And.intro hgj (And.intro hsj (And.intro hlc (And.intro hlt hkl2)));repeat'(first|(refine sx ?_ ?_<;>intro h<;>first|(exfalso;omega)|skip)|(refine g_op ?_;refine g_call ?_;refine g_args ?_;(first|refine s_fn (awhole_c _ _) ?_)<;>try first|omega|assumption)|refine ny ?_|refine WA_block ?_|(refine uU5_58_6 ?_;refine⟨by kernel_rfl,?_⟩)|(refine uU5_58_11 ?_;refine⟨by kernel_rfl,?_⟩)|((first|refine grp_cons (fun _=>awhole_c _ _) ?_)<;>try first|omega|assumption)|(refine g_d ?_;refine d_args ?_;(first|refine d_fn (awhole_c _ _) ?_|refine d_fnQ (fun _=>awhole_c _ _) ?_)<;>try first|omega|assumption)|(refine g_d ?_;(first|refine d_fnY (awhole_c _ _) ?_)<;>try first|omega|assumption)))
            refine rp_round hR1 rfl rfl (.inr ⟨X.length+1,?_,?_,?_⟩)
            · rw [hkn]
              simp [rksV]
              omega
            · rw [hkn];simp [rksV]
            · rw [hkn];simp [rksV,rkV]
      · obtain⟨v,X,rfl,hv⟩:=hm
        rw [List.take_of_length_le (Nat.le_refl _)] at hv
        refine qB_normal ?_
        refine qT_normal ?_
        rcases hv with ⟨rfl,hv⟩|⟨j,rfl,hv1,hv2⟩
        · (have FX:=hkl;repeat'(first|(refine sx ?_ ?_<;>intro h<;>first|(exfalso;omega)|skip)|(refine g_op ?_;refine g_call ?_;refine g_args ?_;(first|refine s_fn (awhole_c _ _) ?_)<;>try first|omega|assumption)|refine ny ?_|refine WA_block ?_|(refine uU5_58_6 ?_;refine⟨by kernel_rfl,?_⟩)|(refine uU5_58_11 ?_;refine⟨by kernel_rfl,?_⟩)|((first|refine grp_cons (fun _=>awhole_c _ _) ?_)<;>try first|omega|assumption)|(refine g_d ?_;refine d_args ?_;(first|refine d_fn (awhole_c _ _) ?_|refine d_fnQ (fun _=>awhole_c _ _) ?_)<;>try first|omega|assumption)|(refine g_d ?_;(first|refine d_fnY (awhole_c _ _) ?_)<;>try first|omega|assumption)))
          exact r_esA hQ (v':= .tup [.agg [.str nm,.str d,.nilsl,.int .i64 a,.int .i64 b],.bool true]) (fin_pt frz_nl ⟨rfl,wk_tup ⟨show WkV _ (.agg [.str nm,.str d,.lst (rksV (knP ks)),.int .i64 a,.int .i64 b]) from wk_agg ⟨WkV.refl _,WkV.refl _,hv ▸ wk_nil,WkV.refl _,WkV.refl _,trivial⟩,WkV.refl _,trivial⟩⟩)
        · rw [rksV_length,show(lend m).length+5+j=(lend m).length+(j+5) by omega,show X=X++[] from(List.append_nil _).symm]
          (have FX:=hkl;repeat'(first|(refine sx ?_ ?_<;>intro h<;>first|(exfalso;omega)|skip)|(refine g_op ?_;refine g_call ?_;refine g_args ?_;(first|refine s_fn (awhole_c _ _) ?_)<;>try first|omega|assumption)|refine ny ?_|refine WA_block ?_|(refine uU5_58_6 ?_;refine⟨by kernel_rfl,?_⟩)|(refine uU5_58_11 ?_;refine⟨by kernel_rfl,?_⟩)|((first|refine grp_cons (fun _=>awhole_c _ _) ?_)<;>try first|omega|assumption)|(refine g_d ?_;refine d_args ?_;(first|refine d_fn (awhole_c _ _) ?_|refine d_fnQ (fun _=>awhole_c _ _) ?_)<;>try first|omega|assumption)|(refine g_d ?_;(first|refine d_fnY (awhole_c _ _) ?_)<;>try first|omega|assumption)))
          refine r_esA hQ (v':= .tup [.agg [.str nm,.str d,.sl ((lend m).length+(j+5)) (knP ks).length,.int .i64 a,.int .i64 b],.bool true]) (fin_pt (frz_own (n:=1) (st:= .own) (ty:=80) (sz:=4) (es:=rksV (knP ks)) ?_ rksV_length (rksV_plain _)) ⟨rfl,WkV.refl _⟩)
          simpa using hv2)
theorem areadpart_c (w:List Txt) (hl:w.length≤1000) (hw:∀ x∈w,x.length≤100000) (m:Mem):Gives Tryz.prog 58 [.lst (xsV w)] m (rpV (partP w)):=by
  by_cases hs:∃ nm dr r,w=nm::dr::r∧2≤r.length∧r.length % 2=0∧dr≠[]
  · obtain⟨nm,dr,r,rfl,h1,h2,h3⟩:=hs
    exact areadpart_yes nm dr r (by simp only [List.length_cons] at hl;omega) (fun x hx=>hw x (by simp [hx])) h1 h2 h3 m
  · have e:partP w=none:=by
      rcases w with _|⟨nm,_|⟨dr,r⟩⟩
      · rfl
      · rfl
      · show(if 2≤r.length∧r.length % 2=0∧dr≠[] then _ else none)=_
        rw [if_neg fun q=>hs ⟨nm,dr,r,rfl,q⟩]
    rw [e]
    exact areadpart_no w hl hs m
end Go.Proofs.YtomkbpoicjabfaaGreatDoor
