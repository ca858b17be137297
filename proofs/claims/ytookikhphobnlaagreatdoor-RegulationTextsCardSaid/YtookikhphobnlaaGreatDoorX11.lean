/- contracts: the reference reads an adjustment -/
import Derived.Test.YtookikhphobnlaaGreatDoorGAF
import Derived.Test.YtookikhphobnlaaGreatDoorB9
set_option linter.unusedSimpArgs false
set_option linter.unusedVariables false
namespace Go.Proofs.YtookikhphobnlaaGreatDoor
open Go.RowKit
attribute [local irreducible] WA WOs WDs WAn qThen qBlock tput
set_option maxHeartbeats 1000000
set_option maxRecDepth 20000
set_option linter.unusedSimpArgs false
set_option linter.unusedVariables false
set_option maxHeartbeats 4000000
def adX:List EfR→List TB
  |[]=>[]
  |p::q=>[.cells .own 83 2 ((efsV (p::q)).map (List.map TV.v))]
def adS:List EfR→TV
  |[]=> .v .nilsl
  |_::q=> .sl 3 (q.length+1)
def adE(nm:Txt)(x y z:Int)(l:List EfR):List TB:=[.cells .own 78 6 [[.v (.str []),.v .nilsl,.v (.int .i64 0),.v (.int .i64 0),.v (.int .i64 0),.v .nilsl]],.cells .own 71 3 [[.v (.int .i64 x),.v (.int .i64 y),.v (.int .i64 z)]],.cells .own 78 6 [[.v (.str nm),adS l,.v (.int .i64 x),.v (.int .i64 y),.v (.int .i64 z),.v .nilsl]]]++adX l
def axT(ws:List Txt)(k:Nat):List TV:=[.v (.lst (xsV ws)),.ptr 0 0 0,.v (.bool false),.ptr 2 0 0,.v (.int .i64 k)]
theorem adE_ok{nm:Txt}{x y z:Int}{l:List EfR}:(adE nm x y z l).all (TB.ok (adE nm x y z l).length)=true:=by
  cases l with
  |nil=>rfl
  |cons p q=>simp [adE,adX,adS,TB.ok,TV.okT,tv_ok]
theorem axT_ok{nm:Txt}{x y z:Int}{l:List EfR}{ws:List Txt}{k:Nat}:(axT ws k).all (TV.okT (adE nm x y z l).length)=true:=by
  cases l<;>simp [axT,adE,adX,TV.okT]
def nmX:List Txt→List TB
  |[]=>[]
  |p::q=>[.cells .own 9 1 ((tsV (p::q)).map (List.map TV.v))]
def nmS(j:Nat):List Txt→TV
  |[]=> .v .nilsl
  |_::q=> .sl j (q.length+1)
def ad2E(nm:Txt)(x y z:Int)(l:List EfR)(ns:List Txt):List TB:=[.cells .own 78 6 [[.v (.str []),.v .nilsl,.v (.int .i64 0),.v (.int .i64 0),.v (.int .i64 0),.v .nilsl]],.cells .own 71 3 [[.v (.int .i64 x),.v (.int .i64 y),.v (.int .i64 z)]],.cells .own 78 6 [[.v (.str nm),adS l,.v (.int .i64 x),.v (.int .i64 y),.v (.int .i64 z),nmS (3+(adX l).length) ns]]]++(adX l++nmX ns)
theorem ad2E_ok{nm:Txt}{x y z:Int}{l:List EfR}{ns:List Txt}:(ad2E nm x y z l ns).all (TB.ok (ad2E nm x y z l ns).length)=true:=by
  cases l with
  | nil=>cases ns with
    |nil=>rfl
    |cons p q=>simp [ad2E,adX,adS,nmX,nmS,TB.ok,TV.okT,tv_ok]
  | cons a b=>cases ns with
    |nil=>simp [ad2E,adX,adS,nmX,nmS,TB.ok,TV.okT,tv_ok]
    |cons p q=>simp [ad2E,adX,adS,nmX,nmS,TB.ok,TV.okT,tv_ok]
theorem ad2T_ok{nm:Txt}{x y z:Int}{l:List EfR}{ns:List Txt}{ws:List Txt}{k:Nat}:(axT ws k).all (TV.okT (ad2E nm x y z l ns).length)=true:=by
  cases l<;>cases ns<;>simp [axT,ad2E,adX,nmX,TV.okT]
theorem tsV_snocT(w:Txt)(l:List Txt)(x:Txt):tsV (w::(l++[x]))=tsV (w::l)++[[V.str x]]:=by simp [tsV]
theorem tsV_one(x:Txt):tsV [x]=[[V.str x]]:=rfl
theorem efsV_snocT(l:List EfR)(e:EfR):efsV (l++[e])=efsV l++[efV e]:=by simp [efsV]
/-- a value that freezes to a list -/
def FzW(m:Mem)(L:Nat)(v:V)(es:List (List V)):Prop:=∃ u,frz m L 2 v=some u∧WkV u (.lst es)
theorem fzw_nil{m:Mem}{L:Nat}:FzW m L .nilsl []:=⟨.nilsl,frz_nl,wk_nil⟩
theorem fzw_own{m0 D X B:Mem}{j k:Nat}{st:Sta}{ty sz:Nat}{es:List (List V)}(hB:B=lend m0++D)(hX:X[j]?=some (.cells st ty sz es))(hk:es.length=k)(hp:plainLL es=true):FzW (B++X) m0.length (.sl (B.length+j) k) es:=by
  subst hB
  exact⟨_,frz_own (n:=1) hX hk hp,WkV.refl _⟩
theorem frz_st{m:Mem}{L n:Nat}{s:Txt}:frz m L n (.str s)=some (.str s):=frz_plain _ _ _ rfl (by simp) (by simp) (by simp) (by simp)
theorem fin_ad{m0 D X B:Mem}{nm:Txt}{l:List EfR}{x y z:Int}{ns:List Txt}{b:Bool}{v1 v2:V}{R:V→Option Mem→Prop}(hB:B=lend m0++D)(h1:FzW (B++X) m0.length v1 (efsV l))(h2:FzW (B++X) m0.length v2 (tsV ns))(hR:∀ v,WkV v (.tup [.agg (adV ⟨nm,l,x,y,z,ns⟩),.bool b])→R v none):Fin m0 R (.tup [.agg [.str nm,v1,.int .i64 x,.int .i64 y,.int .i64 z,v2],.bool b]) (B++X):=by
  obtain⟨u1,g1,w1⟩:=h1
  obtain⟨u2,g2,w2⟩:=h2
  refine .inr ⟨D++X,.tup [.agg [.str nm,u1,.int .i64 x,.int .i64 y,.int .i64 z,u2],.bool b],by rw [hB,List.append_assoc],?_,hR _ (wk_tup ⟨wk_agg ⟨WkV.refl _,w1,WkV.refl _,WkV.refl _,WkV.refl _,w2,trivial⟩,WkV.refl _,trivial⟩)⟩
  show(frzs (frz _ _ 3) [_,_]).map V.tup=_
  have e:frz (B++X) m0.length 3 (.agg [.str nm,v1,.int .i64 x,.int .i64 y,.int .i64 z,v2])=some (.agg [.str nm,u1,.int .i64 x,.int .i64 y,.int .i64 z,u2]):=by
    show(frzs (frz _ _ 2) _).map V.agg=_
    rw [frzs_cons frz_st (frzs_cons g1 (frzs_cons (frz_int _ _ _ _ _) (frzs_cons (frz_int _ _ _ _ _) (frzs_cons (frz_int _ _ _ _ _) (frzs_cons g2 rfl)))))]
    rfl
  rw [frzs_cons e (frzs_cons (frz_bool _ _ _ _) rfl)]
  rfl
theorem uX11_33_6{N:Nat}{l:List Oper}{t:List (Nat×V)}{m:Mem}{Q:Exit→List (Nat×V)→Mem→Prop}(h:RgN Tryz.prog N l t m Q (fun i=>if i==11 then .f else if i==10 then .a else if i==2 || i==4 || i==6 || i==8 then .q else .p) [.one 0,.one 1,.one 2,.one 3,.one 4,.one 5,.one 6,.one 7,.one 8,.one 9,.one 10,.one 11]):WA Tryz.prog N (.region 6 l.toArray true) t m Q:=d_rgN h
theorem uX11_33_12{N:Nat}{l:List Oper}{t:List (Nat×V)}{m:Mem}{Q:Exit→List (Nat×V)→Mem→Prop}(h:RgN Tryz.prog N l t m Q (fun i=>if i==10 || i==12 then .w else if i==9 then .a else if i==1 || i==6 then .q else .p) [.one 0,.one 1,.one 2,.one 3,.one 4,.one 5,.one 6,.one 7,.one 8,.one 9,.one 10,.one 11,.one 12]):WA Tryz.prog N (.region 12 l.toArray true) t m Q:=d_rgN h
theorem uX11_33_15{N:Nat}{l:List Oper}{t:List (Nat×V)}{m:Mem}{Q:Exit→List (Nat×V)→Mem→Prop}(h:RgN Tryz.prog N l t m Q (fun i=>if i==8 || i==10 then .w else if i==7 then .a else if i==1 || i==6 then .q else .p) [.one 0,.one 1,.one 2,.one 3,.one 4,.one 5,.one 6,.one 7,.one 8,.one 9,.one 10]):WA Tryz.prog N (.region 15 l.toArray true) t m Q:=d_rgN h
theorem radjust_c (o nm a b c:Txt) (r:List Txt) (hr:r.length≤100000) (hw:∀ x∈o::nm::a::b::c::r,x.length≤100000) (m:Mem):Gives Tryz.prog 33 [.lst (xsV (o::nm::a::b::c::r))] m (.tup [.agg (adV (adjT (nm::a::b::c::r)).1),.bool (adjT (nm::a::b::c::r)).2]):=by
  have hll:(xsV (o::nm::a::b::c::r)).length=r.length+5:=by rw [xsV_length];rfl
  have hal:(xsV (o::nm::a::b::c::r)).all (fun e=>e.length==1)=true:=by simp [xsV]
  have hx1:(xsV (o::nm::a::b::c::r))[1]?=some [.str nm]:=rfl
  suffices key:CallA Tryz.prog 33 [.lst (xsV (o::nm::a::b::c::r))] m (fun v mo=>mo=none∧WkV v (.tup [.agg (adV (adjT (nm::a::b::c::r)).1),.bool (adjT (nm::a::b::c::r)).2])) from Gives_ofX key fun v mo h=>h
  refine CallA_in Tryz.func33 rfl Tryz.ntmps33 Tryz.results33 (by kernel_rfl) (by simp) fun Q hQ=>?_
  (have FX:=And.intro hll (And.intro hal hx1);repeat'(first|(refine sx ?_ ?_<;>intro h<;>first|(exfalso;omega)|skip)|refine ny ?_|refine WA_block ?_|(refine uX11_33_6 ?_;refine⟨by kernel_rfl,?_⟩)|(refine uX11_33_12 ?_;refine⟨by kernel_rfl,?_⟩)|(refine uX11_33_15 ?_;refine⟨by kernel_rfl,?_⟩)))
  all_goals(try(exfalso;omega))
  have ha:=hw a (by simp)
  have hb:=hw b (by simp)
  have hc:=hw c (by simp)
  refine g_op ?_;refine g_call ?_;refine g_args ?_;refine s_fnA (rthree_c a b c ha hb hc _) ?_
  rintro v mo ⟨rfl,x,y,z,rfl,hn⟩
  simp only [Option.getD_none]
  cases hnn:numsP 7 [a,b,c] with
  | none=>
    have hat:adjT (nm::a::b::c::r)=(adz,false):=by simp only [adjT,hnn]
    rw [hat] at hQ
    simp only [Option.isSome,decide_true,decide_false,Bool.false_eq_true]
    (have FX:=And.intro hll (And.intro hal hx1);repeat'(first|(refine sx ?_ ?_<;>intro h<;>first|(exfalso;omega)|skip)|refine ny ?_|refine WA_block ?_|(refine uX11_33_6 ?_;refine⟨by kernel_rfl,?_⟩)|(refine uX11_33_12 ?_;refine⟨by kernel_rfl,?_⟩)|(refine uX11_33_15 ?_;refine⟨by kernel_rfl,?_⟩)))
    exact r_esA hQ (v':= .tup [.agg [.str [],.nilsl,.int .i64 0,.int .i64 0,.int .i64 0,.nilsl],.bool false]) (.inl ⟨rfl,rfl,wk_tup ⟨show WkV _ (.agg [.str [],.lst [],.int .i64 0,.int .i64 0,.int .i64 0,.lst []]) from wk_agg ⟨WkV.refl _,wk_nil,WkV.refl _,WkV.refl _,WkV.refl _,wk_nil,trivial⟩,WkV.refl _,trivial⟩⟩)
  | some l =>
    obtain rfl:=hn l hnn
    simp only [Option.isSome,decide_true,decide_false,Bool.false_eq_true]
    (have FX:=And.intro hll (And.intro hal hx1);repeat'(first|(refine sx ?_ ?_<;>intro h<;>first|(exfalso;omega)|skip)|refine ny ?_|refine WA_block ?_|(refine uX11_33_6 ?_;refine⟨by kernel_rfl,?_⟩)|(refine uX11_33_12 ?_;refine⟨by kernel_rfl,?_⟩)|(refine uX11_33_15 ?_;refine⟨by kernel_rfl,?_⟩)))
    have hm2:∀ x∈o::nm::a::b::c::r,x.length≤100000:=hw
    have hw0:(o::nm::a::b::c::r).length=r.length+5:=by simp
    have hd5:(o::nm::a::b::c::r).drop 5=r:=rfl
    have hxg:=fun i (h:i<(o::nm::a::b::c::r).length)=>xsV_get h
    clear hx1 hw ha hb hc FX
    simp only [adjT,hnn,List.getD_cons_zero,List.getD_cons_succ] at hQ
    rw [←hd5] at hQ
    clear hd5
    generalize o::nm::a::b::c::r=ws at *
    refine WA_whileT (σ:=Nat×List EfR) (L:=lend m) [0,2,3,6,7] (fun s=>axT ws s.1) (fun s=>adE nm x y z s.2) (fun s=>(5≤s.1∧s.1≤ws.length)∧s.2.length≤s.1∧onP (ws.drop 5)=(onP (ws.drop s.1)).map fun p=>(s.2++p.1,p.2)) (fun s=>ws.length - s.1) (5,[]) ⟨⟨Nat.le_refl _,by dsimp only;omega⟩,Nat.zero_le _,by dsimp only;cases onP (ws.drop 5)<;>rfl⟩ (by simp only [axT,adE,adX,List.map_cons,List.map_nil,TV.inst];exact tv_) rfl (by decide) (fun _ _=>axT_ok) (fun _ _=>adE_ok) ?_
    rintro⟨k,l⟩ ⟨⟨hk5,hkl⟩,hlk,hon⟩ B ⟨D,hB⟩ K hK
    dsimp only at hk5 hkl hlk hon
    clear FX
    by_cases hex:k+2<ws.length∧ws.getD k []=onT
    · obtain⟨hk2,hkn⟩:=hex
      have hg0:=hxg k (by omega)
      have hg1:=hxg (k+1) (by omega)
      have hg2:=hxg (k+2) hk2
      rw [onP_at hk2,if_pos hkn] at hon
      have hl2:(ws.getD (k+2) []).length≤100000:=hm2 _ (by rw [List.getD_eq_getElem?_getD,List.getElem?_eq_getElem hk2];exact List.getElem_mem _)
      rw [hkn] at hg0
      unfold onT at hg0
      have hq2:((k:Int)+2).toNat=k+2:=by omega
      have hq1:((k:Int)+1).toNat=k+1:=by omega
      rcases l with _|⟨e,q⟩
      · simp only [axT,adE,adX,adS]
        simp only [List.map_cons,List.map_nil,TB.inst,TV.inst,tv_map,zipT,List.cons_append,List.nil_append,Nat.add_zero]
        (have FX:=And.intro hll (And.intro hal (And.intro hg0 (And.intro hg1 (And.intro hg2 (And.intro hq1 hq2)))));repeat'(first|(refine sx ?_ ?_<;>intro h<;>first|(exfalso;omega)|skip)|refine ny ?_|refine WA_block ?_|(refine uX11_33_6 ?_;refine⟨by kernel_rfl,?_⟩)|(refine uX11_33_12 ?_;refine⟨by kernel_rfl,?_⟩)|(refine uX11_33_15 ?_;refine⟨by kernel_rfl,?_⟩)))
        all_goals(try(exfalso;omega))
        refine g_op ?_;refine g_call ?_;refine g_args ?_;refine s_fnA (bnum7_c (ws.getD (k+2) []) hl2 _) ?_
        rintro v mo ⟨rfl,n,rfl,hnx⟩
        simp only [Option.getD_none]
        obtain⟨w2,hy⟩:∃ w2,numP 7 (ws.getD (k+2) [])=w2:=⟨_,rfl⟩
        rw [hy] at hnx hon ⊢
        rcases w2 with _|w2
        all_goals simp only [Option.isSome,decide_true,decide_false,Bool.false_eq_true]
        all_goals(have FX:=And.intro hll (And.intro hal (And.intro hg0 (And.intro hg1 (And.intro hg2 (And.intro hq1 hq2)))));repeat'(first|(refine sx ?_ ?_<;>intro h<;>first|(exfalso;omega)|skip)|refine ny ?_|refine WA_block ?_|(refine uX11_33_6 ?_;refine⟨by kernel_rfl,?_⟩)|(refine uX11_33_12 ?_;refine⟨by kernel_rfl,?_⟩)|(refine uX11_33_15 ?_;refine⟨by kernel_rfl,?_⟩)))
        · rw [show onP (ws.drop 5)=none from hon] at hQ
          exact r_esA hQ (v':= .tup [.agg [.str [],.nilsl,.int .i64 0,.int .i64 0,.int .i64 0,.nilsl],.bool false]) (.inl ⟨rfl,rfl,wk_tup ⟨show WkV _ (.agg [.str [],.lst [],.int .i64 0,.int .i64 0,.int .i64 0,.lst []]) from wk_agg ⟨WkV.refl _,wk_nil,WkV.refl _,WkV.refl _,WkV.refl _,wk_nil,trivial⟩,WkV.refl _,trivial⟩⟩)
        · obtain rfl:=hnx _ rfl
          have hnz:=fun(_:Unit)=>hK (k+3,[⟨ws.getD (k+1) [],n⟩])
          have hon2:onP (ws.drop 5)=(onP (ws.drop (k+3))).map fun p=>([⟨ws.getD (k+1) [],n⟩]++p.1,p.2):=by rw [hon];cases onP (ws.drop (k+3))<;>rfl
          (refine nextU_ hnz (()) [0,1,2,4] (⟨⟨by dsimp only;omega,by dsimp only;omega⟩,by simp,hon2⟩) (by dsimp only;omega) ?_ (ht:=?_);(focus (simp only [adE,adX,adS,efsV,efV,List.length_nil,Nat.zero_add,List.map_cons,List.map_nil,TB.inst,TV.inst,tv_map,List.cons_append,List.nil_append];first|rfl|(simp [ptsV,ptV];done)|(simp [hpsV,hpV];done)|(simp [frsV,frV];done)|(simp [txV];done)|(simp [prtsV,prtV];done)));(simp only [axT,List.map_cons,List.map_nil,TV.inst,List.getD_cons_zero,List.getD_cons_succ];exact tv_))
      · simp only [List.length_cons] at hlk
        have hll2:(efsV (e::q)).length=q.length+1:=by simp [efsV]
        have hlt2:(efsV (e::q)).take (q.length+1)=efsV (e::q):=List.take_of_length_le (by rw [hll2];exact Nat.le_refl _)
        have hlw:ws.length≤100005:=by omega
        simp only [axT,adE,adX,adS]
        simp only [List.map_cons,List.map_nil,TB.inst,TV.inst,tv_map,zipT,List.cons_append,List.nil_append,Nat.add_zero]
        (have FX:=And.intro hll (And.intro hal (And.intro hg0 (And.intro hg1 (And.intro hg2 (And.intro hq1 (And.intro hq2 (And.intro hll2 (And.intro hlt2 (And.intro hlk (And.intro hkl hlw))))))))));repeat'(first|(refine sx ?_ ?_<;>intro h<;>first|(exfalso;omega)|skip)|refine ny ?_|refine WA_block ?_|(refine uX11_33_6 ?_;refine⟨by kernel_rfl,?_⟩)|(refine uX11_33_12 ?_;refine⟨by kernel_rfl,?_⟩)|(refine uX11_33_15 ?_;refine⟨by kernel_rfl,?_⟩)))
        all_goals(try(exfalso;omega))
        refine g_op ?_;refine g_call ?_;refine g_args ?_;refine s_fnA (bnum7_c (ws.getD (k+2) []) hl2 _) ?_
        rintro v mo ⟨rfl,n,rfl,hnx⟩
        simp only [Option.getD_none]
        obtain⟨w2,hy⟩:∃ w2,numP 7 (ws.getD (k+2) [])=w2:=⟨_,rfl⟩
        rw [hy] at hnx hon ⊢
        rcases w2 with _|w2
        all_goals simp only [Option.isSome,decide_true,decide_false,Bool.false_eq_true]
        all_goals(have FX:=And.intro hll (And.intro hal (And.intro hg0 (And.intro hg1 (And.intro hg2 (And.intro hq1 (And.intro hq2 (And.intro hll2 (And.intro hlt2 (And.intro hlk (And.intro hkl hlw))))))))));repeat'(first|(refine sx ?_ ?_<;>intro h<;>first|(exfalso;omega)|skip)|refine ny ?_|refine WA_block ?_|(refine uX11_33_6 ?_;refine⟨by kernel_rfl,?_⟩)|(refine uX11_33_12 ?_;refine⟨by kernel_rfl,?_⟩)|(refine uX11_33_15 ?_;refine⟨by kernel_rfl,?_⟩)))
        · rw [show onP (ws.drop 5)=none from hon] at hQ
          exact r_esA hQ (v':= .tup [.agg [.str [],.nilsl,.int .i64 0,.int .i64 0,.int .i64 0,.nilsl],.bool false]) (.inl ⟨rfl,rfl,wk_tup ⟨show WkV _ (.agg [.str [],.lst [],.int .i64 0,.int .i64 0,.int .i64 0,.lst []]) from wk_agg ⟨WkV.refl _,wk_nil,WkV.refl _,WkV.refl _,WkV.refl _,wk_nil,trivial⟩,WkV.refl _,trivial⟩⟩)
        · obtain rfl:=hnx _ rfl
          have hnz:=fun(_:Unit)=>hK (k+3,e::(q++[⟨ws.getD (k+1) [],n⟩]))
          have hsn:efsV (e::(q++[⟨ws.getD (k+1) [],n⟩]))=efsV (e::q)++[efV ⟨ws.getD (k+1) [],n⟩]:=efsV_snocT (e::q) _
          have hon2:onP (ws.drop 5)=(onP (ws.drop (k+3))).map fun p=>((e::(q++[⟨ws.getD (k+1) [],n⟩]))++p.1,p.2):=by rw [hon];cases onP (ws.drop (k+3))<;>simp
          (refine nextU_ hnz (()) [0,1,2,5] (⟨⟨by dsimp only;omega,by dsimp only;omega⟩,by simp;omega,hon2⟩) (by dsimp only;omega) ?_ (ht:=?_);(focus (simp only [adE,adX,adS,hsn,efV,List.length_append,List.length_cons,List.length_nil,Nat.zero_add,List.map_cons,List.map_nil,TB.inst,TV.inst,tv_map,List.cons_append,List.nil_append];first|rfl|(simp [ptsV,ptV];done)|(simp [hpsV,hpV];done)|(simp [frsV,frV];done)|(simp [txV];done)|(simp [prtsV,prtV];done)));(simp only [axT,List.map_cons,List.map_nil,TV.inst,List.getD_cons_zero,List.getD_cons_succ];exact tv_))
    · have hend:onP (ws.drop 5)=some (l,ws.drop k):=by
        by_cases h1:k+2<ws.length
        · rw [hon,onP_at h1,if_neg (fun q=>hex ⟨h1,q⟩)]
          simp
        · rw [hon,onP_short (by omega)]
          simp
      rw [hend] at hQ
      clear hon hK hend hn hnn h
      have hlw:ws.length≤100005:=by omega
      have hg0:k<ws.length→(xsV ws)[k]?=some [V.str (ws.getD k [])]:=fun h=>hxg k h
      have hgk:(k+2<ws.length∧(xsV ws)[k]?=some [V.str (ws.getD k [])]∧¬ ws.getD k []=[111,110])∨¬ k+2<ws.length:=by
        by_cases h1:k+2<ws.length
        · exact .inl ⟨h1,hxg k (by omega),fun q=>hex ⟨h1,q⟩⟩
        · exact .inr h1
      clear hg0 hex
      have hll2:(efsV l).length=l.length:=by simp [efsV]
      have haf:afP (ws.drop k)=([]++(afP (ws.drop k)).1,(afP (ws.drop k)).2):=rfl
      rcases hgk with ⟨hk2,hg0,hne⟩|hg0
      all_goals rcases l with _|⟨e,q⟩
      all_goals(
        simp only [List.length_cons,List.length_nil] at hll2
        simp only [axT,adE,adX,adS]
        simp only [List.map_cons,List.map_nil,TB.inst,TV.inst,tv_map,zipT,List.cons_append,List.nil_append,Nat.add_zero]
        (have FX:=And.intro hll (And.intro hal (And.intro hg0 hll2));repeat'(first|(refine sx ?_ ?_<;>intro h<;>first|(exfalso;omega)|skip)|refine ny ?_|refine WA_block ?_|(refine uX11_33_6 ?_;refine⟨by kernel_rfl,?_⟩)|(refine uX11_33_12 ?_;refine⟨by kernel_rfl,?_⟩)|(refine uX11_33_15 ?_;refine⟨by kernel_rfl,?_⟩))))
      all_goals(try(exfalso;omega))
      all_goals(try contradiction)
      all_goals clear FX
      all_goals first
        |refine WA_whileT (σ:=Nat×List Txt) (L:=B) [0,2,3,6,7] (fun s=>axT ws s.1) (fun s=>ad2E nm x y z [] s.2) (fun s=>(k≤s.1∧s.1≤ws.length)∧s.2.length≤s.1∧afP (ws.drop k)=(s.2++(afP (ws.drop s.1)).1,(afP (ws.drop s.1)).2)) (fun s=>ws.length - s.1) (k,[]) ⟨⟨Nat.le_refl _,by dsimp only;omega⟩,Nat.zero_le _,haf⟩ (by simp only [axT,List.map_cons,List.map_nil,TV.inst];exact tv_) rfl (by decide) (fun _ _=>ad2T_ok) (fun _ _=>ad2E_ok) ?_
        |refine WA_whileT (σ:=Nat×List Txt) (L:=B) [0,2,3,6,7] (fun s=>axT ws s.1) (fun s=>ad2E nm x y z (e::q) s.2) (fun s=>(k≤s.1∧s.1≤ws.length)∧s.2.length≤s.1∧afP (ws.drop k)=(s.2++(afP (ws.drop s.1)).1,(afP (ws.drop s.1)).2)) (fun s=>ws.length - s.1) (k,[]) ⟨⟨Nat.le_refl _,by dsimp only;omega⟩,Nat.zero_le _,haf⟩ (by simp only [axT,List.map_cons,List.map_nil,TV.inst];exact tv_) (by simp only [ad2E,adX,nmX,adS,nmS,List.map_cons,List.map_nil,TB.inst,TV.inst,tv_map,List.cons_append,List.nil_append,List.append_nil]) (by decide) (fun _ _=>ad2T_ok) (fun _ _=>ad2E_ok) ?_
      all_goals(
        rintro⟨k2,ns⟩ ⟨⟨h1,h2⟩,hln,hav⟩ B2 ⟨D2,hB2⟩ K2 hK2
        dsimp only at h1 h2 hln hav)
      all_goals(
        by_cases hex2:k2+1<ws.length∧ws.getD k2 []=afterT)
      all_goals first
        | (obtain⟨hk2',hkn2⟩:=hex2
           have hy0:=hxg k2 (by omega)
           have hy1:=hxg (k2+1) hk2'
           rw [afP_at hk2',if_pos hkn2] at hav
           rw [hkn2] at hy0
           unfold afterT at hy0
           have hq1:((k2:Int)+1).toNat=k2+1:=by omega
           have hts:(tsV ns).length=ns.length:=by simp [tsV]
           have htk:(tsV ns).take ns.length=tsV ns:=List.take_of_length_le (by rw [hts];exact Nat.le_refl _)
           have hnz:=fun(_:Unit)=>hK2 (k2+2,ns++[ws.getD (k2+1) []])
           have hav2:afP (ws.drop k)=((ns++[ws.getD (k2+1) []])++(afP (ws.drop (k2+2))).1,(afP (ws.drop (k2+2))).2):=by rw [hav,List.append_assoc];rfl)
        |skip
      all_goals first
        | (have hzz:=hy0
           rcases ns with _|⟨w1,ns⟩)
        |skip
      all_goals first
        | (have hzz:=hy0
           simp only [List.length_cons,List.length_nil] at hts htk hln
           simp only [axT,ad2E,adX,nmX,adS,nmS]
           simp only [List.map_cons,List.map_nil,TB.inst,TV.inst,tv_map,zipT,List.cons_append,List.nil_append,Nat.add_zero]
           (have FX:=And.intro hll (And.intro hal (And.intro hy0 (And.intro hy1 (And.intro hq1 (And.intro hts (And.intro htk (And.intro hln (And.intro h2 hlw))))))));repeat'(first|(refine sx ?_ ?_<;>intro h<;>first|(exfalso;omega)|skip)|refine ny ?_|refine WA_block ?_|(refine uX11_33_6 ?_;refine⟨by kernel_rfl,?_⟩)|(refine uX11_33_12 ?_;refine⟨by kernel_rfl,?_⟩)|(refine uX11_33_15 ?_;refine⟨by kernel_rfl,?_⟩))))
        |skip
      all_goals(try(have hzz:=hy0;exfalso;omega))
      all_goals first
        | (have hzz:=hy0
           first
             |(refine nextU_ hnz (()) [0,1,2,4] (⟨⟨by dsimp only;omega,by dsimp only;omega⟩,by(simp;try omega),hav2⟩) (by dsimp only;omega) ?_ (ht:=?_);(focus (simp only [ad2E,adX,nmX,adS,nmS,tsV_snocT,tsV_one,List.length_append,List.length_cons,List.length_nil,Nat.zero_add,Nat.add_zero,Nat.reduceAdd,List.map_cons,List.map_nil,TB.inst,TV.inst,tv_map,List.cons_append,List.nil_append];first|rfl|(simp [ptsV,ptV];done)|(simp [hpsV,hpV];done)|(simp [frsV,frV];done)|(simp [txV];done)|(simp [prtsV,prtV];done)));(simp only [axT,List.map_cons,List.map_nil,TV.inst,List.getD_cons_zero,List.getD_cons_succ];exact tv_))
             |(refine nextU_ hnz (()) [0,1,2,3,5] (⟨⟨by dsimp only;omega,by dsimp only;omega⟩,by(simp;try omega),hav2⟩) (by dsimp only;omega) ?_ (ht:=?_);(focus (simp only [ad2E,adX,nmX,adS,nmS,tsV_snocT,tsV_one,List.length_append,List.length_cons,List.length_nil,Nat.zero_add,Nat.add_zero,Nat.reduceAdd,List.map_cons,List.map_nil,TB.inst,TV.inst,tv_map,List.cons_append,List.nil_append];first|rfl|(simp [ptsV,ptV];done)|(simp [hpsV,hpV];done)|(simp [frsV,frV];done)|(simp [txV];done)|(simp [prtsV,prtV];done)));(simp only [axT,List.map_cons,List.map_nil,TV.inst,List.getD_cons_zero,List.getD_cons_succ];exact tv_))
             |(refine nextU_ hnz (()) [0,1,2,5] (⟨⟨by dsimp only;omega,by dsimp only;omega⟩,by(simp;try omega),hav2⟩) (by dsimp only;omega) ?_ (ht:=?_);(focus (simp only [ad2E,adX,nmX,adS,nmS,tsV_snocT,tsV_one,List.length_append,List.length_cons,List.length_nil,Nat.zero_add,Nat.add_zero,Nat.reduceAdd,List.map_cons,List.map_nil,TB.inst,TV.inst,tv_map,List.cons_append,List.nil_append];first|rfl|(simp [ptsV,ptV];done)|(simp [hpsV,hpV];done)|(simp [frsV,frV];done)|(simp [txV];done)|(simp [prtsV,prtV];done)));(simp only [axT,List.map_cons,List.map_nil,TV.inst,List.getD_cons_zero,List.getD_cons_succ];exact tv_))
             |(refine nextU_ hnz (()) [0,1,2,3,6] (⟨⟨by dsimp only;omega,by dsimp only;omega⟩,by(simp;try omega),hav2⟩) (by dsimp only;omega) ?_ (ht:=?_);(focus (simp only [ad2E,adX,nmX,adS,nmS,tsV_snocT,tsV_one,List.length_append,List.length_cons,List.length_nil,Nat.zero_add,Nat.add_zero,Nat.reduceAdd,List.map_cons,List.map_nil,TB.inst,TV.inst,tv_map,List.cons_append,List.nil_append];first|rfl|(simp [ptsV,ptV];done)|(simp [hpsV,hpV];done)|(simp [frsV,frV];done)|(simp [txV];done)|(simp [prtsV,prtV];done)));(simp only [axT,List.map_cons,List.map_nil,TV.inst,List.getD_cons_zero,List.getD_cons_succ];exact tv_))
             |fail)
        |skip
      all_goals(
        have hend2:afP (ws.drop k)=(ns,ws.drop k2):=by
          by_cases g1:k2+1<ws.length
          · rw [hav,afP_at g1,if_neg (fun q=>hex2 ⟨g1,q⟩)]
            simp
          · rw [hav,afP_short (by omega)]
            simp
        have hdd:decide (ws.drop k2=[])=decide ((k2:Int)=(ws.length:Int)):=decide_eq_decide.2 (by rw [List.drop_eq_nil_iff];omega)
        simp only [hend2,hdd] at hQ
        clear hav hend2 haf hK2 hdd
        have hgk2:(k2+1<ws.length∧(xsV ws)[k2]?=some [V.str (ws.getD k2 [])]∧¬ ws.getD k2 []=[97,102,116,101,114])∨¬ k2+1<ws.length:=by
          by_cases g1:k2+1<ws.length
          · exact .inl ⟨g1,hxg k2 (by omega),fun q=>hex2 ⟨g1,q⟩⟩
          · exact .inr g1
        clear hex2 hxg hm2
        have hts:(tsV ns).length=ns.length:=by simp [tsV]
        have hB3:B2=lend m++(D++D2):=by rw [hB2,hB,List.append_assoc])
      all_goals rcases hgk2 with ⟨h3,hy0,hne2⟩|hy0
      all_goals rcases ns with _|⟨w1,ns⟩
      all_goals(
        simp only [List.length_cons,List.length_nil] at hts
        simp only [axT,ad2E,adX,nmX,adS,nmS]
        simp only [List.map_cons,List.map_nil,TB.inst,TV.inst,tv_map,zipT,List.cons_append,List.nil_append,Nat.add_zero]
        (have FX:=And.intro hll (And.intro hal (And.intro hy0 (And.intro h2 hlw)));repeat'(first|(refine sx ?_ ?_<;>intro h<;>first|(exfalso;omega)|skip)|refine ny ?_|refine WA_block ?_|(refine uX11_33_6 ?_;refine⟨by kernel_rfl,?_⟩)|(refine uX11_33_12 ?_;refine⟨by kernel_rfl,?_⟩)|(refine uX11_33_15 ?_;refine⟨by kernel_rfl,?_⟩))))
      all_goals(try(exfalso;omega))
      all_goals(try contradiction)
      all_goals first
        | (have hbb:decide ((k2:Int)=(ws.length:Int))=true:=by rw [hw0];exact decide_eq_true (by assumption)
           rw [hbb] at hQ)
        | (have hbb:decide ((k2:Int)=(ws.length:Int))=false:=by rw [hw0];exact decide_eq_false (by assumption)
           rw [hbb] at hQ)
      all_goals first
        |exact r_esA hQ (v':= .tup [.agg [.str nm,.nilsl,.int .i64 x,.int .i64 y,.int .i64 z,.nilsl],.bool true]) (fin_ad hB3 fzw_nil fzw_nil fun v hv=>⟨rfl,hv⟩)
        |exact r_esA hQ (v':= .tup [.agg [.str nm,.nilsl,.int .i64 x,.int .i64 y,.int .i64 z,.sl (B2.length+3) (ns.length+1)],.bool true]) (fin_ad hB3 fzw_nil (fzw_own hB3 (j:=3) rfl hts (tsV_plain _)) fun v hv=>⟨rfl,hv⟩)
        |exact r_esA hQ (v':= .tup [.agg [.str nm,.sl (B2.length+3) (q.length+1),.int .i64 x,.int .i64 y,.int .i64 z,.nilsl],.bool true]) (fin_ad hB3 (fzw_own hB3 (j:=3) rfl hll2 (efsV_plain _)) fzw_nil fun v hv=>⟨rfl,hv⟩)
        |exact r_esA hQ (v':= .tup [.agg [.str nm,.sl (B2.length+3) (q.length+1),.int .i64 x,.int .i64 y,.int .i64 z,.sl (B2.length+4) (ns.length+1)],.bool true]) (fin_ad hB3 (fzw_own hB3 (j:=3) rfl hll2 (efsV_plain _)) (fzw_own hB3 (j:=4) rfl hts (tsV_plain _)) fun v hv=>⟨rfl,hv⟩)
        |exact r_esA hQ (v':= .tup [.agg [.str nm,.nilsl,.int .i64 x,.int .i64 y,.int .i64 z,.nilsl],.bool false]) (fin_ad hB3 fzw_nil fzw_nil fun v hv=>⟨rfl,hv⟩)
        |exact r_esA hQ (v':= .tup [.agg [.str nm,.nilsl,.int .i64 x,.int .i64 y,.int .i64 z,.sl (B2.length+3) (ns.length+1)],.bool false]) (fin_ad hB3 fzw_nil (fzw_own hB3 (j:=3) rfl hts (tsV_plain _)) fun v hv=>⟨rfl,hv⟩)
        |exact r_esA hQ (v':= .tup [.agg [.str nm,.sl (B2.length+3) (q.length+1),.int .i64 x,.int .i64 y,.int .i64 z,.nilsl],.bool false]) (fin_ad hB3 (fzw_own hB3 (j:=3) rfl hll2 (efsV_plain _)) fzw_nil fun v hv=>⟨rfl,hv⟩)
        |exact r_esA hQ (v':= .tup [.agg [.str nm,.sl (B2.length+3) (q.length+1),.int .i64 x,.int .i64 y,.int .i64 z,.sl (B2.length+4) (ns.length+1)],.bool false]) (fin_ad hB3 (fzw_own hB3 (j:=3) rfl hll2 (efsV_plain _)) (fzw_own hB3 (j:=4) rfl hts (tsV_plain _)) fun v hv=>⟨rfl,hv⟩)
        |fail
end Go.Proofs.YtookikhphobnlaaGreatDoor
