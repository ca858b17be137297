/- contracts: the program reads an adjustment -/
import Derived.Test.YtookikhphobnlaaGreatDoorX11
set_option linter.unusedSimpArgs false
set_option linter.unusedVariables false
namespace Go.Proofs.YtookikhphobnlaaGreatDoor
open Go.RowKit
attribute [local irreducible] WA WOs WDs WAn qThen qBlock tput
set_option maxHeartbeats 1000000
set_option maxRecDepth 20000
set_option linter.unusedSimpArgs false
set_option linter.unusedVariables false
set_option maxHeartbeats 4000000
def gjS(j:Nat):List EfR→TV
  |[]=> .v .nilsl
  |_::q=> .sl j (q.length+1)
def gjE(nm:Txt)(x y z:Int)(l:List EfR)(ns:List Txt):List TB:=[.cells .own 78 6 [[.v (.str []),.v .nilsl,.v (.int .i64 0),.v (.int .i64 0),.v (.int .i64 0),.v .nilsl]],.cells .own 78 6 [[.v (.str nm),gjS 2 l,.v (.int .i64 x),.v (.int .i64 y),.v (.int .i64 z),nmS (2+(adX l).length) ns]]]++(adX l++nmX ns)
def gjT(r:List Txt):List TV:=[.v (.lst (xsV r)),.ptr 0 0 0,.v (.bool false),.ptr 1 0 0]
theorem gjE_ok{nm:Txt}{x y z:Int}{l:List EfR}{ns:List Txt}:(gjE nm x y z l ns).all (TB.ok (gjE nm x y z l ns).length)=true:=by
  cases l with
  | nil=>cases ns with
    |nil=>rfl
    |cons p q=>simp [gjE,adX,gjS,nmX,nmS,TB.ok,TV.okT,tv_ok]
  | cons a b=>cases ns with
    |nil=>simp [gjE,adX,gjS,nmX,nmS,TB.ok,TV.okT,tv_ok]
    |cons p q=>simp [gjE,adX,gjS,nmX,nmS,TB.ok,TV.okT,tv_ok]
theorem gjT_ok{nm:Txt}{x y z:Int}{l:List EfR}{ns:List Txt}{r:List Txt}:(gjT r).all (TV.okT (gjE nm x y z l ns).length)=true:=by
  cases l<;>cases ns<;>simp [gjT,gjE,adX,nmX,TV.okT]
theorem numsP_one(d:Nat)(w:Txt):numsP d [w]=(numP d w).map fun n=>[n]:=by
  simp only [numsP]
  cases numP d w<;>rfl
theorem drp{l r:List (List V)}{k:Nat}{n:Int}(h:l.drop k=r)(hn:r.length≤n.toNat):List.take n.toNat (List.drop k l)=r:=by rw [h,List.take_of_length_le hn]
theorem onP_no{r:List Txt}(h:¬ ∃ mm w r',r=[111,110]::mm::w::r'):onP r=some ([],r):=by
  rcases r with _|⟨o,_|⟨mm,_|⟨w,r'⟩⟩⟩
  · rfl
  · rfl
  · rfl
  · simp only [onP]
    rw [if_neg]
    rintro rfl
    exact h ⟨_,_,_,rfl⟩
theorem onP_yes(mm w:Txt)(r':List Txt):onP ([111,110]::mm::w::r')=(numP 7 w).bind fun n=>(onP r').map fun p=>(⟨mm,n⟩::p.1,p.2):=by
  simp only [onP]
  rw [if_pos (show([111,110]:Txt)=onT from rfl)]
theorem afP_no{r:List Txt}(h:¬ ∃ x r',r=[97,102,116,101,114]::x::r'):afP r=([],r):=by
  rcases r with _|⟨o,_|⟨mm,r'⟩⟩
  · rfl
  · rfl
  · simp only [afP]
    rw [if_neg]
    rintro rfl
    exact h ⟨_,_,rfl⟩
theorem afP_yes(x:Txt)(r':List Txt):afP ([97,102,116,101,114]::x::r')=(x::(afP r').1,(afP r').2):=by
  simp only [afP]
  rw [if_pos (show([97,102,116,101,114]:Txt)=afterT from rfl)]
theorem on_end{r:List Txt}(h:¬ ∃ mm w r',r=[111,110]::mm::w::r'):(3≤r.length∧(xsV r)[0]?=some [V.str (r.getD 0 [])]∧¬ r.getD 0 []=[111,110])∨r.length<3:=by
  rcases r with _|⟨o,_|⟨mm,_|⟨w,r'⟩⟩⟩
  · exact .inr (by decide)
  · exact .inr (by simp)
  · exact .inr (by simp)
  · exact .inl ⟨by simp,rfl,by rintro q;exact h ⟨_,_,_,by rw [←q];rfl⟩⟩
theorem af_end{r:List Txt}(h:¬ ∃ x r',r=[97,102,116,101,114]::x::r'):(2≤r.length∧(xsV r)[0]?=some [V.str (r.getD 0 [])]∧¬ r.getD 0 []=[97,102,116,101,114])∨r.length<2:=by
  rcases r with _|⟨o,_|⟨mm,r'⟩⟩
  · exact .inr (by decide)
  · exact .inr (by simp)
  · exact .inl ⟨by simp,rfl,by rintro q;exact h ⟨_,_,by rw [←q];rfl⟩⟩
theorem uX12_67_6{N:Nat}{l:List Oper}{t:List (Nat×V)}{m:Mem}{Q:Exit→List (Nat×V)→Mem→Prop}(h:RgN Tryz.prog N l t m Q (fun i=>if i==14 then .f else if i==13 then .a else if i==2 || i==5 || i==8 || i==11 then .q else .p) [.one 0,.one 1,.one 2,.one 3,.one 4,.one 5,.one 6,.one 7,.one 8,.one 9,.one 10,.one 11,.one 12,.one 13,.one 14]):WA Tryz.prog N (.region 6 l.toArray true) t m Q:=d_rgN h
theorem uX12_67_12{N:Nat}{l:List Oper}{t:List (Nat×V)}{m:Mem}{Q:Exit→List (Nat×V)→Mem→Prop}(h:RgN Tryz.prog N l t m Q (fun i=>if i==10 || i==12 then .w else if i==9 then .a else if i==1 || i==4 || i==7 then .q else .p) [.one 0,.one 1,.one 2,.one 3,.one 4,.one 5,.one 6,.one 7,.one 8,.one 9,.one 10,.one 11,.one 12]):WA Tryz.prog N (.region 12 l.toArray true) t m Q:=d_rgN h
theorem uX12_67_15{N:Nat}{l:List Oper}{t:List (Nat×V)}{m:Mem}{Q:Exit→List (Nat×V)→Mem→Prop}(h:RgN Tryz.prog N l t m Q (fun i=>if i==6 || i==8 then .w else if i==5 then .a else if i==1 || i==4 then .q else .p) [.one 0,.one 1,.one 2,.one 3,.one 4,.one 5,.one 6,.one 7,.one 8]):WA Tryz.prog N (.region 15 l.toArray true) t m Q:=d_rgN h
theorem gadj_short(w:List Txt)(h:w.length<4)(m:Mem):Gives Tryz.prog 67 [.lst (xsV w)] m (.tup [.agg (adV (adjT w).1),.bool (adjT w).2]):=by
  have hll:=xsV_length (l:=w)
  suffices key:CallA Tryz.prog 67 [.lst (xsV w)] m (fun v mo=>mo=none∧WkV v (.tup [.agg (adV (adjT w).1),.bool (adjT w).2])) from Gives_ofX key fun v mo h=>h
  refine CallA_in Tryz.func67 rfl Tryz.ntmps67 Tryz.results67 (by kernel_rfl) (by simp) fun Q hQ=>?_
  have hat:adjT w=(adz,false):=by
    rcases w with _|⟨a,_|⟨b,_|⟨c,_|⟨d,r⟩⟩⟩⟩
    · rfl
    · rfl
    · rfl
    · rfl
    · simp at h;omega
  rw [hat] at hQ
  (have FX:=hll;repeat'(first|(refine sx ?_ ?_<;>intro h<;>first|(exfalso;omega)|skip)|refine ny ?_|refine WA_block ?_|(refine uX12_67_6 ?_;refine⟨by kernel_rfl,?_⟩)|(refine uX12_67_12 ?_;refine⟨by kernel_rfl,?_⟩)|(refine uX12_67_15 ?_;refine⟨by kernel_rfl,?_⟩)))
  all_goals(try(exfalso;omega))
  exact r_esA hQ (v':= .tup [.agg [.str [],.nilsl,.int .i64 0,.int .i64 0,.int .i64 0,.nilsl],.bool false]) (.inl ⟨rfl,rfl,wk_tup ⟨show WkV _ (.agg [.str [],.lst [],.int .i64 0,.int .i64 0,.int .i64 0,.lst []]) from wk_agg ⟨WkV.refl _,wk_nil,WkV.refl _,WkV.refl _,WkV.refl _,wk_nil,trivial⟩,WkV.refl _,trivial⟩⟩)
theorem gadj_c (nm a b c:Txt) (r0:List Txt) (hr:r0.length≤100000) (hw:∀ x∈nm::a::b::c::r0,x.length≤100000) (m:Mem):Gives Tryz.prog 67 [.lst (xsV (nm::a::b::c::r0))] m (.tup [.agg (adV (adjT (nm::a::b::c::r0)).1),.bool (adjT (nm::a::b::c::r0)).2]):=by
  have hll:(xsV (nm::a::b::c::r0)).length=r0.length+4:=by rw [xsV_length];rfl
  have hal:(xsV (nm::a::b::c::r0)).all (fun e=>e.length==1)=true:=by simp [xsV]
  have hx0:(xsV (nm::a::b::c::r0))[0]?=some [.str nm]:=rfl
  suffices key:CallA Tryz.prog 67 [.lst (xsV (nm::a::b::c::r0))] m (fun v mo=>mo=none∧WkV v (.tup [.agg (adV (adjT (nm::a::b::c::r0)).1),.bool (adjT (nm::a::b::c::r0)).2])) from Gives_ofX key fun v mo h=>h
  refine CallA_in Tryz.func67 rfl Tryz.ntmps67 Tryz.results67 (by kernel_rfl) (by simp) fun Q hQ=>?_
  (have FX:=And.intro hll (And.intro hal hx0);repeat'(first|(refine sx ?_ ?_<;>intro h<;>first|(exfalso;omega)|skip)|refine ny ?_|refine WA_block ?_|(refine uX12_67_6 ?_;refine⟨by kernel_rfl,?_⟩)|(refine uX12_67_12 ?_;refine⟨by kernel_rfl,?_⟩)|(refine uX12_67_15 ?_;refine⟨by kernel_rfl,?_⟩)))
  all_goals(try(exfalso;omega))
  refine g_op ?_;refine g_call ?_;refine g_args ?_;refine s_fnA (gnumbers_c [a,b,c] (by simp) (fun i hi=>by rcases i with _|_|_|i;exact hw a (by simp);exact hw b (by simp);exact hw c (by simp);(simp at hi;omega)) _) ?_
  rintro v mo ⟨rfl,rfl⟩
  simp only [Option.getD_none]
  cases hn:numsP 7 [a,b,c] with
  | none=>
    have hat:adjT (nm::a::b::c::r0)=(adz,false):=by simp only [adjT,hn]
    rw [hat] at hQ
    simp only [nbV]
    (have FX:=And.intro hll (And.intro hal hx0);repeat'(first|(refine sx ?_ ?_<;>intro h<;>first|(exfalso;omega)|skip)|refine ny ?_|refine WA_block ?_|(refine uX12_67_6 ?_;refine⟨by kernel_rfl,?_⟩)|(refine uX12_67_12 ?_;refine⟨by kernel_rfl,?_⟩)|(refine uX12_67_15 ?_;refine⟨by kernel_rfl,?_⟩)))
    exact r_esA hQ (v':= .tup [.agg [.str [],.nilsl,.int .i64 0,.int .i64 0,.int .i64 0,.nilsl],.bool false]) (.inl ⟨rfl,rfl,wk_tup ⟨show WkV _ (.agg [.str [],.lst [],.int .i64 0,.int .i64 0,.int .i64 0,.lst []]) from wk_agg ⟨WkV.refl _,wk_nil,WkV.refl _,WkV.refl _,WkV.refl _,wk_nil,trivial⟩,WkV.refl _,trivial⟩⟩)
  | some l =>
    obtain⟨x,y,z,rfl⟩:∃ x y z,l=[x,y,z]:=by
      have:=numsP_len hn
      rcases l with _|⟨x,_|⟨y,_|⟨z,_|⟨u,l⟩⟩⟩⟩
      · simp at this
      · simp at this
      · simp at this
      · exact⟨x,y,z,rfl⟩
      · simp at this
    simp only [adjT,hn,List.getD_cons_zero,List.getD_cons_succ] at hQ
    simp only [nbV]
    have hln:(nsV [x,y,z]).length=3:=rfl
    have hn0:(nsV [x,y,z])[0]?=some [.int .i64 x]:=rfl
    have hn1:(nsV [x,y,z])[1]?=some [.int .i64 y]:=rfl
    have hn2:(nsV [x,y,z])[2]?=some [.int .i64 z]:=rfl
    clear FX
    (have FX:=And.intro hll (And.intro hal (And.intro hx0 (And.intro hln (And.intro hn0 (And.intro hn1 hn2)))));repeat'(first|(refine sx ?_ ?_<;>intro h<;>first|(exfalso;omega)|skip)|refine ny ?_|refine WA_block ?_|(refine uX12_67_6 ?_;refine⟨by kernel_rfl,?_⟩)|(refine uX12_67_12 ?_;refine⟨by kernel_rfl,?_⟩)|(refine uX12_67_15 ?_;refine⟨by kernel_rfl,?_⟩)))
    have hs0:List.take (((r0.length+4:Nat):Int) - 4).toNat (List.drop 4 (xsV (nm::a::b::c::r0)))=xsV r0:=drp rfl (by rw [xsV_length];omega)
    rw [hs0]
    have hwr:∀ x∈r0,x.length≤100000:=fun x h=>hw x (by simp [h])
    clear hs0 hx0 hw hll hal hln hn0 hn1 hn2 FX h hn
    refine WA_whileT (σ:=List Txt×List EfR) (L:=lend m) [0,2,3,6] (fun s=>gjT s.1) (fun s=>gjE nm x y z s.2 []) (fun s=>s.1.length+s.2.length≤r0.length∧(∀ x∈s.1,x.length≤100000)∧onP r0=(onP s.1).map fun p=>(s.2++p.1,p.2)) (fun s=>s.1.length) (r0,[]) ⟨by simp,hwr,by cases onP r0<;>rfl⟩ (by simp only [gjT,List.map_cons,List.map_nil,TV.inst];exact tv_) rfl (by decide) (fun _ _=>gjT_ok) (fun _ _=>gjE_ok) ?_
    rintro⟨r,l⟩ ⟨hlen,hwr,hon⟩ B ⟨D,hB⟩ K hK
    dsimp only at hlen hwr hon
    by_cases hex:∃ mm w r',r=[111,110]::mm::w::r'
    · obtain⟨mm,w,r',rfl⟩:=hex
      rw [onP_yes] at hon
      have hll:(xsV ([111,110]::mm::w::r')).length=r'.length+3:=by rw [xsV_length];rfl
      have hal:(xsV ([111,110]::mm::w::r')).all (fun e=>e.length==1)=true:=by simp [xsV]
      have hy0:(xsV ([111,110]::mm::w::r'))[0]?=some [.str [111,110]]:=rfl
      have hy1:(xsV ([111,110]::mm::w::r'))[1]?=some [.str mm]:=rfl
      have hs3:List.take (((r'.length+3:Nat):Int) - 3).toNat (List.drop 3 (xsV ([111,110]::mm::w::r')))=xsV r':=drp rfl (by rw [xsV_length];omega)
      rw [show([111,110]::mm::w::r').length=r'.length+3 from rfl] at hlen
      rcases l with _|⟨e,q⟩
      · rw [List.length_nil] at hlen
        simp only [gjT,gjE,adX,gjS,nmX,nmS]
        simp only [List.map_cons,List.map_nil,TB.inst,TV.inst,tv_map,zipT,List.cons_append,List.nil_append,Nat.add_zero]
        (have FX:=And.intro hll (And.intro hal (And.intro hy0 (And.intro hy1 (And.intro hlen hr))));repeat'(first|(refine sx ?_ ?_<;>intro h<;>first|(exfalso;omega)|skip)|refine ny ?_|refine WA_block ?_|(refine uX12_67_6 ?_;refine⟨by kernel_rfl,?_⟩)|(refine uX12_67_12 ?_;refine⟨by kernel_rfl,?_⟩)|(refine uX12_67_15 ?_;refine⟨by kernel_rfl,?_⟩)))
        all_goals(try(exfalso;omega))
        refine g_op ?_;refine g_call ?_;refine g_args ?_;refine s_fnA (gnumbers_c [w] (by simp) (fun i hi=>by rcases i with _|i;exact hwr w (by simp);(simp at hi)) _) ?_
        rintro v mo ⟨rfl,rfl⟩
        simp only [Option.getD_none]
        rw [numsP_one]
        cases hnw:numP 7 w with
        | none=>
          rw [hnw] at hon
          simp only [Option.map_none,nbV]
          (have FX:=And.intro hll (And.intro hal (And.intro hy0 (And.intro hy1 (And.intro hlen hr))));repeat'(first|(refine sx ?_ ?_<;>intro h<;>first|(exfalso;omega)|skip)|refine ny ?_|refine WA_block ?_|(refine uX12_67_6 ?_;refine⟨by kernel_rfl,?_⟩)|(refine uX12_67_12 ?_;refine⟨by kernel_rfl,?_⟩)|(refine uX12_67_15 ?_;refine⟨by kernel_rfl,?_⟩)))
          rw [show onP r0=none from hon] at hQ
          exact r_esA hQ (v':= .tup [.agg [.str [],.nilsl,.int .i64 0,.int .i64 0,.int .i64 0,.nilsl],.bool false]) (.inl ⟨rfl,rfl,wk_tup ⟨show WkV _ (.agg [.str [],.lst [],.int .i64 0,.int .i64 0,.int .i64 0,.lst []]) from wk_agg ⟨WkV.refl _,wk_nil,WkV.refl _,WkV.refl _,WkV.refl _,wk_nil,trivial⟩,WkV.refl _,trivial⟩⟩)
        | some n=>
          rw [hnw] at hon
          simp only [Option.map_some,nbV]
          have hln:(nsV [n]).length=1:=rfl
          have hn0:(nsV [n])[0]?=some [.int .i64 n]:=rfl
          clear FX
          (have FX:=And.intro hll (And.intro hal (And.intro hy0 (And.intro hy1 (And.intro hlen (And.intro hr (And.intro hln hn0))))));repeat'(first|(refine sx ?_ ?_<;>intro h<;>first|(exfalso;omega)|skip)|refine ny ?_|refine WA_block ?_|(refine uX12_67_6 ?_;refine⟨by kernel_rfl,?_⟩)|(refine uX12_67_12 ?_;refine⟨by kernel_rfl,?_⟩)|(refine uX12_67_15 ?_;refine⟨by kernel_rfl,?_⟩)))
          rw [hs3]
          have hnz:=fun(_:Unit)=>hK (r',[⟨mm,n⟩])
          have hon2:onP r0=(onP r').map fun p=>(([⟨mm,n⟩])++p.1,p.2):=by rw [hon];cases onP r'<;>simp
          (refine nextU_ hnz (()) [0,1,3] (⟨by simp only [List.length_cons,List.length_append,List.length_nil] at hlen ⊢;omega,fun x hx=>hwr x (by simp [hx]),hon2⟩) (by simp only [List.length_cons];omega) ?_ (ht:=?_);(focus (simp only [gjE,adX,gjS,nmX,nmS,efsV,efV,List.length_nil,Nat.zero_add,List.map_cons,List.map_nil,TB.inst,TV.inst,tv_map,List.cons_append,List.nil_append];first|rfl|(simp [ptsV,ptV];done)|(simp [hpsV,hpV];done)|(simp [frsV,frV];done)|(simp [txV];done)|(simp [prtsV,prtV];done)));(simp only [gjT,List.map_cons,List.map_nil,TV.inst,List.getD_cons_zero,List.getD_cons_succ];exact tv_))
      · rw [List.length_cons] at hlen
        have hll2:(efsV (e::q)).length=q.length+1:=by simp [efsV]
        have hlt2:(efsV (e::q)).take (q.length+1)=efsV (e::q):=List.take_of_length_le (by rw [hll2];exact Nat.le_refl _)
        simp only [gjT,gjE,adX,gjS,nmX,nmS]
        simp only [List.map_cons,List.map_nil,TB.inst,TV.inst,tv_map,zipT,List.cons_append,List.nil_append,Nat.add_zero]
        (have FX:=And.intro hll (And.intro hal (And.intro hy0 (And.intro hy1 (And.intro hll2 (And.intro hlt2 (And.intro hlen hr))))));repeat'(first|(refine sx ?_ ?_<;>intro h<;>first|(exfalso;omega)|skip)|refine ny ?_|refine WA_block ?_|(refine uX12_67_6 ?_;refine⟨by kernel_rfl,?_⟩)|(refine uX12_67_12 ?_;refine⟨by kernel_rfl,?_⟩)|(refine uX12_67_15 ?_;refine⟨by kernel_rfl,?_⟩)))
        all_goals(try(exfalso;omega))
        refine g_op ?_;refine g_call ?_;refine g_args ?_;refine s_fnA (gnumbers_c [w] (by simp) (fun i hi=>by rcases i with _|i;exact hwr w (by simp);(simp at hi)) _) ?_
        rintro v mo ⟨rfl,rfl⟩
        simp only [Option.getD_none]
        rw [numsP_one]
        cases hnw:numP 7 w with
        | none=>
          rw [hnw] at hon
          simp only [Option.map_none,nbV]
          (have FX:=And.intro hll (And.intro hal (And.intro hy0 (And.intro hy1 (And.intro hll2 (And.intro hlt2 (And.intro hlen hr))))));repeat'(first|(refine sx ?_ ?_<;>intro h<;>first|(exfalso;omega)|skip)|refine ny ?_|refine WA_block ?_|(refine uX12_67_6 ?_;refine⟨by kernel_rfl,?_⟩)|(refine uX12_67_12 ?_;refine⟨by kernel_rfl,?_⟩)|(refine uX12_67_15 ?_;refine⟨by kernel_rfl,?_⟩)))
          rw [show onP r0=none from hon] at hQ
          exact r_esA hQ (v':= .tup [.agg [.str [],.nilsl,.int .i64 0,.int .i64 0,.int .i64 0,.nilsl],.bool false]) (.inl ⟨rfl,rfl,wk_tup ⟨show WkV _ (.agg [.str [],.lst [],.int .i64 0,.int .i64 0,.int .i64 0,.lst []]) from wk_agg ⟨WkV.refl _,wk_nil,WkV.refl _,WkV.refl _,WkV.refl _,wk_nil,trivial⟩,WkV.refl _,trivial⟩⟩)
        | some n=>
          rw [hnw] at hon
          simp only [Option.map_some,nbV]
          have hln:(nsV [n]).length=1:=rfl
          have hn0:(nsV [n])[0]?=some [.int .i64 n]:=rfl
          clear FX
          (have FX:=And.intro hll (And.intro hal (And.intro hy0 (And.intro hy1 (And.intro hll2 (And.intro hlt2 (And.intro hlen (And.intro hr (And.intro hln hn0))))))));repeat'(first|(refine sx ?_ ?_<;>intro h<;>first|(exfalso;omega)|skip)|refine ny ?_|refine WA_block ?_|(refine uX12_67_6 ?_;refine⟨by kernel_rfl,?_⟩)|(refine uX12_67_12 ?_;refine⟨by kernel_rfl,?_⟩)|(refine uX12_67_15 ?_;refine⟨by kernel_rfl,?_⟩)))
          rw [hs3]
          have hnz:=fun(_:Unit)=>hK (r',e::(q++[⟨mm,n⟩]))
          have hon2:onP r0=(onP r').map fun p=>((e::(q++[⟨mm,n⟩]))++p.1,p.2):=by rw [hon];cases onP r'<;>simp
          have hsn:efsV (e::(q++[⟨mm,n⟩]))=efsV (e::q)++[efV ⟨mm,n⟩]:=efsV_snocT (e::q) _
          (refine nextU_ hnz (()) [0,1,4] (⟨by simp only [List.length_cons,List.length_append,List.length_nil] at hlen ⊢;omega,fun x hx=>hwr x (by simp [hx]),hon2⟩) (by simp only [List.length_cons];omega) ?_ (ht:=?_);(focus (simp only [gjE,adX,gjS,nmX,nmS,hsn,efV,List.length_nil,Nat.zero_add,List.length_append,List.length_cons,List.map_cons,List.map_nil,TB.inst,TV.inst,tv_map,List.cons_append,List.nil_append];first|rfl|(simp [ptsV,ptV];done)|(simp [hpsV,hpV];done)|(simp [frsV,frV];done)|(simp [txV];done)|(simp [prtsV,prtV];done)));(simp only [gjT,List.map_cons,List.map_nil,TV.inst,List.getD_cons_zero,List.getD_cons_succ];exact tv_))
    · have hend:onP r0=some (l,r):=by rw [hon,onP_no hex];simp
      simp only [hend] at hQ
      have hgk:=on_end hex
      clear hex hon hend hK
      have hll:(xsV r).length=r.length:=xsV_length
      have hal:(xsV r).all (fun e=>e.length==1)=true:=by simp [xsV]
      have haf:afP r=([]++(afP r).1,(afP r).2):=rfl
      have hee:(efsV l).length=l.length:=by simp [efsV]
      rcases hgk with ⟨hk2,hg0,hne⟩|hg0
      all_goals rcases l with _|⟨e,q⟩
      all_goals(
        simp only [List.length_cons,List.length_nil] at hlen hee
        simp only [gjT,gjE,adX,gjS,nmX,nmS]
        simp only [List.map_cons,List.map_nil,TB.inst,TV.inst,tv_map,zipT,List.cons_append,List.nil_append,Nat.add_zero]
        (have FX:=And.intro hll (And.intro hal (And.intro hg0 (And.intro hlen hr)));repeat'(first|(refine sx ?_ ?_<;>intro h<;>first|(exfalso;omega)|skip)|refine ny ?_|refine WA_block ?_|(refine uX12_67_6 ?_;refine⟨by kernel_rfl,?_⟩)|(refine uX12_67_12 ?_;refine⟨by kernel_rfl,?_⟩)|(refine uX12_67_15 ?_;refine⟨by kernel_rfl,?_⟩))))
      all_goals(try(exfalso;omega))
      all_goals(try contradiction)
      all_goals clear FX
      all_goals first
        |refine WA_whileT (σ:=List Txt×List Txt) (L:=B) [0,2,3,6] (fun s=>gjT s.1) (fun s=>gjE nm x y z [] s.2) (fun s=>s.1.length+s.2.length≤r.length∧afP r=(s.2++(afP s.1).1,(afP s.1).2)) (fun s=>s.1.length) (r,[]) ⟨by simp,haf⟩ (by simp only [gjT,List.map_cons,List.map_nil,TV.inst];exact tv_) rfl (by decide) (fun _ _=>gjT_ok) (fun _ _=>gjE_ok) ?_
        |refine WA_whileT (σ:=List Txt×List Txt) (L:=B) [0,2,3,6] (fun s=>gjT s.1) (fun s=>gjE nm x y z (e::q) s.2) (fun s=>s.1.length+s.2.length≤r.length∧afP r=(s.2++(afP s.1).1,(afP s.1).2)) (fun s=>s.1.length) (r,[]) ⟨by simp,haf⟩ (by simp only [gjT,List.map_cons,List.map_nil,TV.inst];exact tv_) (by simp only [gjE,adX,nmX,gjS,nmS,List.map_cons,List.map_nil,TB.inst,TV.inst,tv_map,List.cons_append,List.nil_append,List.append_nil]) (by decide) (fun _ _=>gjT_ok) (fun _ _=>gjE_ok) ?_
      all_goals(
        rintro⟨r2,ns⟩ ⟨hln,hav⟩ B2 ⟨D2,hB2⟩ K2 hK2
        dsimp only at hln hav)
      all_goals(
        by_cases hex2:∃ xx r',r2=[97,102,116,101,114]::xx::r')
      all_goals first
        | (obtain⟨xx,r',rfl⟩:=hex2
           rw [afP_yes] at hav
           have hlz:(xsV ([97,102,116,101,114]::xx::r')).length=r'.length+2:=by rw [xsV_length];rfl
           have haz:(xsV ([97,102,116,101,114]::xx::r')).all (fun e=>e.length==1)=true:=by simp [xsV]
           have hy0:(xsV ([97,102,116,101,114]::xx::r'))[0]?=some [.str [97,102,116,101,114]]:=rfl
           have hy1:(xsV ([97,102,116,101,114]::xx::r'))[1]?=some [.str xx]:=rfl
           have hs2:List.take (((r'.length+2:Nat):Int) - 2).toNat (List.drop 2 (xsV ([97,102,116,101,114]::xx::r')))=xsV r':=drp rfl (by rw [xsV_length];omega)
           rw [show([97,102,116,101,114]::xx::r').length=r'.length+2 from rfl] at hln
           have hts:(tsV ns).length=ns.length:=by simp [tsV]
           have htk:(tsV ns).take ns.length=tsV ns:=List.take_of_length_le (by rw [hts];exact Nat.le_refl _)
           have hnz:=fun(_:Unit)=>hK2 (r',ns++[xx])
           have hav2:afP r=((ns++[xx])++(afP r').1,(afP r').2):=by rw [hav,List.append_assoc];rfl)
        |skip
      all_goals first
        | (have hzz:=hy0
           rcases ns with _|⟨w1,ns⟩)
        |skip
      all_goals first
        | (have hzz:=hy0
           simp only [List.length_cons,List.length_nil] at hts htk hln
           simp only [gjT,gjE,adX,nmX,gjS,nmS]
           simp only [List.map_cons,List.map_nil,TB.inst,TV.inst,tv_map,zipT,List.cons_append,List.nil_append,Nat.add_zero]
           (have FX:=And.intro hlz (And.intro haz (And.intro hy0 (And.intro hy1 (And.intro hts (And.intro htk (And.intro hln (And.intro hlen hr)))))));repeat'(first|(refine sx ?_ ?_<;>intro h<;>first|(exfalso;omega)|skip)|refine ny ?_|refine WA_block ?_|(refine uX12_67_6 ?_;refine⟨by kernel_rfl,?_⟩)|(refine uX12_67_12 ?_;refine⟨by kernel_rfl,?_⟩)|(refine uX12_67_15 ?_;refine⟨by kernel_rfl,?_⟩)))
           all_goals rw [hs2])
        |skip
      all_goals(try(have hzz:=hy0;exfalso;omega))
      all_goals first
        | (have hzz:=hy0
           first
             |(refine nextU_ hnz (()) [0,1,3] (⟨by simp only [List.length_cons,List.length_append,List.length_nil] at hln ⊢;omega,hav2⟩) (by simp only [List.length_cons];omega) ?_ (ht:=?_);(focus (simp only [gjE,adX,nmX,gjS,nmS,tsV_snocT,tsV_one,List.length_append,List.length_cons,List.length_nil,Nat.zero_add,Nat.add_zero,Nat.reduceAdd,List.map_cons,List.map_nil,TB.inst,TV.inst,tv_map,List.cons_append,List.nil_append];first|rfl|(simp [ptsV,ptV];done)|(simp [hpsV,hpV];done)|(simp [frsV,frV];done)|(simp [txV];done)|(simp [prtsV,prtV];done)));(simp only [gjT,List.map_cons,List.map_nil,TV.inst,List.getD_cons_zero,List.getD_cons_succ];exact tv_))
             |(refine nextU_ hnz (()) [0,1,4] (⟨by simp only [List.length_cons,List.length_append,List.length_nil] at hln ⊢;omega,hav2⟩) (by simp only [List.length_cons];omega) ?_ (ht:=?_);(focus (simp only [gjE,adX,nmX,gjS,nmS,tsV_snocT,tsV_one,List.length_append,List.length_cons,List.length_nil,Nat.zero_add,Nat.add_zero,Nat.reduceAdd,List.map_cons,List.map_nil,TB.inst,TV.inst,tv_map,List.cons_append,List.nil_append];first|rfl|(simp [ptsV,ptV];done)|(simp [hpsV,hpV];done)|(simp [frsV,frV];done)|(simp [txV];done)|(simp [prtsV,prtV];done)));(simp only [gjT,List.map_cons,List.map_nil,TV.inst,List.getD_cons_zero,List.getD_cons_succ];exact tv_))
             |(refine nextU_ hnz (()) [0,1,2,4] (⟨by simp only [List.length_cons,List.length_append,List.length_nil] at hln ⊢;omega,hav2⟩) (by simp only [List.length_cons];omega) ?_ (ht:=?_);(focus (simp only [gjE,adX,nmX,gjS,nmS,tsV_snocT,tsV_one,List.length_append,List.length_cons,List.length_nil,Nat.zero_add,Nat.add_zero,Nat.reduceAdd,List.map_cons,List.map_nil,TB.inst,TV.inst,tv_map,List.cons_append,List.nil_append];first|rfl|(simp [ptsV,ptV];done)|(simp [hpsV,hpV];done)|(simp [frsV,frV];done)|(simp [txV];done)|(simp [prtsV,prtV];done)));(simp only [gjT,List.map_cons,List.map_nil,TV.inst,List.getD_cons_zero,List.getD_cons_succ];exact tv_))
             |(refine nextU_ hnz (()) [0,1,2,5] (⟨by simp only [List.length_cons,List.length_append,List.length_nil] at hln ⊢;omega,hav2⟩) (by simp only [List.length_cons];omega) ?_ (ht:=?_);(focus (simp only [gjE,adX,nmX,gjS,nmS,tsV_snocT,tsV_one,List.length_append,List.length_cons,List.length_nil,Nat.zero_add,Nat.add_zero,Nat.reduceAdd,List.map_cons,List.map_nil,TB.inst,TV.inst,tv_map,List.cons_append,List.nil_append];first|rfl|(simp [ptsV,ptV];done)|(simp [hpsV,hpV];done)|(simp [frsV,frV];done)|(simp [txV];done)|(simp [prtsV,prtV];done)));(simp only [gjT,List.map_cons,List.map_nil,TV.inst,List.getD_cons_zero,List.getD_cons_succ];exact tv_))
             |fail)
        |skip
      all_goals(
        have hend2:afP r=(ns,r2):=by rw [hav,afP_no hex2];simp
        have hgk2:=af_end hex2
        have hlz:(xsV r2).length=r2.length:=xsV_length
        have hdd:decide (r2=[])=decide ((r2.length:Int)=0):=decide_eq_decide.2 (by rw [←List.length_eq_zero_iff];omega)
        have haz:(xsV r2).all (fun e=>e.length==1)=true:=by simp [xsV]
        simp only [hend2,hdd] at hQ
        clear hav hend2 haf hK2 hdd hex2
        have hts:(tsV ns).length=ns.length:=by simp [tsV]
        have hB3:B2=lend m++(D++D2):=by rw [hB2,hB,List.append_assoc])
      all_goals rcases hgk2 with ⟨h3,hy0,hne2⟩|hy0
      all_goals rcases ns with _|⟨w1,ns⟩
      all_goals(
        simp only [List.length_cons,List.length_nil] at hts hln
        simp only [gjT,gjE,adX,nmX,gjS,nmS]
        simp only [List.map_cons,List.map_nil,TB.inst,TV.inst,tv_map,zipT,List.cons_append,List.nil_append,Nat.add_zero]
        (have FX:=And.intro hlz (And.intro haz (And.intro hy0 (And.intro hln (And.intro hlen hr))));repeat'(first|(refine sx ?_ ?_<;>intro h<;>first|(exfalso;omega)|skip)|refine ny ?_|refine WA_block ?_|(refine uX12_67_6 ?_;refine⟨by kernel_rfl,?_⟩)|(refine uX12_67_12 ?_;refine⟨by kernel_rfl,?_⟩)|(refine uX12_67_15 ?_;refine⟨by kernel_rfl,?_⟩))))
      all_goals(try(exfalso;omega))
      all_goals(try contradiction)
      all_goals first
        | (have hbb:decide ((r2.length:Int)=0)=true:=decide_eq_true (by assumption)
           rw [hbb] at hQ)
        | (have hbb:decide ((r2.length:Int)=0)=false:=decide_eq_false (by first|assumption|omega)
           rw [hbb] at hQ)
      all_goals first
        |exact r_esA hQ (v':= .tup [.agg [.str nm,.nilsl,.int .i64 x,.int .i64 y,.int .i64 z,.nilsl],.bool true]) (fin_ad hB3 fzw_nil fzw_nil fun v hv=>⟨rfl,hv⟩)
        |exact r_esA hQ (v':= .tup [.agg [.str nm,.nilsl,.int .i64 x,.int .i64 y,.int .i64 z,.sl (B2.length+2) (ns.length+1)],.bool true]) (fin_ad hB3 fzw_nil (fzw_own hB3 (j:=2) rfl hts (tsV_plain _)) fun v hv=>⟨rfl,hv⟩)
        |exact r_esA hQ (v':= .tup [.agg [.str nm,.sl (B2.length+2) (q.length+1),.int .i64 x,.int .i64 y,.int .i64 z,.nilsl],.bool true]) (fin_ad hB3 (fzw_own hB3 (j:=2) rfl hee (efsV_plain _)) fzw_nil fun v hv=>⟨rfl,hv⟩)
        |exact r_esA hQ (v':= .tup [.agg [.str nm,.sl (B2.length+2) (q.length+1),.int .i64 x,.int .i64 y,.int .i64 z,.sl (B2.length+3) (ns.length+1)],.bool true]) (fin_ad hB3 (fzw_own hB3 (j:=2) rfl hee (efsV_plain _)) (fzw_own hB3 (j:=3) rfl hts (tsV_plain _)) fun v hv=>⟨rfl,hv⟩)
        |exact r_esA hQ (v':= .tup [.agg [.str nm,.nilsl,.int .i64 x,.int .i64 y,.int .i64 z,.nilsl],.bool false]) (fin_ad hB3 fzw_nil fzw_nil fun v hv=>⟨rfl,hv⟩)
        |exact r_esA hQ (v':= .tup [.agg [.str nm,.nilsl,.int .i64 x,.int .i64 y,.int .i64 z,.sl (B2.length+2) (ns.length+1)],.bool false]) (fin_ad hB3 fzw_nil (fzw_own hB3 (j:=2) rfl hts (tsV_plain _)) fun v hv=>⟨rfl,hv⟩)
        |exact r_esA hQ (v':= .tup [.agg [.str nm,.sl (B2.length+2) (q.length+1),.int .i64 x,.int .i64 y,.int .i64 z,.nilsl],.bool false]) (fin_ad hB3 (fzw_own hB3 (j:=2) rfl hee (efsV_plain _)) fzw_nil fun v hv=>⟨rfl,hv⟩)
        |exact r_esA hQ (v':= .tup [.agg [.str nm,.sl (B2.length+2) (q.length+1),.int .i64 x,.int .i64 y,.int .i64 z,.sl (B2.length+3) (ns.length+1)],.bool false]) (fin_ad hB3 (fzw_own hB3 (j:=2) rfl hee (efsV_plain _)) (fzw_own hB3 (j:=3) rfl hts (tsV_plain _)) fun v hv=>⟨rfl,hv⟩)
        |fail
end Go.Proofs.YtookikhphobnlaaGreatDoor
