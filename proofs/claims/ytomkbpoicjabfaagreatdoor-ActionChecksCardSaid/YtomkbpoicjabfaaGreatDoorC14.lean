/- contracts: a curve of a curve -/
import Derived.Test.YtomkbpoicjabfaaGreatDoorGAK
set_option linter.unusedSimpArgs false
set_option linter.unusedVariables false
namespace Go.Proofs.YtomkbpoicjabfaaGreatDoor
open Go.RowKit
attribute [local irreducible] WA WOs WDs WAn qThen qBlock tput
set_option maxHeartbeats 1000000
set_option maxRecDepth 20000
set_option linter.unusedSimpArgs false
set_option linter.unusedVariables false
attribute [local irreducible] smB cut sm quoQ quoB slP slG vP vG
def lsT(l:List Pt):List (List TV):=(ptsV l).map (List.map TV.v)
theorem lsT_ok{n:Nat}(l:List Pt):(lsT l).all (List.all · (TV.okT n))=true:=tv_ok _
/-- the blocks of the outer loop -/
def coE(o c:List Pt)(g:Bool)(l:List Pt):List TB:=
  .cells .own 48 1 [[.v (.lst (ptsV o))]]:: .cells .own 48 1 [[.v (.lst (ptsV c))]]:: .cells .own 48 1 [[.v .nilsl]]:: .cells .own 96 1 [[.v (.bool g)]]:: .cells .own 48 1 [[oSt 5 l]]::oE l
theorem coE_ok{o c:List Pt}{g:Bool}{l:List Pt}:(coE o c g l).all (TB.ok (coE o c g l).length)=true:=by
  unfold coE
  cases l with
  |nil=>simp [TB.ok,TV.okT,oE,oSt]
  |cons p r=>simp [oE,oSt,TB.ok,TV.okT,tv_ok]
def coS(c:List Pt)(i:Nat):List TV:=[.ptr 0 0 0,.ptr 1 0 0,.ptr 2 0 0,.ptr 3 0 0,.ptr 4 0 0,.v (.lst (ptsV c)),.v (.int .i64 c.length),.v (.int .i64 i)]
theorem coS_ok{o c:List Pt}{g:Bool}{l:List Pt}{i:Nat}:(coS c i).all (TV.okT (coE o c g l).length)=true:=by
  unfold coE coS
  cases l<;>simp [TV.okT,oE]
/-- .. behind a round's first corner -/
def cmE(o c:List Pt)(g:Bool)(a:Pt)(l:List Pt):List TB:=
  [.cells .own 48 1 [[.v (.lst (ptsV o))]],.cells .own 48 1 [[.v (.lst (ptsV c))]],.cells .own 48 1 [[.v .nilsl]],.cells .own 96 1 [[.v (.bool g)]],.cells .own 48 1 [[.sl 6 l.length]],.cells .own 80 4 [[.v (.int .i64 a.1.num),.v (.int .i64 (a.1.den:Int)),.v (.int .i64 a.2.num),.v (.int .i64 (a.2.den:Int))]],.cells .own 80 4 (lsT l)]
theorem cmE_ok{o c:List Pt}{g:Bool}{a:Pt}{l:List Pt}:(cmE o c g a l).all (TB.ok (cmE o c g a l).length)=true:=by
  simp [cmE,TB.ok,TV.okT,lsT_ok]
def cmS(c:List Pt)(i:Nat):List TV:=[.ptr 0 0 0,.ptr 1 0 0,.ptr 2 0 0,.ptr 3 0 0,.ptr 4 0 0,.v (.int .i64 i),.ptr 5 0 0,.v (.lst (ptsV c)),.v (.int .i64 c.length),.v (.int .i64 i)]
theorem cmS_ok{o c:List Pt}{g:Bool}{a:Pt}{l:List Pt}{i:Nat}:(cmS c i).all (TV.okT (cmE o c g a l).length)=true:=by
  simp [cmE,cmS,TV.okT]
/-- .. in the inner loop -/
def ceE(o c:List Pt)(g:Bool)(a:Pt)(s:Rat)(l:List Pt):List TB:=
  [.cells .own 48 1 [[.v (.lst (ptsV o))]],.cells .own 48 1 [[.v (.lst (ptsV c))]],.cells .own 48 1 [[.v .nilsl]],.cells .own 96 1 [[.v (.bool g)]],.cells .own 48 1 [[.sl 7 l.length]],.cells .own 80 4 [[.v (.int .i64 a.1.num),.v (.int .i64 (a.1.den:Int)),.v (.int .i64 a.2.num),.v (.int .i64 (a.2.den:Int))]],.cells .own 43 2 [[.v (.int .i64 s.num),.v (.int .i64 (s.den:Int))]],.cells .own 80 4 (lsT l)]
theorem ceE_ok{o c:List Pt}{g:Bool}{a:Pt}{s:Rat}{l:List Pt}:(ceE o c g a s l).all (TB.ok (ceE o c g a s l).length)=true:=by
  simp [ceE,TB.ok,TV.okT,lsT_ok]
def ceS(c mk:List Pt)(i k:Nat):List TV:=[.ptr 0 0 0,.ptr 1 0 0,.ptr 2 0 0,.ptr 3 0 0,.ptr 4 0 0,.v (.int .i64 i),.ptr 5 0 0,.ptr 6 0 0,.v (.lst (ptsV c)),.v (.int .i64 c.length),.v (.int .i64 i),.v (.lst (ptsV mk)),.v (.int .i64 mk.length),.v (.int .i64 k)]
theorem ceS_ok{o c mk:List Pt}{g:Bool}{a:Pt}{s:Rat}{l:List Pt}{i k:Nat}:(ceS c mk i k).all (TV.okT (ceE o c g a s l).length)=true:=by
  simp [ceE,ceS,TV.okT]
/-- .. in the last loop -/
def clE(g:Bool)(l:List Pt):List TB:=
  [.cells .own 48 1 [[.v .nilsl]],.cells .own 96 1 [[.v (.bool g)]],.cells .own 48 1 [[.sl 3 l.length]],.cells .own 80 4 (lsT l)]
theorem clE_ok{g:Bool}{l:List Pt}:(clE g l).all (TB.ok (clE g l).length)=true:=by
  simp [clE,TB.ok,TV.okT,lsT_ok]
theorem coE_pos{o c:List Pt}{g:Bool}{l:List Pt}(h:0<l.length):coE o c g l=[.cells .own 48 1 [[.v (.lst (ptsV o))]],.cells .own 48 1 [[.v (.lst (ptsV c))]],.cells .own 48 1 [[.v .nilsl]],.cells .own 96 1 [[.v (.bool g)]],.cells .own 48 1 [[.sl 5 l.length]],.cells .own 80 4 (lsT l)]:=by
  cases l with
  |nil=>cases h
  |cons p r=>rfl
theorem uC14_126_6{N:Nat}{l:List Oper}{t:List (Nat×V)}{m:Mem}{Q:Exit→List (Nat×V)→Mem→Prop}(h:RgT Tryz.prog N l t m Q 96 (fun i=>if i==10 || i==12 then .w else if i==7 then .f else if i==9 then .a else if i==1 || i==3 || i==4 || i==6 then .q else .p) [.one 0,.one 1,.one 2,.one 3,.one 4,.one 5,.one 6,.one 7,.one 8,.one 9,.one 10,.one 11,.one 12]):WA Tryz.prog N (.region 6 l.toArray true) t m Q:=d_rgT h
theorem uC14_126_13{N:Nat}{l:List Oper}{t:List (Nat×V)}{m:Mem}{Q:Exit→List (Nat×V)→Mem→Prop}(h:RgT Tryz.prog N l t m Q 96 (fun i=>if i==16 || i==18 then .w else if i==6 || i==8 || i==11 then .f else if i==15 then .a else if i==1 || i==3 || i==5 || i==7 || i==10 || i==13 then .q else .p) [.one 0,.one 1,.one 2,.one 3,.one 4,.one 5,.one 7,.one 9,.one 10,.one 12,.one 13,.one 6,.one 8,.one 11,.one 14,.one 15,.one 16,.one 17,.one 18]):WA Tryz.prog N (.region 13 l.toArray true) t m Q:=d_rgT h
theorem uC14_126_23{N:Nat}{l:List Oper}{t:List (Nat×V)}{m:Mem}{Q:Exit→List (Nat×V)→Mem→Prop}(h:RgT Tryz.prog N l t m Q 96 (fun i=>if i==11 then .f else if i==1 || i==5 || i==7 || i==10 then .q else .p) [.one 0,.one 1,.one 2,.one 3,.one 4,.one 5,.one 6,.one 7,.one 8,.one 9,.one 10,.one 11]):WA Tryz.prog N (.region 23 l.toArray true) t m Q:=d_rgT h
theorem acompose_c (o c:List Pt) (ho:Valid o) (hc:Valid c) (m:Mem):Gives Tryz.prog 126 [.agg [.lst (ptsV o)],.agg [.lst (ptsV c)]] m (match compP o c with|some l=> .tup [.agg [.lst (ptsV l)],.int .i64 0]|none=> .tup [.agg [.nilsl],.int .i64 8]):=by
  have hlc:=ptsV_length (c:=c)
  have hlo:=ptsV_length (c:=o)
  have hfc:=hc.few
  have hfo:=ho.few
  have hpc:=hc.pos
  refine CallA_in Tryz.func126 rfl Tryz.ntmps126 Tryz.results126 (by kernel_rfl) (by simp) fun Q hQ=>?_
  (have FX:=And.intro hlc hlo;repeat'(first|(refine sx ?_ ?_<;>intro h<;>first|(exfalso;omega)|skip)|refine ny ?_|refine WA_block ?_|(refine uC14_126_6 ?_;refine⟨by kernel_rfl,?_⟩)|(refine uC14_126_13 ?_;refine⟨by kernel_rfl,?_⟩)|(refine uC14_126_23 ?_;refine⟨by kernel_rfl,?_⟩)))
  refine WA_whileJ (σ:=Nat) (L:=lend m) [2,3,4,6,7,16,17,18] (coS c) (fun i=>coE o c (cmpG o c i) (cmpL o c i)) (fun i=>i<c.length∧(cmpL o c i).length≤60) (fun i=>c.length - i) 0 [0,1,2,3,4] ⟨hpc,by simp [cmpL]⟩ ?_ rfl rfl (by decide) (by decide) (fun _ _=>coS_ok) (fun _ _=>coE_ok) ?_
  · simp only [coS,List.map_cons,List.map_nil,TV.inst,List.getD_cons_zero,List.getD_cons_succ]
    exact tv_
  rintro i ⟨hi,hli⟩ B ⟨D,hB⟩ K hK
  clear FX
  have hga:=ptsV_get hi
  have hsi:=hc.sm i hi
  generalize hG:cmpG o c i=g
  generalize hL:cmpL o c i=l0 at hli
  have hrl:=ptsV_length (c:=l0)
  have hvv:=sm_vP ho (at' c i).2
  obtain⟨⟨x,y⟩,hxy⟩:∃ p,at' c i=p:=⟨_,rfl⟩
  rw [hxy] at hga hsi hvv
  unfold ptV at hga
  dsimp only at hga hsi hvv
  generalize hv0:vP o y=v0 at hvv
  have hvw:=fun k=>value_w k o y g ho hsi.2
  rw [hv0] at hvw
  generalize hg1:vG g o y=g1 at hvw
  simp only [coS,coE]
  simp only [List.map_cons,List.map_nil,TB.inst,TV.inst,tv_map,zipT,List.cons_append,List.nil_append,Nat.add_zero]
  (repeat'(first|(refine sx ?_ ?_<;>intro h<;>first|(exfalso;omega)|skip)|refine ny ?_|(refine uC14_126_6 ?_;refine⟨by kernel_rfl,?_⟩)|(refine uC14_126_13 ?_;refine⟨by kernel_rfl,?_⟩)|(refine uC14_126_23 ?_;refine⟨by kernel_rfl,?_⟩)|fail))
  all_goals(try(exfalso;omega))
  refine WA_block ?_
  refine WA_cutT2 (σ:=Unit) (L:=B) [2,3,4,6,7,8,9,16,17,18] (fun _=>cmS c i) (fun _=>cmE o c g1 (x,y) (l0++[(x,v0)])) (fun _=>True) (by decide) (fun _ _=>cmS_ok) (fun _ _=>cmE_ok) (fun K1 hK1=>?_) (fun _ _ B1 hB1=>?_)
  · cases l0 with
    | nil=>
      have hll:=hlc
      have hlt:=hlc
      simp only [oSt,oE,List.map_nil,TV.inst]
      (have FX:=And.intro hlc (And.intro hlo (And.intro hga (And.intro hll hlt)));repeat'(first|(refine sx ?_ ?_<;>intro h<;>first|(exfalso;omega)|skip)|(refine g_op ?_;refine g_call ?_;refine g_args ?_;(first|refine s_fnW (hvw _) ?_)<;>try first|omega|assumption)|refine ny ?_|refine WA_block ?_|(refine uC14_126_6 ?_;refine⟨by kernel_rfl,?_⟩)|(refine uC14_126_13 ?_;refine⟨by kernel_rfl,?_⟩)|(refine uC14_126_23 ?_;refine⟨by kernel_rfl,?_⟩)|((first|refine grp_w (hvw _) ?_)<;>try first|omega|assumption)|(refine g_d ?_;refine d_args ?_;(first|refine d_fnW (hvw _) ?_)<;>try first|omega|assumption)))
      all_goals(try(exfalso;omega))
      all_goals((refine nextU_ hK1 (()) [0,1,2,3,4,5,7] (trivial) (trivial) ?_ (ht:=?_);(focus (simp only [cmE,lsT,List.length_cons,List.length_nil,Nat.zero_add,List.getD_cons_zero,List.getD_cons_succ,List.map_cons,List.map_nil,TB.inst,TV.inst,tv_map,List.cons_append,List.nil_append];first|rfl|(simp [ptsV,ptV];done)|(simp [hpsV,hpV];done)|(simp [frsV,frV];done)|(simp [txV];done)|(simp [prtsV,prtV];done)));(simp only [cmS,List.map_cons,List.map_nil,TV.inst,List.getD_cons_zero,List.getD_cons_succ];exact tv_)))
    | cons p r=>
      have hll:(ptsV (p::r)).length=r.length+1:=ptsV_length
      have hlt:(ptsV (p::r)).take (r.length+1)=ptsV (p::r):=by rw [List.take_of_length_le (by rw [hll];exact Nat.le_refl _)]
      simp only [List.length_cons] at hli
      simp only [oSt,oE,List.map_cons,List.map_nil,TB.inst,TV.inst,tv_map]
      (have FX:=And.intro hlc (And.intro hlo (And.intro hga (And.intro hll hlt)));repeat'(first|(refine sx ?_ ?_<;>intro h<;>first|(exfalso;omega)|skip)|(refine g_op ?_;refine g_call ?_;refine g_args ?_;(first|refine s_fnW (hvw _) ?_)<;>try first|omega|assumption)|refine ny ?_|refine WA_block ?_|(refine uC14_126_6 ?_;refine⟨by kernel_rfl,?_⟩)|(refine uC14_126_13 ?_;refine⟨by kernel_rfl,?_⟩)|(refine uC14_126_23 ?_;refine⟨by kernel_rfl,?_⟩)|((first|refine grp_w (hvw _) ?_)<;>try first|omega|assumption)|(refine g_d ?_;refine d_args ?_;(first|refine d_fnW (hvw _) ?_)<;>try first|omega|assumption)))
      all_goals(try(exfalso;omega))
      all_goals((refine nextU_ hK1 (()) [0,1,2,3,4,6,8] (trivial) (trivial) ?_ (ht:=?_);(focus (simp only [cmE,lsT,List.length_append,List.length_cons,List.length_nil,Nat.zero_add,List.getD_cons_zero,List.getD_cons_succ,List.map_cons,List.map_nil,TB.inst,TV.inst,tv_map,List.cons_append,List.nil_append];first|rfl|(simp [ptsV,ptV];done)|(simp [hpsV,hpV];done)|(simp [frsV,frV];done)|(simp [txV];done)|(simp [prtsV,prtV];done)));(simp only [cmS,List.map_cons,List.map_nil,TV.inst,List.getD_cons_zero,List.getD_cons_succ];exact tv_)))
  · obtain ⟨D1,hB1⟩:=hB1
    have hB1':B1=lend m++(D++D1):=by rw [hB1,hB,List.append_assoc]
    have hK1:=fun s' js t' m' (h:RoundEndT B1 [2,3,4,6,7,16,17,18] (coS c s') (coE o c (cmpG o c s') (cmpL o c s')) js t' m')=>hK s' (js.map (D1.length+ ·)) t' m' (RoundEndT_up (by rw [hB1] at h;exact h) coS_ok coE_ok)
    clear hK hB1 hB
    obtain⟨l1,hl1e⟩:∃ l1,l0++[(x,v0)]=l1:=⟨_,rfl⟩
    rw [hl1e]
    have hl1:l1.length=l0.length+1:=by rw [←hl1e];simp
    have hll:(ptsV l1).length=l1.length:=ptsV_length
    by_cases hlast:i+1=c.length
    · have hLL:cmpL o c c.length=l1:=by
        rw [←hlast]
        simp only [cmpL,hlast,Nat.lt_irrefl,if_false]
        rw [←hl1e,hL]
        unfold valK
        rw [hxy,hv0]
      have hGG:cmpG o c c.length=g1:=by
        rw [←hlast]
        simp only [cmpG,hlast,Nat.lt_irrefl,if_false]
        unfold valG
        rw [hxy,hG,hg1]
      have hsl1:∀ p∈l1,sm p.1∧sm p.2:=by rw [←hLL];exact sm_cmpL ho hc (Nat.le_refl _)
      have hcp:compP o c=if g1=true∨60<l1.length∨slsG l1 (l1.length - 1) false=true then none else some l1:=by unfold compP;rw [hLL,hGG]
      have hic:(i:Int)=(c.length:Int) - 1:=by omega
      clear hG hL hg1 hv0 hvw hK1
      by_cases hbad:g1=true∨60<l1.length
      · rw [hcp,if_pos (by rcases hbad with h|h;exact .inl h;exact .inr (.inl h))] at hQ
        dsimp only at hQ
        rcases hbad with hbad|hbad
        · rw [hbad]
          simp only [cmE,cmS,lsT]
          simp only [List.map_cons,List.map_nil,TB.inst,TV.inst,tv_map,zipT,List.cons_append,List.nil_append,Nat.add_zero]
          (have FX:=And.intro hlc (And.intro hlo hll);repeat'(first|(refine sx ?_ ?_<;>intro h<;>first|(exfalso;omega)|skip)|refine ny ?_|refine WA_block ?_|(refine uC14_126_6 ?_;refine⟨by kernel_rfl,?_⟩)|(refine uC14_126_13 ?_;refine⟨by kernel_rfl,?_⟩)|(refine uC14_126_23 ?_;refine⟨by kernel_rfl,?_⟩)))
          all_goals(try(exfalso;omega))
          all_goals(refine r_esA hQ (.inl ⟨rfl,rfl,rfl⟩))
        · have hlg:60<l1.length:=hbad
          cases g1
          · simp only [cmE,cmS,lsT]
            simp only [List.map_cons,List.map_nil,TB.inst,TV.inst,tv_map,zipT,List.cons_append,List.nil_append,Nat.add_zero]
            (have FX:=And.intro hlc (And.intro hlo hll);repeat'(first|(refine sx ?_ ?_<;>intro h<;>first|(exfalso;omega)|skip)|refine ny ?_|refine WA_block ?_|(refine uC14_126_6 ?_;refine⟨by kernel_rfl,?_⟩)|(refine uC14_126_13 ?_;refine⟨by kernel_rfl,?_⟩)|(refine uC14_126_23 ?_;refine⟨by kernel_rfl,?_⟩)))
            all_goals(try(exfalso;omega))
            all_goals(refine r_esA hQ (.inl ⟨rfl,rfl,rfl⟩))
          · simp only [cmE,cmS,lsT]
            simp only [List.map_cons,List.map_nil,TB.inst,TV.inst,tv_map,zipT,List.cons_append,List.nil_append,Nat.add_zero]
            (have FX:=And.intro hlc (And.intro hlo hll);repeat'(first|(refine sx ?_ ?_<;>intro h<;>first|(exfalso;omega)|skip)|refine ny ?_|refine WA_block ?_|(refine uC14_126_6 ?_;refine⟨by kernel_rfl,?_⟩)|(refine uC14_126_13 ?_;refine⟨by kernel_rfl,?_⟩)|(refine uC14_126_23 ?_;refine⟨by kernel_rfl,?_⟩)))
            all_goals(try(exfalso;omega))
            all_goals(refine r_esA hQ (.inl ⟨rfl,rfl,rfl⟩))
      · have hgf:g1=false:=by cases g1;rfl;exact(hbad (.inl rfl)).elim
        have hle:l1.length≤60:=Nat.not_lt.1 fun h=>hbad (.inr h)
        subst hgf
        simp only [cmE,cmS,lsT]
        simp only [List.map_cons,List.map_nil,TB.inst,TV.inst,tv_map,zipT,List.cons_append,List.nil_append,Nat.add_zero]
        (have FX:=And.intro hlc (And.intro hlo hll);repeat'(first|(refine sx ?_ ?_<;>intro h<;>first|(exfalso;omega)|skip)|refine ny ?_|refine WA_block ?_|(refine uC14_126_6 ?_;refine⟨by kernel_rfl,?_⟩)|(refine uC14_126_13 ?_;refine⟨by kernel_rfl,?_⟩)|(refine uC14_126_23 ?_;refine⟨by kernel_rfl,?_⟩)))
        all_goals(try(exfalso;omega))
        refine WA_whileJ (σ:=Nat) (L:=B1) [4,6,7,14] (fun j=>[.ptr 0 0 0,.ptr 1 0 0,.ptr 2 0 0,.v (.int .i64 ((j:Int)+1))]) (fun j=>clE (slsG l1 j false) l1) (fun j=>j+1≤l1.length) (fun j=>l1.length - j) 0 [2,3,4,6] (by omega) ?_ ?_ rfl (by decide) (by decide) (fun _ _=>by simp [clE,TV.okT]) (fun _ _=>clE_ok) ?_
        · simp only [List.map_cons,List.map_nil,TV.inst,List.getD_cons_zero,List.getD_cons_succ]
          exact tv_
        · simp only [clE,lsT,List.map_cons,List.map_nil,TB.inst,TV.inst,tv_map,List.getD_cons_zero,List.getD_cons_succ]
          rfl
        rintro j hj B2 ⟨D2,hB2⟩ K2 hK2
        have hB2':B2=lend m++(D++D1++D2):=by rw [hB2,hB1',List.append_assoc]
        clear FX hB2
        rcases Nat.lt_or_ge (j+1) l1.length with hj1|hj1
        · have hgj:=ptsV_get (c:=l1) (i:=j) (by omega)
          have hgk:=ptsV_get (c:=l1) (i:=j+1) hj1
          have hs1:=hsl1 _ (mem_at (c:=l1) (i:=j) (by omega))
          have hs2:=hsl1 _ (mem_at hj1)
          have hsu:slsG l1 (j+1) false=slG (slsG l1 j false) (at' l1 j) (at' l1 (j+1)):=rfl
          obtain⟨⟨u,v⟩,hu⟩:∃ p,at' l1 j=p:=⟨_,rfl⟩
          obtain⟨⟨u2,v2⟩,hu2⟩:∃ p,at' l1 (j+1)=p:=⟨_,rfl⟩
          rw [hu] at hgj hs1 hsu
          rw [hu2] at hgk hs2 hsu
          unfold ptV at hgj hgk
          dsimp only at hgj hgk hs1 hs2
          have ht0:((j:Int)+1 - 1).toNat=j:=by omega
          have ht1:((j:Int)+1).toNat=j+1:=by omega
          simp only [clE,lsT]
          simp only [List.map_cons,List.map_nil,TB.inst,TV.inst,tv_map,zipT,List.cons_append,List.nil_append,Nat.add_zero]
          (have FX:=And.intro hll (And.intro hgj (And.intro hgk (And.intro ht0 ht1)));repeat'(first|(refine sx ?_ ?_<;>intro h<;>first|(exfalso;omega)|skip)|(refine g_op ?_;refine g_call ?_;refine g_args ?_;(first|refine s_fnW (slope_w _ (u,v) (u2,v2) _ hs1.1 hs1.2 hs2.1 hs2.2) ?_)<;>try first|omega|assumption)|refine ny ?_|refine WA_block ?_|(refine uC14_126_6 ?_;refine⟨by kernel_rfl,?_⟩)|(refine uC14_126_13 ?_;refine⟨by kernel_rfl,?_⟩)|(refine uC14_126_23 ?_;refine⟨by kernel_rfl,?_⟩)|((first|refine grp_w (slope_w _ (u,v) (u2,v2) _ hs1.1 hs1.2 hs2.1 hs2.2) ?_)<;>try first|omega|assumption)|(refine g_d ?_;refine d_args ?_;(first|refine d_fnW (slope_w _ (u,v) (u2,v2) _ hs1.1 hs1.2 hs2.1 hs2.2) ?_)<;>try first|omega|assumption)))
          all_goals(try(exfalso;omega))
          all_goals((refine nextU_ hK2 (j+1) [0,1,2,3] (hj1) (by omega) ?_ (ht:=?_);(focus (simp only [clE,lsT,hsu,List.getD_cons_zero,List.getD_cons_succ,List.map_cons,List.map_nil,TB.inst,TV.inst,tv_map,List.cons_append,List.nil_append];first|rfl|(simp [ptsV,ptV];done)|(simp [hpsV,hpV];done)|(simp [frsV,frV];done)|(simp [txV];done)|(simp [prtsV,prtV];done)));(simp only [List.length_nil,List.map_cons,List.map_nil,TV.inst,List.getD_cons_zero,List.getD_cons_succ];exact tv_)))
        · have hje:j=l1.length - 1:=by omega
          simp only [clE,lsT]
          simp only [List.map_cons,List.map_nil,TB.inst,TV.inst,tv_map,zipT,List.cons_append,List.nil_append,Nat.add_zero]
          rw [hcp] at hQ
          rw [←hje] at hQ
          cases hsg:slsG l1 j false with
          | true=>
            rw [hsg,if_pos (.inr (.inr rfl))] at hQ
            dsimp only at hQ
            (have FX:=hll;repeat'(first|(refine sx ?_ ?_<;>intro h<;>first|(exfalso;omega)|skip)|refine ny ?_|refine WA_block ?_|(refine uC14_126_6 ?_;refine⟨by kernel_rfl,?_⟩)|(refine uC14_126_13 ?_;refine⟨by kernel_rfl,?_⟩)|(refine uC14_126_23 ?_;refine⟨by kernel_rfl,?_⟩)))
            all_goals(try(exfalso;omega))
            all_goals(refine r_esA hQ (.inl ⟨rfl,rfl,rfl⟩))
          | false=>
            rw [hsg,if_neg (by intro h;rcases h with h|h|h;exact absurd h (by simp);omega;exact absurd h (by simp))] at hQ
            dsimp only at hQ
            (have FX:=hll;repeat'(first|(refine sx ?_ ?_<;>intro h<;>first|(exfalso;omega)|skip)|refine ny ?_|refine WA_block ?_|(refine uC14_126_6 ?_;refine⟨by kernel_rfl,?_⟩)|(refine uC14_126_13 ?_;refine⟨by kernel_rfl,?_⟩)|(refine uC14_126_23 ?_;refine⟨by kernel_rfl,?_⟩)))
            all_goals(try(exfalso;omega))
            all_goals(refine r_esA hQ ?_)
            all_goals(refine fin_tas (D:=D++D1++D2) (j:=3) hB2' rfl (by rw [hll];exact Nat.le_refl _) (by rw [List.take_of_length_le (by rw [hll];exact Nat.le_refl _)];exact ptsV_plain _) (fun m L=>frz_int m L 3 _ _) ⟨?_,rfl⟩)
            all_goals(rw [List.take_of_length_le (by rw [hll];exact Nat.le_refl _)])
    · have hi1:i+1<c.length:=by omega
      obtain⟨⟨x2,y2⟩,hxy2⟩:∃ p,at' c (i+1)=p:=⟨_,rfl⟩
      have hgb:=ptsV_get hi1
      have hs2:=hc.sm (i+1) hi1
      rw [hxy2] at hgb hs2
      unfold ptV at hgb
      dsimp only at hgb hs2
      have hti:((i:Int)+1).toNat=i+1:=by omega
      clear hvw
      generalize hmk:midK o c i=mk
      have hmkB:betwP o y y2=mk:=by rw [←hmk];unfold midK;rw [hxy,hxy2]
      have hmkl:mk.length≤o.length:=by rw [←hmk];exact midK_len o c i
      have hsl:∀ g,slG g (at' c i) (at' c (i+1))=slG g (x,y) (x2,y2):=fun g=>by rw [hxy,hxy2]
      generalize hs':slP (x,y) (x2,y2)=s
      generalize hg2:slG g1 (x,y) (x2,y2)=g2
      have hmv:=ptsV_length (c:=mk)
      have hslw:=fun k=>slope_w k (x,y) (x2,y2) g1 hsi.1 hsi.2 hs2.1 hs2.2
      rw [hs',hg2] at hslw
      simp only [cmE,cmS,lsT]
      simp only [List.map_cons,List.map_nil,TB.inst,TV.inst,tv_map,zipT,List.cons_append,List.nil_append,Nat.add_zero]
      (have FX:=And.intro hlc (And.intro hlo (And.intro hll (And.intro hgb (And.intro hti hmv))));repeat'(first|(refine sx ?_ ?_<;>intro h<;>first|(exfalso;omega)|skip)|(refine g_op ?_;refine g_call ?_;refine g_args ?_;(first|refine s_fn (between_c o y y2 ho hsi.2 hs2.2 _) ?_|refine s_fnW (hslw _) ?_)<;>try first|omega|assumption)|refine ny ?_|refine WA_block ?_|(refine uC14_126_6 ?_;refine⟨by kernel_rfl,?_⟩)|(refine uC14_126_13 ?_;refine⟨by kernel_rfl,?_⟩)|(refine uC14_126_23 ?_;refine⟨by kernel_rfl,?_⟩)|((first|refine grp_cons (fun _=>between_c o y y2 ho hsi.2 hs2.2 _) ?_|refine grp_w (hslw _) ?_)<;>try first|omega|assumption)|(refine g_d ?_;refine d_args ?_;(first|refine d_fn (between_c o y y2 ho hsi.2 hs2.2 _) ?_|refine d_fnW (hslw _) ?_|refine d_fnQ (fun _=>between_c o y y2 ho hsi.2 hs2.2 _) ?_)<;>try first|omega|assumption)|(refine g_d ?_;(first|refine d_fnY (between_c o y y2 ho hsi.2 hs2.2 _) ?_)<;>try first|omega|assumption)))
      all_goals(try(exfalso;omega))
      refine WA_whileJ (σ:=Nat) (L:=B1) [2,3,4,6,7,8,9,11,16,17,18,55,56,57] (ceS c mk i) (fun k=>ceE o c (midG c i (mk.take k) g2) (x,y) s (l1++midL o c i (mk.take k))) (fun k=>k≤mk.length) (fun k=>mk.length - k) 0 [0,1,2,3,4,5,8,6] (Nat.zero_le _) ?_ ?_ rfl (by decide) (by decide) (fun _ _=>ceS_ok) (fun _ _=>ceE_ok) ?_
      · simp only [ceS,List.map_cons,List.map_nil,TV.inst,List.getD_cons_zero,List.getD_cons_succ,hmkB,hmv]
        exact tv_
      · simp only [ceE,lsT,List.take_zero,midG,midL,List.foldl_nil,List.map_nil,List.append_nil,List.map_cons,List.map_nil,TB.inst,TV.inst,tv_map,List.getD_cons_zero,List.getD_cons_succ]
        rfl
      rintro k hk B2 ⟨D2,hB2⟩ K2 hK2
      have hK3:=fun s' js t' m' (h:RoundEndT B2 [2,3,4,6,7,16,17,18] (coS c s') (coE o c (cmpG o c s') (cmpL o c s')) js t' m')=>hK1 s' (js.map (D2.length+ ·)) t' m' (RoundEndT_up (by rw [hB2] at h;exact h) coS_ok coE_ok)
      clear FX hK1
      have hB2':B2=lend m++(D++D1++D2):=by rw [hB2,hB1',List.append_assoc]
      clear hB2 hB1'
      rcases Nat.lt_or_ge k mk.length with hk1|hk1
      · have hgk:=ptsV_get (c:=mk) (i:=k) hk1
        have hsm:=valid_mem ho (midK_mem (by rw [hmk];exact mem_at hk1))
        have hmg:midG c i (mk.take (k+1)) g2=xG (midG c i (mk.take k) g2) (x,y) s (at' mk k).1:=by rw [take_at hk1,midG_snoc,hxy,hxy2,hs']
        have hml:midL o c i (mk.take (k+1))=midL o c i (mk.take k)++[(xP (x,y) s (at' mk k).1,(at' mk k).2)]:=by rw [take_at hk1,midL_snoc,hxy,hxy2,hs']
        have hnx:=hK2 (k+1)
        rw [hmg,hml] at hnx
        have hkl:(midL o c i (mk.take k)).length=k:=by rw [midL_len,List.length_take];omega
        generalize midG c i (mk.take k) g2=g3 at hnx ⊢
        generalize midL o c i (mk.take k)=l2 at hnx hkl ⊢
        rw [←List.append_assoc] at hnx
        have hl3l:(l1++l2).length≤121:=by rw [List.length_append];omega
        generalize hl3:l1++l2=l3 at hnx hl3l ⊢
        have hny:=fun(_:Unit)=>hnx
        obtain⟨⟨u,v⟩,huv⟩:∃ p,at' mk k=p:=⟨_,rfl⟩
        rw [huv] at hgk hsm hny
        unfold ptV at hgk
        dsimp only at hgk hsm hny
        have hss:sm s:=by rw [←hs'];exact sm_slP _ _
        have hll3:(ptsV l3).length=l3.length:=ptsV_length
        have hlt3:(ptsV l3).take l3.length=ptsV l3:=by rw [List.take_of_length_le (by rw [hll3];exact Nat.le_refl _)]
        have hxg:xG g3 (x,y) s u=((((g3 || !smB (u - y)) || quoB (cut (u - y)) s) || !smB (quoQ (cut (u - y)) s+x))):=rfl
        have hxp:xP (x,y) s u=cut (quoQ (cut (u - y)) s+x):=rfl
        rw [hxg,hxp] at hny
        clear hnx hK2 hK3 hslw
        simp only [ceE,ceS,lsT]
        simp only [List.map_cons,List.map_nil,TB.inst,TV.inst,tv_map,zipT,List.cons_append,List.nil_append,Nat.add_zero]
        (have FX:=And.intro hlc (And.intro hmv (And.intro hgk (And.intro hll3 hlt3)));repeat'(first|(refine sx ?_ ?_<;>intro h<;>first|(exfalso;omega)|skip)|(refine g_op ?_;refine g_call ?_;refine g_args ?_;(first|refine s_fnW (sub_w _ u y _ hsm.1 hsi.2) ?_|refine s_fnW (quoQ_w _ _ _ _ (sm_cut _) hss) ?_|refine s_fnW (add_w _ _ _ _ (sm_quoQ _ _) hsi.1) ?_)<;>try first|omega|assumption)|refine ny ?_|refine WA_block ?_|(refine uC14_126_6 ?_;refine⟨by kernel_rfl,?_⟩)|(refine uC14_126_13 ?_;refine⟨by kernel_rfl,?_⟩)|(refine uC14_126_23 ?_;refine⟨by kernel_rfl,?_⟩)|((first|refine grp_w (sub_w _ u y _ hsm.1 hsi.2) ?_|refine grp_w (quoQ_w _ _ _ _ (sm_cut _) hss) ?_|refine grp_w (add_w _ _ _ _ (sm_quoQ _ _) hsi.1) ?_)<;>try first|omega|assumption)|(refine g_d ?_;refine d_args ?_;(first|refine d_fnW (sub_w _ u y _ hsm.1 hsi.2) ?_|refine d_fnW (quoQ_w _ _ _ _ (sm_cut _) hss) ?_|refine d_fnW (add_w _ _ _ _ (sm_quoQ _ _) hsi.1) ?_)<;>try first|omega|assumption)))
        all_goals(try(exfalso;omega))
        all_goals((refine nextU_ hny (()) [0,1,2,3,4,5,6,10] (by omega) (by omega) ?_ (ht:=?_);(focus (simp only [ceE,lsT,List.length_append,List.length_cons,List.length_nil,Nat.zero_add,List.getD_cons_zero,List.getD_cons_succ,List.map_cons,List.map_nil,TB.inst,TV.inst,tv_map,List.cons_append,List.nil_append];first|rfl|(simp [ptsV,ptV];done)|(simp [hpsV,hpV];done)|(simp [frsV,frV];done)|(simp [txV];done)|(simp [prtsV,prtV];done)));(simp only [ceS,List.map_cons,List.map_nil,TV.inst,List.getD_cons_zero,List.getD_cons_succ];exact tv_)))
      · have hke:k=mk.length:=by omega
        subst hke
        rw [List.take_of_length_le (Nat.le_refl _)]
        have hLn:cmpL o c (i+1)=l1++midL o c i mk:=by
          simp only [cmpL,hi1,if_true]
          rw [hmk,hL,←hl1e,List.append_assoc,List.singleton_append]
          unfold valK
          rw [hxy,hv0]
        have hGn:cmpG o c (i+1)=midG c i mk g2:=by
          simp only [cmpG,hi1,if_true]
          rw [hmk,hsl,←hg2]
          unfold valG
          rw [hxy,hG,hg1]
        have hmo:=cmpL_mono o c (i:=i+1) (j:=c.length) (by omega)
        have hnx:=hK3 (i+1)
        rw [hLn] at hmo hnx
        rw [hGn] at hnx
        generalize midG c i mk g2=g3 at hnx ⊢
        generalize hl3:l1++midL o c i mk=l3 at hmo hnx ⊢
        have hl3p:0<l3.length:=by rw [←hl3,List.length_append];omega
        have hll3:(ptsV l3).length=l3.length:=ptsV_length
        rw [coE_pos hl3p] at hnx
        clear hK2 hK3 hslw
        simp only [ceE,ceS,lsT]
        simp only [List.map_cons,List.map_nil,TB.inst,TV.inst,tv_map,zipT,List.cons_append,List.nil_append,Nat.add_zero]
        by_cases hbig:60<l3.length
        · have hcp:compP o c=none:=by unfold compP;rw [if_pos (.inr (.inl (by omega)))]
          rw [hcp] at hQ
          dsimp only at hQ
          (have FX:=And.intro hlc (And.intro hmv hll3);repeat'(first|(refine sx ?_ ?_<;>intro h<;>first|(exfalso;omega)|skip)|refine ny ?_|refine WA_block ?_|(refine uC14_126_6 ?_;refine⟨by kernel_rfl,?_⟩)|(refine uC14_126_13 ?_;refine⟨by kernel_rfl,?_⟩)|(refine uC14_126_23 ?_;refine⟨by kernel_rfl,?_⟩)))
          all_goals(try(exfalso;omega))
          all_goals(refine r_esA hQ (.inl ⟨rfl,rfl,rfl⟩))
        · have hny:=fun(_:Unit)=>hnx
          (have FX:=And.intro hlc (And.intro hmv hll3);repeat'(first|(refine sx ?_ ?_<;>intro h<;>first|(exfalso;omega)|skip)|refine ny ?_|refine WA_block ?_|(refine uC14_126_6 ?_;refine⟨by kernel_rfl,?_⟩)|(refine uC14_126_13 ?_;refine⟨by kernel_rfl,?_⟩)|(refine uC14_126_23 ?_;refine⟨by kernel_rfl,?_⟩)))
          all_goals(try(exfalso;omega))
          all_goals((refine nextU_ hny (()) [0,1,2,3,4,7] (⟨hi1,by omega⟩) (by omega) ?_ (ht:=?_);(focus (simp only [lsT,List.getD_cons_zero,List.getD_cons_succ,List.map_cons,List.map_nil,TB.inst,TV.inst,tv_map,List.cons_append,List.nil_append];first|rfl|(simp [ptsV,ptV];done)|(simp [hpsV,hpV];done)|(simp [frsV,frV];done)|(simp [txV];done)|(simp [prtsV,prtV];done)));(simp only [coS,List.map_cons,List.map_nil,TV.inst,List.getD_cons_zero,List.getD_cons_succ];exact tv_)))
end Go.Proofs.YtomkbpoicjabfaaGreatDoor
