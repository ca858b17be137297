import Derived.Test.YtnablpehkeicmaaGreatGAP
import Derived.Test.YtnablpehkeicmaaGreatYC
set_option linter.unusedSimpArgs false
set_option linter.unusedVariables false
/- contracts: slopes -/
namespace Go.Proofs.YtnablpehkeicmaaGreat
open Go.RowKit
attribute [local irreducible] WA WOs WDs WAn qThen qBlock tput
set_option maxHeartbeats 1000000
set_option maxRecDepth 20000
set_option linter.unusedSimpArgs false
set_option linter.unusedVariables false
attribute [local irreducible] smB cut
theorem smB_no{q:Rat}(h:¬ sm q):smB q=false:=by
  cases hb:smB q with
  |false=>rfl
  |true=>exact(h (smB_iff.1 hb)).elim
def ptV(p:Pt):List V:=[.int .i64 p.1.num,.int .i64 (p.1.den:Int),.int .i64 p.2.num,.int .i64 (p.2.den:Int)]
/-- the slope, and whether it is large, as the program finds them -/
def slP(a b:Pt):Rat:=quoQ (cut (b.2 - a.2)) (cut (b.1 - a.1))
def slG(g:Bool)(a b:Pt):Bool:=((g || !smB (b.2 - a.2)) || !smB (b.1 - a.1)) || quoB (cut (b.2 - a.2)) (cut (b.1 - a.1))
theorem sm_quoQ(a b:Rat):sm (quoQ a b):=by
  unfold quoQ;split
  · exact sm_zero
  · exact sm_cut _
theorem sm_slP(a b:Pt):sm (slP a b):=sm_quoQ _ _
theorem sub_ne{a b:Rat}(h:a<b):b - a≠0:=by
  intro e
  have:b=a:=by grind
  rw [this] at h
  exact Rat.lt_irrefl h
theorem slP_ok{a b:Pt}(h:slOk a b)(hlt:a.1<b.1)(g:Bool):slP a b=sl a b∧slG g a b=g:=by
  obtain⟨h1,h2,h3⟩:=h
  have hne:=sub_ne hlt
  unfold slP slG quoQ quoB
  rw [cut_sm h2,cut_sm h1,if_neg hne,if_neg hne,smB_of h1,smB_of h2]
  unfold sl at h3
  rw [cut_sm h3,smB_of h3]
  exact⟨rfl,by simp⟩
theorem slG_iff{a b:Pt}(hlt:a.1<b.1):slG false a b=false↔slOk a b:=by
  refine⟨fun h=>?_,fun h=>(slP_ok h hlt false).2⟩
  unfold slG quoB at h
  simp only [Bool.or_eq_false_iff,Bool.not_eq_false',Bool.false_or] at h
  obtain⟨⟨h1,h2⟩,h3⟩:=h
  have s1:=smB_iff.1 h1
  have s2:=smB_iff.1 h2
  rw [cut_sm s1,cut_sm s2,if_neg (sub_ne hlt)] at h3
  have h4:smB ((b.2 - a.2) / (b.1 - a.1))=true:=by simpa using h3
  exact⟨s1,s2,smB_iff.1 h4⟩
theorem slG_true(a b:Pt):slG true a b=true:=by unfold slG;simp
theorem uC4_103_1{N:Nat}{l:List Oper}{t:List (Nat×V)}{m:Mem}{Q:Exit→List (Nat×V)→Mem→Prop}(h:RgT Tryz.prog N l t m Q 163 (fun i=>if i==14 then .w else if i==6 || i==12 || i==13 then .f else if i==3 || i==5 || i==9 || i==11 then .q else .p) [.one 0,.one 1,.one 2,.one 3,.one 4,.one 5,.one 7,.one 8,.one 9,.one 10,.one 11,.one 6,.one 12,.one 13,.one 14]):WA Tryz.prog N (.region 1 l.toArray true) t m Q:=d_rgT h
theorem slope_w(k:Nat)(a b:Pt)(g:Bool)(a1:sm a.1)(a2:sm a.2)(b1:sm b.1)(b2:sm b.2):CallW Tryz.prog 103 [.ptr k 0 0,.agg (ptV a),.agg (ptV b)] k (.cells .own 163 1 [[.bool (g)]]) (.cells .own 163 1 [[.bool (slG g a b)]]) (.agg [.int .i64 (Rat.num (slP a b)),.int .i64 ((Rat.den (slP a b):Nat):Int)]):=by
  obtain⟨x,y⟩:=a
  obtain⟨u,v⟩:=b
  dsimp only at*
  unfold ptV slP slG
  dsimp only
  refine CallW_in (tvs:=[.ptr 0 0 0,.v (.agg [.int .i64 x.num,.int .i64 (x.den:Int),.int .i64 y.num,.int .i64 (y.den:Int)]),.v (.agg [.int .i64 u.num,.int .i64 (u.den:Int),.int .i64 v.num,.int .i64 (v.den:Int)])]) Tryz.func103 rfl Tryz.ntmps103 Tryz.results103 (by kernel_rfl) (by simp) (by simp [flatL,V.flat]) rfl fun m Q hQ=>?_
  simp only [List.map_cons,List.map_nil,TV.inst]
  (repeat'(first|(refine sx ?_ ?_<;>intro h<;>first|(exfalso;omega)|skip)|(refine na ?_;(first|refine s_fnW (sub_w _ _ _ _ ?_ ?_) ?_|refine s_fnW (quoQ_w _ _ _ _ (sm_cut _) (sm_cut _)) ?_|refine d_fnW (sub_w _ _ _ _ ?_ ?_) ?_|refine d_fnW (quoQ_w _ _ _ _ (sm_cut _) (sm_cut _)) ?_|refine grp_w (sub_w _ _ _ _ ?_ ?_) ?_|refine grp_w (quoQ_w _ _ _ _ (sm_cut _) (sm_cut _)) ?_)<;>try first|omega|assumption)|refine ny ?_|refine WA_block ?_|(refine uC4_103_1 ?_;refine⟨by kernel_rfl,?_⟩)))
  all_goals(refine r_esW hQ ?_ ?_<;>try with_reducible rfl)
end Go.Proofs.YtnablpehkeicmaaGreat
namespace Go.Proofs.YtnablpehkeicmaaGreat
open Go.RowKit
attribute [local irreducible] WA WOs WDs WAn qThen qBlock tput
set_option maxHeartbeats 1000000
set_option maxRecDepth 20000
set_option linter.unusedSimpArgs false
set_option linter.unusedVariables false
attribute [local irreducible] smB cut sm
def rkV(k:Rk):List V:=[.int .i64 k.1.1,.int .i64 k.1.2,.int .i64 k.2.1,.int .i64 k.2.2]
def rksV(l:List Rk):List (List V):=l.map rkV
theorem rksV_length{l:List Rk}:(rksV l).length=l.length:=by simp [rksV]
theorem rksV_get{l:List Rk}{i:Nat}(h:i<l.length):(rksV l)[i]?=some (rkV (l.getD i rk0)):=by
  unfold rksV;rw [List.getElem?_map,rk_getD h];rfl
theorem rksV_plain(l:List Rk):plainLL (rksV l)=true:=by
  induction l with
  |nil=>rfl
  |cons x xs ih=>simp only [rksV,List.map_cons,plainLL,rkV,plainL,V.plain,Bool.true_and] at ih ⊢;exact ih
theorem rksV_flat(l:List Rk):(rksV l).all flatL=true:=by simp [rksV,rkV,flatL,V.flat]
theorem cmpQ_le{p q:Rat}:cmpQ p q≤0↔p≤q:=by
  unfold cmpQ
  by_cases h1:p<q
  · rw [if_pos h1];simp [Rat.le_of_lt h1]
  · rw [if_neg h1]
    by_cases h2:q<p
    · rw [if_pos h2];simp [Rat.not_le.2 h2]
    · rw [if_neg h2];simp [Rat.not_lt.1 h2]
theorem cmpQ_bd(p q:Rat): -1≤cmpQ p q∧cmpQ p q≤1:=by unfold cmpQ;split<;>(try split)<;>omega
end Go.Proofs.YtnablpehkeicmaaGreat
namespace Go.Proofs.YtnablpehkeicmaaGreat
end Go.Proofs.YtnablpehkeicmaaGreat
namespace Go.Proofs.YtnablpehkeicmaaGreat
open Go.RowKit
attribute [local irreducible] WA WOs WDs WAn qThen qBlock tput
set_option maxHeartbeats 1000000
set_option maxRecDepth 20000
set_option linter.unusedSimpArgs false
set_option linter.unusedVariables false
attribute [local irreducible] smB cut sm
def ptsV(c:List Pt):List (List V):=c.map ptV
theorem ptsV_length{c:List Pt}:(ptsV c).length=c.length:=by simp [ptsV]
theorem ptsV_get{c:List Pt}{i:Nat}(h:i<c.length):(ptsV c)[i]?=some (ptV (at' c i)):=by
  unfold ptsV;rw [List.getElem?_map,at_get h];rfl
theorem ptsV_raw(c:List Pt):ptsV c=rksV (c.map raw):=by simp [ptsV,rksV,ptV,rkV,raw,rawQ]
theorem ptsV_plain(c:List Pt):plainLL (ptsV c)=true:=by rw [ptsV_raw];exact rksV_plain _
theorem ptsV_flat(c:List Pt):(ptsV c).all flatL=true:=by rw [ptsV_raw];exact rksV_flat _
theorem b_shr1{P:Program}{m:Mem}{T:TypeId}{j:IntKind}{a:Int}:evB P m .shr T (.int .u64 a) (.int j 1)=some (True,.int .u64 (a / 2),m):=by
  rw [b_shr]
  have h1:(min (Int.toNat 1) IntKind.u64.bits)=1:=rfl
  rw [h1]
  have h2:a.fdiv (2 ^ 1)=a / 2:=by rw [Int.fdiv_eq_ediv_of_nonneg];rfl;decide
  rw [h2]
  simp

theorem astretch1_c(p:Pt)(x:Rat)(hp:sm p.1)(hx:sm x)(m:Mem):Gives Tryz.prog 120 [.agg (ptV p),.agg [.int .i64 (Rat.num (x)),.int .i64 ((Rat.den (x):Nat):Int)]] m (.int .i64 (if p.1≤x then -1 else 1)):=by
  have hle:=cmpQ_le (p:=p.1) (q:=x)
  unfold ptV
  by_cases h:p.1≤x
  · have hc:=hle.2 h
    rw [if_pos h]
    refine Gives_in Tryz.func120 rfl Tryz.ntmps120 Tryz.results120 (by kernel_rfl) (by simp) rfl fun Q hQ=>?_
    (repeat'(first|(refine sx ?_ ?_<;>intro h<;>first|(exfalso;omega)|skip)|(refine na ?_;(first|refine nb (acompare_c p.1 x hp hx) ?_)<;>try first|omega|assumption)|refine ny ?_|refine WA_block ?_))
    all_goals first|(exfalso;omega)|(refine r_es hQ ?_;try with_reducible rfl)
  · have hc:¬ cmpQ p.1 x≤0:=fun h1=>h (hle.1 h1)
    rw [if_neg h]
    refine Gives_in Tryz.func120 rfl Tryz.ntmps120 Tryz.results120 (by kernel_rfl) (by simp) rfl fun Q hQ=>?_
    (repeat'(first|(refine sx ?_ ?_<;>intro h<;>first|(exfalso;omega)|skip)|(refine na ?_;(first|refine nb (acompare_c p.1 x hp hx) ?_)<;>try first|omega|assumption)|refine ny ?_|refine WA_block ?_))
    all_goals first|(exfalso;omega)|(refine r_es hQ ?_;try with_reducible rfl)
theorem uC7_119_5{N:Nat}{l:List Oper}{t:List (Nat×V)}{m:Mem}{Q:Exit→List (Nat×V)→Mem→Prop}(h:RgN Tryz.prog N l t m Q (fun i=>if i==4 || i==5 || i==6 then .q else .p) [.one 0,.one 1,.one 2,.one 3,.one 4,.one 5,.one 6,.one 7]):WA Tryz.prog N (.region 5 l.toArray true) t m Q:=d_rgN h
theorem uC7_119_8{N:Nat}{l:List Oper}{t:List (Nat×V)}{m:Mem}{Q:Exit→List (Nat×V)→Mem→Prop}(h:RgN Tryz.prog N l t m Q (fun i=>if i==9 || i==10 || i==11 then .q else .p) [.one 0,.one 1,.one 2,.one 3,.one 4,.one 5,.one 6,.one 7,.one 8,.one 9,.one 10,.one 11,.one 12,.one 13,.one 14,.one 15]):WA Tryz.prog N (.region 8 l.toArray true) t m Q:=d_rgN h
theorem absearch_c(c:List Pt)(x:Rat)(hv:Valid c)(hx:sm x)(m:Mem):Gives Tryz.prog 119 [.lst (ptsV c),.agg [.int .i64 (Rat.num (x)),.int .i64 ((Rat.den (x):Nat):Int)],.clo (.func 120) [] []] m (.tup [.int .i64 (cnt c x),.bool false]):=by
  have hlen:=ptsV_length (c:=c)
  have hfew:=hv.few
  have hget:=hlen
  have hh:=hlen
  have hcl:=fun m=>astretch1_c (0,0) 0 sm_zero sm_zero m
  refine Gives_in Tryz.func119 rfl Tryz.ntmps119 Tryz.results119 (by kernel_rfl) (by simp) rfl fun Q hQ=>?_
  (have FX:=fx4 hlen hget hh @b_shr1;repeat'(first|(refine sx ?_ ?_<;>intro h<;>first|(exfalso;omega)|skip)|(refine na ?_;(first|refine nb hcl ?_)<;>try first|omega|assumption)|(refine g_op ?_;refine g_dyn ?_;refine g_dargs ?_;first|(refine s_fn (hcl _) ?_<;>try first|omega|assumption))|refine ny ?_|refine WA_block ?_|(refine uC7_119_5 ?_;refine⟨by kernel_rfl,?_⟩)|(refine uC7_119_8 ?_;refine⟨by kernel_rfl,?_⟩)|(refine g_d ?_;(first|refine d_fnY (hcl _) ?_)<;>try first|omega|assumption)|(refine g_d ?_;first|(refine d_dyn (hcl _) ?_<;>try first|omega|assumption)|(refine d_dynY (hcl _) ?_<;>try first|omega|assumption))))
  refine WA_whileK (σ:=Nat×Nat) [0,2,4,8,9,10] (fun s=>[.lst (ptsV c),.clo (.func 120) [] [],.ptr (lend m).length 0 0,.int .i64 c.length,.int .i64 s.1,.int .i64 s.2]) (fun _=>[.cells .own 104 2 [[.int .i64 x.num,.int .i64 (x.den:Int)]]]) 1 (fun s=>s.1≤s.2∧s.2≤c.length∧(∀ j,j<s.1→(at' c j).1≤x)∧(∀ j,s.2≤j→j<c.length→x<(at' c j).1)) (fun s=>s.2 - s.1) (0,c.length) ⟨Nat.zero_le _,Nat.le_refl _,fun j h=>absurd h (Nat.not_lt_zero _),fun j h1 h2=>absurd h2 (Nat.not_lt.2 h1)⟩ tv_ rfl (fun _=>rfl) (by intro s s' _ _;simp [conB,conS,V.keeps,V.plain,Blk.flat,flatL,plainL,V.flat]) (by intro s s' _ _;simp [conB,conS,V.keeps,V.plain,Blk.flat,flatL,plainL,V.flat]) ?_
  rintro⟨i,j⟩ ⟨i1,i2,i3,i4⟩ K hK
  dsimp only at i1 i2 i3 i4
  simp only [zipT]
  clear FX
  rcases Nat.lt_or_ge i j with hij|hij
  · have hm:(i+j) / 2<c.length:=by omega
    have hget:=ptsV_get hm
    have hh:(((i:Int)+(j:Int)) / 2).toNat=(i+j) / 2:=by omega
    have hcl:=fun m=>astretch1_c (at' c ((i+j) / 2)) x (hv.sm _ hm).1 hx m
    unfold ptV at hcl hget
    by_cases hle:(at' c ((i+j) / 2)).1≤x
    · rw [if_pos hle] at hcl
      (have FX:=fx4 hlen hget hh @b_shr1;repeat'(first|(refine sx ?_ ?_<;>intro h<;>first|(exfalso;omega)|skip)|(refine na ?_;(first|refine nb hcl ?_)<;>try first|omega|assumption)|(refine g_op ?_;refine g_dyn ?_;refine g_dargs ?_;first|(refine s_fn (hcl _) ?_<;>try first|omega|assumption))|refine ny ?_|refine WA_block ?_|(refine uC7_119_5 ?_;refine⟨by kernel_rfl,?_⟩)|(refine uC7_119_8 ?_;refine⟨by kernel_rfl,?_⟩)|(refine g_d ?_;(first|refine d_fnY (hcl _) ?_)<;>try first|omega|assumption)|(refine g_d ?_;first|(refine d_dyn (hcl _) ?_<;>try first|omega|assumption)|(refine d_dynY (hcl _) ?_<;>try first|omega|assumption))))
      all_goals(try(exfalso;omega))
      all_goals(refine nextL_ hK ((i+j) / 2+1,j) ⟨by dsimp only;omega,i2,fun k h2=>?_,i4⟩ (by dsimp only;omega))
      all_goals(dsimp only at h2;exact Rat.le_trans (hv.asc.le (by omega) hm) hle)
    · rw [if_neg hle] at hcl
      (have FX:=fx4 hlen hget hh @b_shr1;repeat'(first|(refine sx ?_ ?_<;>intro h<;>first|(exfalso;omega)|skip)|(refine na ?_;(first|refine nb hcl ?_)<;>try first|omega|assumption)|(refine g_op ?_;refine g_dyn ?_;refine g_dargs ?_;first|(refine s_fn (hcl _) ?_<;>try first|omega|assumption))|refine ny ?_|refine WA_block ?_|(refine uC7_119_5 ?_;refine⟨by kernel_rfl,?_⟩)|(refine uC7_119_8 ?_;refine⟨by kernel_rfl,?_⟩)|(refine g_d ?_;(first|refine d_fnY (hcl _) ?_)<;>try first|omega|assumption)|(refine g_d ?_;first|(refine d_dyn (hcl _) ?_<;>try first|omega|assumption)|(refine d_dynY (hcl _) ?_<;>try first|omega|assumption))))
      all_goals(try(exfalso;omega))
      all_goals(refine nextL_ hK (i,(i+j) / 2) ⟨by dsimp only;omega,by dsimp only;omega,i3,fun k h2 h3=>?_⟩ (by dsimp only;omega))
      all_goals(dsimp only at h2;have h5:=hv.asc.le h2 h3;have h6:=Rat.not_le.1 hle;grind)
  · have hij':i=j:=by omega
    subst hij'
    have hcn:=cnt_uniq hv.asc i2 i3 i4
    rw [←hcn] at hQ
    rcases Nat.lt_or_ge i c.length with hi|hi
    · have hget:=ptsV_get hi
      have hh:((i:Int)).toNat=i:=by omega
      have hcl:=fun m=>astretch1_c (at' c i) x (hv.sm _ hi).1 hx m
      rw [if_neg (Rat.not_le.2 (i4 i (Nat.le_refl _) hi))] at hcl
      unfold ptV at hcl hget
      (have FX:=fx4 hlen hget hh @b_shr1;repeat'(first|(refine sx ?_ ?_<;>intro h<;>first|(exfalso;omega)|skip)|(refine na ?_;(first|refine nb hcl ?_)<;>try first|omega|assumption)|(refine g_op ?_;refine g_dyn ?_;refine g_dargs ?_;first|(refine s_fn (hcl _) ?_<;>try first|omega|assumption))|refine ny ?_|refine WA_block ?_|(refine uC7_119_5 ?_;refine⟨by kernel_rfl,?_⟩)|(refine uC7_119_8 ?_;refine⟨by kernel_rfl,?_⟩)|(refine g_d ?_;(first|refine d_fnY (hcl _) ?_)<;>try first|omega|assumption)|(refine g_d ?_;first|(refine d_dyn (hcl _) ?_<;>try first|omega|assumption)|(refine d_dynY (hcl _) ?_<;>try first|omega|assumption))))
      all_goals(try(exfalso;omega))
      all_goals(refine r_es hQ ?_;try with_reducible rfl)
    · have hget:=hlen
      have hh:=hlen
      have hcl:=fun m=>astretch1_c (0,0) 0 sm_zero sm_zero m
      (have FX:=fx4 hlen hget hh @b_shr1;repeat'(first|(refine sx ?_ ?_<;>intro h<;>first|(exfalso;omega)|skip)|(refine na ?_;(first|refine nb hcl ?_)<;>try first|omega|assumption)|(refine g_op ?_;refine g_dyn ?_;refine g_dargs ?_;first|(refine s_fn (hcl _) ?_<;>try first|omega|assumption))|refine ny ?_|refine WA_block ?_|(refine uC7_119_5 ?_;refine⟨by kernel_rfl,?_⟩)|(refine uC7_119_8 ?_;refine⟨by kernel_rfl,?_⟩)|(refine g_d ?_;(first|refine d_fnY (hcl _) ?_)<;>try first|omega|assumption)|(refine g_d ?_;first|(refine d_dyn (hcl _) ?_<;>try first|omega|assumption)|(refine d_dynY (hcl _) ?_<;>try first|omega|assumption))))
      all_goals(try(exfalso;omega))
      all_goals(refine r_es hQ ?_;try with_reducible rfl)

theorem astretch_c(c:List Pt)(x:Rat)(hv:Valid c)(hx:sm x)(m:Mem):Gives Tryz.prog 114 [.agg [.lst (ptsV c)],.agg [.int .i64 (Rat.num (x)),.int .i64 ((Rat.den (x):Nat):Int)]] m (.int .i64 ((cnt c x:Int) - 1)):=by
  have hn:=cnt_le c x
  have hf:=hv.few
  refine Gives_in Tryz.func114 rfl Tryz.ntmps114 Tryz.results114 (by kernel_rfl) (by simp) rfl fun Q hQ=>?_
  (repeat'(first|(refine sx ?_ ?_<;>intro h<;>first|(exfalso;omega)|skip)|(refine na ?_;(first|refine nb (absearch_c c x hv hx) ?_)<;>try first|omega|assumption)|refine ny ?_|refine WA_block ?_))
  all_goals(refine r_es hQ ?_;try with_reducible rfl)
end Go.Proofs.YtnablpehkeicmaaGreat
namespace Go.Proofs.YtnablpehkeicmaaGreat
open Go.RowKit
attribute [local irreducible] WA WOs WDs WAn qThen qBlock tput
set_option maxHeartbeats 1000000
set_option maxRecDepth 20000
set_option linter.unusedSimpArgs false
set_option linter.unusedVariables false
/-- the value and whether a number on the way is large, as the program finds them -/
def vP(c:List Pt)(x:Rat):Rat:=
  let n:=cnt c x
  if n=0∨x=(at' c 0).1 then (at' c 0).2 else if n=c.length then (at' c (n - 1)).2 else cut (cut (cut (x - (at' c (n - 1)).1)*slP (at' c (n - 1)) (at' c n))+(at' c (n - 1)).2)
def vG (g:Bool) (c:List Pt) (x:Rat):Bool:=
  let n:=cnt c x
  if n=0∨x=(at' c 0).1 then g else if n=c.length then g else
    (slG (g || !smB (x - (at' c (n - 1)).1)) (at' c (n - 1)) (at' c n) || !smB (cut (x - (at' c (n - 1)).1)*slP (at' c (n - 1)) (at' c n))) || !smB (cut (cut (x - (at' c (n - 1)).1)*slP (at' c (n - 1)) (at' c n))+(at' c (n - 1)).2)
theorem cnt_pos{c:List Pt}(h:Valid c){x:Rat}(hx:(at' c 0).1≤x):0<cnt c x:=(cnt_iff h.asc h.pos).2 hx
theorem sm_vP{c:List Pt}(h:Valid c)(x:Rat):sm (vP c x):=by
  have h0:=h.pos
  have:=cnt_le c x
  unfold vP
  simp only
  split
  · exact(h.sm 0 h0).2
  · split
    · exact(h.sm _ (by omega)).2
    · exact sm_cut _
attribute [local irreducible] smB cut sm
theorem cmpQ_zero{p q:Rat}:cmpQ p q=0↔p=q:=by
  unfold cmpQ
  by_cases h1:p<q
  · rw [if_pos h1];simp;intro h;rw [h] at h1;exact Rat.lt_irrefl h1
  · rw [if_neg h1]
    by_cases h2:q<p
    · rw [if_pos h2];simp;intro h;rw [h] at h2;exact Rat.lt_irrefl h2
    · rw [if_neg h2];simp;exact Rat.le_antisymm (Rat.not_lt.1 h2) (Rat.not_lt.1 h1)
theorem uC8_110_3{N:Nat}{l:List Oper}{t:List (Nat×V)}{m:Mem}{Q:Exit→List (Nat×V)→Mem→Prop}(h:RgN Tryz.prog N l t m Q (fun i=>if i==3 || i==5 || i==8 || i==9 then .q else .p) [.one 0,.one 1,.one 2,.one 3,.one 4,.one 5,.one 6,.one 7,.one 8,.one 9,.one 10,.one 11,.one 12]):WA Tryz.prog N (.region 3 l.toArray true) t m Q:=d_rgN h
theorem uC8_110_8{N:Nat}{l:List Oper}{t:List (Nat×V)}{m:Mem}{Q:Exit→List (Nat×V)→Mem→Prop}(h:RgT Tryz.prog N l t m Q 163 (fun i=>if i==20 then .w else if i==6 || i==15 || i==16 || i==19 then .f else if i==3 || i==5 || i==8 || i==10 || i==14 || i==18 then .q else .p) [.one 0,.one 1,.one 2,.one 3,.one 4,.one 5,.one 7,.one 8,.one 9,.one 10,.one 11,.one 12,.one 13,.one 14,.one 17,.one 18,.one 6,.one 15,.one 16,.one 19,.one 20]):WA Tryz.prog N (.region 8 l.toArray true) t m Q:=d_rgT h
theorem value_w(k:Nat)(c:List Pt)(x:Rat)(g:Bool)(hv:Valid c)(hx:sm x):CallW Tryz.prog 110 [.ptr k 0 0,.agg [.lst (ptsV c)],.agg [.int .i64 (Rat.num (x)),.int .i64 ((Rat.den (x):Nat):Int)]] k (.cells .own 163 1 [[.bool (g)]]) (.cells .own 163 1 [[.bool (vG g c x)]]) (.agg [.int .i64 (Rat.num (vP c x)),.int .i64 ((Rat.den (vP c x):Nat):Int)]):=by
  have hlen:=ptsV_length (c:=c)
  have hfew:=hv.few
  have hp:=hv.pos
  have hn:=cnt_le c x
  have h00:=(hv.sm 0 hp).1
  have hg0:=ptsV_get hp
  unfold ptV at hg0
  have ht0:=hlen
  have hcz:=hlen
  unfold vP vG
  simp only
  by_cases hz:cnt c x=0∨x=(at' c 0).1
  · rw [if_pos hz,if_pos hz]
    rcases hz with hz|hz
    · refine CallW_in (tvs:=[.ptr 0 0 0,.v (.agg [.lst (ptsV c)]),.v (.agg [.int .i64 (Rat.num (x)),.int .i64 ((Rat.den (x):Nat):Int)])]) Tryz.func110 rfl Tryz.ntmps110 Tryz.results110 (by kernel_rfl) (by simp) (by simp [flatL,V.flat]) rfl fun m Q hQ=>?_
      simp only [List.map_cons,List.map_nil,TV.inst]
      (have FX:=fx4 hlen hg0 ht0 hcz;repeat'(first|(refine sx ?_ ?_<;>intro h<;>first|(exfalso;omega)|skip)|(refine na ?_;(first|refine nb (astretch_c c x hv hx) ?_|refine nb (acompare_c x (at' c 0).1 hx h00) ?_)<;>try first|omega|assumption)|refine ny ?_|refine WA_block ?_|(refine uC8_110_3 ?_;refine⟨by kernel_rfl,?_⟩)|(refine uC8_110_8 ?_;refine⟨by kernel_rfl,?_⟩)|(refine g_d ?_;(first|refine d_fnY (astretch_c c x hv hx _) ?_|refine d_fnY (acompare_c x (at' c 0).1 hx h00 _) ?_)<;>try first|omega|assumption)))
      all_goals(try(exfalso;omega))
      all_goals(refine r_esW hQ ?_ ?_<;>try with_reducible rfl)
    · have hpos:=cnt_pos hv (x:=x) (by rw [hz];exact Rat.le_refl)
      have hcz:=cmpQ_zero.2 hz
      refine CallW_in (tvs:=[.ptr 0 0 0,.v (.agg [.lst (ptsV c)]),.v (.agg [.int .i64 (Rat.num (x)),.int .i64 ((Rat.den (x):Nat):Int)])]) Tryz.func110 rfl Tryz.ntmps110 Tryz.results110 (by kernel_rfl) (by simp) (by simp [flatL,V.flat]) rfl fun m Q hQ=>?_
      simp only [List.map_cons,List.map_nil,TV.inst]
      (have FX:=fx4 hlen hg0 ht0 hcz;repeat'(first|(refine sx ?_ ?_<;>intro h<;>first|(exfalso;omega)|skip)|(refine na ?_;(first|refine nb (astretch_c c x hv hx) ?_|refine nb (acompare_c x (at' c 0).1 hx h00) ?_)<;>try first|omega|assumption)|refine ny ?_|refine WA_block ?_|(refine uC8_110_3 ?_;refine⟨by kernel_rfl,?_⟩)|(refine uC8_110_8 ?_;refine⟨by kernel_rfl,?_⟩)|(refine g_d ?_;(first|refine d_fnY (astretch_c c x hv hx _) ?_|refine d_fnY (acompare_c x (at' c 0).1 hx h00 _) ?_)<;>try first|omega|assumption)))
      all_goals(try(exfalso;omega))
      all_goals(refine r_esW hQ ?_ ?_<;>try with_reducible rfl)
  · rw [if_neg hz,if_neg hz]
    have hz0:¬ cnt c x=0:=fun h=>hz (.inl h)
    have hcz':¬ cmpQ x (at' c 0).1=0:=fun h=>hz (.inr (cmpQ_zero.1 h))
    have hcb:=cmpQ_bd x (at' c 0).1
    by_cases hl:cnt c x=c.length
    · rw [if_pos hl,if_pos hl,hl]
      have hgl:=ptsV_get (c:=c) (i:=c.length - 1) (by omega)
      unfold ptV at hgl
      have ht0:((c.length:Int) - 1).toNat=c.length - 1:=by omega
      have hcz:=And.intro hgl (congrArg (fun z:Nat=>(z:Int)) hl)
      refine CallW_in (tvs:=[.ptr 0 0 0,.v (.agg [.lst (ptsV c)]),.v (.agg [.int .i64 (Rat.num (x)),.int .i64 ((Rat.den (x):Nat):Int)])]) Tryz.func110 rfl Tryz.ntmps110 Tryz.results110 (by kernel_rfl) (by simp) (by simp [flatL,V.flat]) rfl fun m Q hQ=>?_
      simp only [List.map_cons,List.map_nil,TV.inst]
      (have FX:=fx4 hlen hg0 ht0 hcz;repeat'(first|(refine sx ?_ ?_<;>intro h<;>first|(exfalso;omega)|skip)|(refine na ?_;(first|refine nb (astretch_c c x hv hx) ?_|refine nb (acompare_c x (at' c 0).1 hx h00) ?_)<;>try first|omega|assumption)|refine ny ?_|refine WA_block ?_|(refine uC8_110_3 ?_;refine⟨by kernel_rfl,?_⟩)|(refine uC8_110_8 ?_;refine⟨by kernel_rfl,?_⟩)|(refine g_d ?_;(first|refine d_fnY (astretch_c c x hv hx _) ?_|refine d_fnY (acompare_c x (at' c 0).1 hx h00 _) ?_)<;>try first|omega|assumption)))
      all_goals(try(exfalso;omega))
      all_goals(refine r_esW hQ ?_ ?_<;>try with_reducible rfl)
    · rw [if_neg hl,if_neg hl]
      obtain⟨i,hi⟩:∃ i,cnt c x=i+1:=⟨cnt c x - 1,by omega⟩
      have hgl:=ptsV_get (c:=c) (i:=i) (by omega)
      have hgm:=ptsV_get (c:=c) (i:=i+1) (by omega)
      have s1:=hv.sm i (by omega)
      have s2:=hv.sm (i+1) (by omega)
      rw [hi,Nat.add_sub_cancel]
      obtain⟨⟨u,v⟩,hu⟩:∃ p,at' c i=p:=⟨_,rfl⟩
      obtain⟨⟨u2,v2⟩,hu2⟩:∃ p,at' c (i+1)=p:=⟨_,rfl⟩
      rw [hu] at hgl s1 ⊢
      rw [hu2] at hgm s2 ⊢
      unfold ptV at hgl hgm
      dsimp only at hgl hgm s1 s2 ⊢
      have e0:(cnt c x:Int) - 1=(i:Int):=by omega
      have ht0:=And.intro e0 (And.intro (Int.toNat_natCast i) (show((i:Int)+1).toNat=i+1 by omega))
      have hcz:=And.intro hgl hgm
      refine CallW_in (tvs:=[.ptr 0 0 0,.v (.agg [.lst (ptsV c)]),.v (.agg [.int .i64 (Rat.num (x)),.int .i64 ((Rat.den (x):Nat):Int)])]) Tryz.func110 rfl Tryz.ntmps110 Tryz.results110 (by kernel_rfl) (by simp) (by simp [flatL,V.flat]) rfl fun m Q hQ=>?_
      simp only [List.map_cons,List.map_nil,TV.inst]
      (have FX:=fx4 hlen hg0 ht0 hcz;repeat'(first|(refine sx ?_ ?_<;>intro h<;>first|(exfalso;omega)|skip)|(refine na ?_;(first|refine nb (astretch_c c x hv hx) ?_|refine nb (acompare_c x (at' c 0).1 hx h00) ?_|refine s_fnW (sub_w _ x u _ hx s1.1) ?_|refine s_fnW (slope_w _ (u,v) (u2,v2) _ s1.1 s1.2 s2.1 s2.2) ?_|refine s_fnW (mul_w _ _ _ _ (sm_cut _) (sm_slP _ _)) ?_|refine s_fnW (add_w _ _ _ _ (sm_cut _) s1.2) ?_|refine d_fnW (sub_w _ x u _ hx s1.1) ?_|refine d_fnW (slope_w _ (u,v) (u2,v2) _ s1.1 s1.2 s2.1 s2.2) ?_|refine d_fnW (mul_w _ _ _ _ (sm_cut _) (sm_slP _ _)) ?_|refine d_fnW (add_w _ _ _ _ (sm_cut _) s1.2) ?_|refine grp_w (sub_w _ x u _ hx s1.1) ?_|refine grp_w (slope_w _ (u,v) (u2,v2) _ s1.1 s1.2 s2.1 s2.2) ?_|refine grp_w (mul_w _ _ _ _ (sm_cut _) (sm_slP _ _)) ?_|refine grp_w (add_w _ _ _ _ (sm_cut _) s1.2) ?_)<;>try first|omega|assumption)|refine ny ?_|refine WA_block ?_|(refine uC8_110_3 ?_;refine⟨by kernel_rfl,?_⟩)|(refine uC8_110_8 ?_;refine⟨by kernel_rfl,?_⟩)|(refine g_d ?_;(first|refine d_fnY (astretch_c c x hv hx _) ?_|refine d_fnY (acompare_c x (at' c 0).1 hx h00 _) ?_)<;>try first|omega|assumption)))
      all_goals(try(exfalso;omega))
      all_goals(refine r_esW hQ ?_ ?_<;>try with_reducible rfl)
end Go.Proofs.YtnablpehkeicmaaGreat
namespace Go.Proofs.YtnablpehkeicmaaGreat
open Go.RowKit
attribute [local irreducible] WA WOs WDs WAn qThen qBlock tput
set_option maxHeartbeats 1000000
set_option maxRecDepth 20000
set_option linter.unusedSimpArgs false
set_option linter.unusedVariables false
attribute [local irreducible] smB cut sm

theorem atold_c(q:Rat)(g:Bool)(m:Mem):Gives Tryz.prog 104 [.agg [.int .i64 (Rat.num (q)),.int .i64 ((Rat.den (q):Nat):Int)],.agg [.bool g]] m (if g=true then .tup [.agg [.int .i64 0,.int .i64 0],.int .i64 8] else .tup [.agg [.int .i64 (Rat.num (q)),.int .i64 ((Rat.den (q):Nat):Int)],.int .i64 0]):=by
  cases g
  · refine Gives_in Tryz.func104 rfl Tryz.ntmps104 Tryz.results104 (by kernel_rfl) (by simp) rfl fun Q hQ=>?_
    (repeat'(first|(refine sx ?_ ?_<;>intro h<;>first|(exfalso;omega)|skip)|refine ny ?_|refine WA_block ?_))
    all_goals((refine r_es hQ ?_;try with_reducible rfl);rfl)
  · refine Gives_in Tryz.func104 rfl Tryz.ntmps104 Tryz.results104 (by kernel_rfl) (by simp) rfl fun Q hQ=>?_
    (repeat'(first|(refine sx ?_ ?_<;>intro h<;>first|(exfalso;omega)|skip)|refine ny ?_|refine WA_block ?_))
    all_goals((refine r_es hQ ?_;try with_reducible rfl);rfl)

theorem rwhole_c(n:Int)(m:Mem):Gives Tryz.prog 56 [.int .i64 n] m (.agg [.int .i64 n,.int .i64 1]):=by
  refine Gives_in Tryz.func56 rfl Tryz.ntmps56 Tryz.results56 (by kernel_rfl) (by simp) rfl fun Q hQ=>?_
  (repeat'(first|(refine sx ?_ ?_<;>intro h<;>first|(exfalso;omega)|skip)|refine ny ?_|refine WA_block ?_))
  all_goals(refine r_es hQ ?_;try with_reducible rfl)
/-- the list behind k exchanges -/
def swp(l:List Pt)(k:Nat):List Pt:=(List.range l.length).map fun p=>if p<k∨l.length - k≤p then at' l (l.length - 1 - p) else at' l p
theorem swp_len(l:List Pt)(k:Nat):(swp l k).length=l.length:=by simp [swp]
theorem swp_at{l:List Pt}{k p:Nat}(h:p<l.length):(swp l k)[p]?=some (if p<k∨l.length - k≤p then at' l (l.length - 1 - p) else at' l p):=by
  unfold swp;rw [List.getElem?_map,List.getElem?_range h];rfl
theorem swp_zero(l:List Pt):swp l 0=l:=by
  apply List.ext_getElem?
  intro p
  rcases Nat.lt_or_ge p l.length with h|h
  · rw [swp_at h,if_neg (by omega),at_get h]
  · rw [List.getElem?_eq_none (by rw [swp_len];exact h),List.getElem?_eq_none h]
theorem swp_end{l:List Pt}{k:Nat}(h:l.length≤2*k+1):swp l k=l.reverse:=by
  apply List.ext_getElem?
  intro p
  rcases Nat.lt_or_ge p l.length with hp|hp
  · rw [swp_at hp,List.getElem?_reverse hp,at_get (by omega:l.length - 1 - p<l.length)]
    split
    · rfl
    · have:l.length - 1 - p=p:=by omega
      rw [this]
  · rw [List.getElem?_eq_none (by rw [swp_len];exact hp),List.getElem?_eq_none (by simpa using hp)]
theorem swp_succ {l:List Pt} {k:Nat} (h:2*k+1<l.length):swp l (k+1)=((swp l k).set k (at' l (l.length - 1 - k))).set (l.length - 1 - k) (at' l k):=by
  apply List.ext_getElem?
  intro p
  rcases Nat.lt_or_ge p l.length with hp|hp
  · rw [swp_at hp,List.getElem?_set,List.length_set,swp_len,List.getElem?_set,swp_len,swp_at hp]
    by_cases h1:l.length - 1 - k=p
    · rw [if_pos h1,if_pos (by omega),if_pos (by omega)]
      congr 2;omega
    · rw [if_neg h1]
      by_cases h2:k=p
      · rw [if_pos h2,if_pos (by omega),if_pos (by omega),h2]
      · rw [if_neg h2]
        by_cases h3:p<k∨l.length - k≤p
        · rw [if_pos h3,if_pos (by omega)]
        · rw [if_neg h3,if_neg (by omega)]
  · rw [List.getElem?_eq_none (by rw [swp_len];exact hp),List.getElem?_eq_none (by simp [swp_len];exact hp)]
theorem ptsV_set{c:List Pt}{i:Nat}{p:Pt}:(ptsV c).set i (ptV p)=ptsV (c.set i p):=by simp [ptsV,List.map_set]
theorem uC11_116_3{N:Nat}{l:List Oper}{t:List (Nat×V)}{m:Mem}{Q:Exit→List (Nat×V)→Mem→Prop}(h:RgN Tryz.prog N l t m Q (fun i=>if i==13 || i==15 then .w else if i==7 || i==11 then .q else .p) [.one 0,.one 1,.one 2,.one 3,.one 4,.one 5,.one 6,.one 7,.one 8,.one 9,.one 10,.one 11,.one 12,.one 13,.one 14,.one 15]):WA Tryz.prog N (.region 3 l.toArray true) t m Q:=d_rgN h
theorem reverse_w(b:Nat)(l:List Pt)(h0:1≤l.length)(hl:l.length≤1000000):CallW Tryz.prog 116 [.sl b l.length] b (.cells .own 110 4 (ptsV l)) (.cells .own 110 4 (ptsV l.reverse)) (.tup []):=by
  have hlen:∀ k,(ptsV (swp l k)).length=l.length:=fun k=>by rw [ptsV_length,swp_len]
  have hga:=hlen
  have hgb:=hlen
  have hti:=hlen
  have htj:=hlen
  have htk:=hlen
  have hs0:=swp_zero l
  suffices key:CallW Tryz.prog 116 [.sl b l.length] b (.cells .own 110 4 (ptsV (swp l 0))) (.cells .own 110 4 (ptsV l.reverse)) (.tup []) by rw [hs0] at key;exact key
  refine CallW_in (tvs:=[.sl 0 l.length]) (v:= .tup []) (es':=ptsV l.reverse) Tryz.func116 rfl Tryz.ntmps116 Tryz.results116 (by kernel_rfl) (by simp) (ptsV_flat _) rfl fun m Q hQ=>?_
  simp only [List.map_cons,List.map_nil,TV.inst]
  (have FX:=fx6 hlen hga hgb hti htj htk;repeat'(first|(refine sx ?_ ?_<;>intro h<;>first|(exfalso;omega)|skip)|refine ny ?_|refine WA_block ?_|(refine uC11_116_3 ?_;refine⟨by kernel_rfl,?_⟩)))
  refine WA_whileK (σ:=Nat) [0,2,3] (fun k=>[.sl (lend m).length l.length,.int .i64 k,.int .i64 ((l.length:Int) - 1 - k)]) (fun k=>[.cells .own 110 4 (ptsV (swp l k))]) 1 (fun k=>2*k≤l.length) (fun k=>l.length - k) 0 (by omega) ?_ rfl (fun _=>rfl) (by intro s s' _ _;simp [conS,V.keeps,V.plain]) (by intro s s' _ _;exact⟨.inl (List.all_eq_true.2 (plainLL_mem (ptsV_plain _))),trivial⟩) ?_
  · show _=[_,_,V.int .i64 ((l.length:Int) - 1 - ((0:Nat):Int))]
    have e0:(l.length:Int) - 1 - ((0:Nat):Int)=(l.length:Int) - 1:=by omega
    rw [e0];exact tv_
  rintro k hk1 K hK
  simp only [zipT]
  clear FX
  rcases Nat.lt_or_ge (2*k+1) l.length with hlt|hge
  · have hti:((l.length:Int) - 1 - (k:Int)).toNat=l.length - 1 - k:=by omega
    have hga:(ptsV (swp l k))[k]?=some (ptV (at' l k)):=by
      unfold ptsV;rw [List.getElem?_map,swp_at (by omega),if_neg (by omega)];rfl
    have hgb:(ptsV (swp l k))[l.length - 1 - k]?=some (ptV (at' l (l.length - 1 - k))):=by
      unfold ptsV;rw [List.getElem?_map,swp_at (by omega),if_neg (by omega)];rfl
    have hsx:=swp_succ (l:=l) (k:=k) hlt
    have hset1:(ptsV (swp l k)).set k (ptV (at' l (l.length - 1 - k)))=ptsV ((swp l k).set k (at' l (l.length - 1 - k))):=ptsV_set
    have hset2:(ptsV ((swp l k).set k (at' l (l.length - 1 - k)))).set (l.length - 1 - k) (ptV (at' l k))=ptsV (swp l (k+1)):=by rw [ptsV_set,hsx]
    have hgc:(ptsV ((swp l k).set k (at' l (l.length - 1 - k))))[l.length - 1 - k]?=some (ptV (at' l (l.length - 1 - k))):=by
      unfold ptsV;rw [List.getElem?_map,List.getElem?_set,if_neg (by omega),swp_at (by omega),if_neg (by omega)];rfl
    obtain⟨p1,hp1⟩:∃ p,at' l k=p:=⟨_,rfl⟩
    obtain⟨p2,hp2⟩:∃ p,at' l (l.length - 1 - k)=p:=⟨_,rfl⟩
    rw [hp1] at hga hset2
    rw [hp2] at hgb hset1 hset2 hgc
    unfold ptV at hga hgb hset1 hset2 hgc
    have htj:=And.intro hset1 (And.intro hset2 hgc)
    have htk:(l.length:Int) - 1 - (k:Int) - 1=(l.length:Int) - 1 - ((k+1:Nat):Int):=by omega
    (have FX:=fx6 hlen hga hgb hti htj htk;repeat'(first|(refine sx ?_ ?_<;>intro h<;>first|(exfalso;omega)|skip)|refine ny ?_|refine WA_block ?_|(refine uC11_116_3 ?_;refine⟨by kernel_rfl,?_⟩)))
    all_goals(try(exfalso;omega))
    all_goals(refine nextL_ hK (k+1) (by omega) (by omega) (ht:=?_);(show _=[_,_,V.int .i64 ((l.length:Int) - 1 - ((k+1:Nat):Int))]);rw [←htk];exact tv_)
  · have hga:=hlen
    have hgb:=hlen
    have hti:=hlen
    have htj:=hlen
    have htk:=hlen
    rw [←swp_end (l:=l) (k:=k) (by omega)] at hQ
    (have FX:=fx6 hlen hga hgb hti htj htk;repeat'(first|(refine sx ?_ ?_<;>intro h<;>first|(exfalso;omega)|skip)|refine ny ?_|refine WA_block ?_|(refine uC11_116_3 ?_;refine⟨by kernel_rfl,?_⟩)))
    all_goals(try(exfalso;omega))
    all_goals(refine r_esW hQ ?_ ?_<;>try with_reducible rfl)
theorem reverse_nil(m:Mem):Gives Tryz.prog 116 [.nilsl] m (.tup []):=by
  refine Gives_in Tryz.func116 rfl Tryz.ntmps116 Tryz.results116 (by kernel_rfl) (by simp) rfl fun Q hQ=>?_
  (repeat'(first|(refine sx ?_ ?_<;>intro h<;>first|(exfalso;omega)|skip)|refine ny ?_|refine WA_block ?_|(refine uC11_116_3 ?_;refine⟨by kernel_rfl,?_⟩)))
  refine WA_rounds 1 ?_
  (repeat'(first|(refine sx ?_ ?_<;>intro h<;>first|(exfalso;omega)|skip)|refine ny ?_|refine WA_block ?_|(refine uC11_116_3 ?_;refine⟨by kernel_rfl,?_⟩)))
  all_goals(try(exfalso;omega))
  all_goals(refine r_es hQ ?_;try with_reducible rfl)
end Go.Proofs.YtnablpehkeicmaaGreat
