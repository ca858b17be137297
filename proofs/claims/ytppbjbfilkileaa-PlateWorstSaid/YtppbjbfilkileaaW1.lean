/- contracts: the sort of loads -/
import Derived.Test.YtppbjbfilkileaaGAF
import Derived.Test.YtppbjbfilkileaaYC
import Derived.Test.YtppbjbfilkileaaGAE
set_option linter.unusedSimpArgs false
set_option linter.unusedVariables false
namespace Go.Proofs.Ytppbjbfilkileaa
open Go.RowKit
attribute [local irreducible] WA WOs WDs WAn qThen qBlock tput
set_option maxHeartbeats 1000000
set_option maxRecDepth 20000
set_option linter.unusedSimpArgs false
set_option linter.unusedVariables false
set_option maxHeartbeats 4000000
def cmpL(x y:Int):Int:=if x<y then -1 else if x>y then 1 else 0

theorem wcompare_c(x y:Int)(m:Mem):Gives Try.prog 47 [.int .i64 x,.int .i64 y] m (.int .i64 (cmpL x y)):=by
  refine Gives_in Try.func47 rfl Try.ntmps47 Try.results47 (by kernel_rfl) (by simp) rfl fun Q hQ=>?_
  (repeat'(first|(refine sx ?_ ?_<;>intro h<;>first|(exfalso;omega)|skip)|(refine g_op ?_;refine g_call ?_;refine g_args ?_;(first|refine s_fn (nan_c _ _) ?_)<;>try first|omega|assumption)|refine ny ?_|refine WA_block ?_))
  all_goals((refine r_es hQ ?_;try with_reducible rfl);unfold cmpL;simp only [V.int.injEq,true_and];repeat (first|rw [if_pos (by assumption)]|rw [if_neg (by assumption)]))

theorem wcl_c(p q:Ld)(m:Mem):Gives Try.prog 46 [.agg (ldV p),.agg (ldV q)] m (.int .i64 (cmpL p.1 q.1)):=by
  obtain⟨a,b⟩:=p
  obtain⟨c,d⟩:=q
  unfold ldV
  dsimp only
  refine Gives_in Try.func46 rfl Try.ntmps46 Try.results46 (by kernel_rfl) (by simp) rfl fun Q hQ=>?_
  (repeat'(first|(refine sx ?_ ?_<;>intro h<;>first|(exfalso;omega)|skip)|(refine g_op ?_;refine g_call ?_;refine g_args ?_;(first|refine s_fn (wcompare_c _ _ _) ?_)<;>try first|omega|assumption)|refine ny ?_|refine WA_block ?_))
  all_goals(refine r_es hQ ?_;try with_reducible rfl)
theorem uW1_69_4{N:Nat}{l:List Oper}{t:List (Nat×V)}{m:Mem}{Q:Exit→List (Nat×V)→Mem→Prop}(h:RgN Try.prog N l t m Q (fun i=>if i==8 || i==13 || i==14 then .q else .p) [.one 0,.one 1,.one 2,.one 3,.one 4,.one 5,.one 6,.one 7,.one 8,.one 9,.one 10,.one 11,.one 12,.one 13,.one 14,.one 15,.one 16]):WA Try.prog N (.region 4 l.toArray true) t m Q:=d_rgN h
theorem uW1_69_6{N:Nat}{l:List Oper}{t:List (Nat×V)}{m:Mem}{Q:Exit→List (Nat×V)→Mem→Prop}(h:RgN Try.prog N l t m Q (fun i=>if i==15 || i==17 then .w else if i==9 || i==13 then .q else .p) [.one 0,.one 1,.one 2,.one 3,.one 4,.one 5,.one 6,.one 7,.one 8,.one 9,.one 10,.one 11,.one 12,.one 13,.one 14,.one 15,.one 16,.one 17]):WA Try.prog N (.region 6 l.toArray true) t m Q:=d_rgN h
theorem inssort_w (b:Nat) (l T:List Ld) (hT:sL l=T) (h0:1≤l.length) (hl:l.length≤1000):CallW Try.prog 69 [.sl b l.length,.int .i64 0,.int .i64 l.length,.clo (.func 46) [] []] b (.cells .own 89 2 (ldsV l)) (.cells .own 89 2 (ldsV T)) (.tup []):=by
  have hlen:=ldsV_length (ls:=l)
  have hga:=hlen
  have hgb:=hlen
  have hti:=hlen
  have htj:=hlen
  have htk:=hlen
  have hcl:=fun m=>wcl_c ld0 ld0 m
  refine CallW_in (tvs:=[.sl 0 l.length,.v (.int .i64 0),.v (.int .i64 l.length),.v (.clo (.func 46) [] [])]) (v:= .tup []) (es':=ldsV T) Try.func69 rfl Try.ntmps69 Try.results69 (by kernel_rfl) (by simp) (lds_flat _) rfl fun m Q hQ=>?_
  simp only [List.map_cons,List.map_nil,TV.inst]
  (have FX:=And.intro hlen (And.intro hga (And.intro hgb (And.intro hti (And.intro htj htk))));repeat'(first|(refine sx ?_ ?_<;>intro h<;>first|(exfalso;omega)|skip)|(refine g_op ?_;refine g_call ?_;refine g_args ?_;(first|refine s_fn (hcl _) ?_)<;>try first|omega|assumption)|(refine g_op ?_;refine g_dyn ?_;refine g_dargs ?_;first|(refine s_fn (hcl _) ?_<;>try first|omega|assumption))|refine ny ?_|refine WA_block ?_|(refine uW1_69_4 ?_;refine⟨by kernel_rfl,?_⟩)|(refine uW1_69_6 ?_;refine⟨by kernel_rfl,?_⟩)|((first|refine grp_cons (fun _=>hcl _) ?_)<;>try first|omega|assumption)|(refine g_d ?_;refine d_args ?_;(first|refine d_fn (hcl _) ?_|refine d_fnQ (fun _=>hcl _) ?_)<;>try first|omega|assumption)|(refine g_d ?_;(first|refine d_fnY (hcl _) ?_)<;>try first|omega|assumption)|(refine g_d ?_;first|(refine d_dyn (hcl _) ?_<;>try first|omega|assumption)|(refine d_dynY (hcl _) ?_<;>try first|omega|assumption))))
  refine WA_whileK (σ:=Nat×List Ld) [0,1,2,3,8] (fun s=>[.sl (lend m).length l.length,.int .i64 0,.int .i64 l.length,.clo (.func 46) [] [],.int .i64 ((s.1:Int)+1)]) (fun s=>[.cells .own 89 2 (ldsV s.2)]) 1 (fun s=>s.1+1≤l.length∧s.2.length=l.length∧sI (l.length - 1 - s.1) (s.1+1) s.2=T) (fun s=>l.length - s.1) (0,l) ⟨h0,rfl,hT⟩ ?_ rfl (fun _=>rfl) (by intro s s' _ _;simp [conS,V.keeps,V.plain,V.flat,flatL]) (by intro s s' _ _;simp [conB,Blk.flat,lds_pl]) ?_
  · show _=[_,_,_,_,V.int .i64 (((0:Nat):Int)+1)]
    exact tv_
  rintro⟨i,cur⟩ ⟨hi1,hcl2,hsi⟩ K hK
  dsimp only at hi1 hsi hcl2
  simp only [zipT]
  clear FX hcl hlen
  have hlen:(ldsV cur).length=l.length:=by rw [ldsV_length,hcl2]
  rcases Nat.lt_or_ge (i+1) l.length with hi|hi
  · have hcl:=fun m=>wcl_c ld0 ld0 m
    have hga:=hlen
    have hgb:=hlen
    have hti:=hlen
    have htj:=hlen
    have htk:=hlen
    (have FX:=And.intro hlen (And.intro hga (And.intro hgb (And.intro hti (And.intro htj htk))));repeat'(first|(refine sx ?_ ?_<;>intro h<;>first|(exfalso;omega)|skip)|(refine g_op ?_;refine g_call ?_;refine g_args ?_;(first|refine s_fn (hcl _) ?_)<;>try first|omega|assumption)|(refine g_op ?_;refine g_dyn ?_;refine g_dargs ?_;first|(refine s_fn (hcl _) ?_<;>try first|omega|assumption))|refine ny ?_|refine WA_block ?_|(refine uW1_69_4 ?_;refine⟨by kernel_rfl,?_⟩)|(refine uW1_69_6 ?_;refine⟨by kernel_rfl,?_⟩)|((first|refine grp_cons (fun _=>hcl _) ?_)<;>try first|omega|assumption)|(refine g_d ?_;refine d_args ?_;(first|refine d_fn (hcl _) ?_|refine d_fnQ (fun _=>hcl _) ?_)<;>try first|omega|assumption)|(refine g_d ?_;(first|refine d_fnY (hcl _) ?_)<;>try first|omega|assumption)|(refine g_d ?_;first|(refine d_dyn (hcl _) ?_<;>try first|omega|assumption)|(refine d_dynY (hcl _) ?_<;>try first|omega|assumption))))
    all_goals(try(exfalso;omega))
    clear FX hcl hga hgb hti htj htk hlen
    have hs2:sI (l.length - 1 - (i+1)) (i+1+1) (sJ (i+1) cur)=T:=by
      rw [show l.length - 1 - i=(l.length - 1 - (i+1))+1 by omega,sI] at hsi
      exact hsi
    refine WA_whileK (σ:=Nat×List Ld) [0,1,2,3,8,9] (fun s=>[.sl (lend m).length l.length,.int .i64 0,.int .i64 l.length,.clo (.func 46) [] [],.int .i64 ((i:Int)+1),.int .i64 s.1]) (fun s=>[.cells .own 89 2 (ldsV s.2)]) 1 (fun s=>s.1≤i+1∧s.2.length=l.length∧sI (l.length - 1 - (i+1)) (i+1+1) (sJ s.1 s.2)=T) (fun s=>s.1) (i+1,cur) ⟨Nat.le_refl _,hcl2,hs2⟩ ?_ rfl (fun _=>rfl) (by intro s s' _ _;simp [conS,V.keeps,V.plain,V.flat,flatL]) (by intro s s' _ _;simp [conB,Blk.flat,lds_pl]) ?_
    · show _=[_,_,_,_,_,V.int .i64 (((i+1:Nat):Int))]
      rw [Int.natCast_add];exact tv_
    rintro⟨j,cu⟩ ⟨hj1,hcu,hsj⟩ K2 hK2
    dsimp only at hj1 hsj hcu
    simp only [zipT]
    have hlen:(ldsV cu).length=l.length:=by rw [ldsV_length,hcu]
    cases j with
    | zero=>
      have hcl:=fun m=>wcl_c ld0 ld0 m
      have hga:=hlen
      have hgb:=hlen
      have hti:=hlen
      have htj:=hlen
      have htk:=hlen
      (have FX:=And.intro hlen (And.intro hga (And.intro hgb (And.intro hti (And.intro htj htk))));repeat'(first|(refine sx ?_ ?_<;>intro h<;>first|(exfalso;omega)|skip)|(refine g_op ?_;refine g_call ?_;refine g_args ?_;(first|refine s_fn (hcl _) ?_)<;>try first|omega|assumption)|(refine g_op ?_;refine g_dyn ?_;refine g_dargs ?_;first|(refine s_fn (hcl _) ?_<;>try first|omega|assumption))|refine ny ?_|refine WA_block ?_|(refine uW1_69_4 ?_;refine⟨by kernel_rfl,?_⟩)|(refine uW1_69_6 ?_;refine⟨by kernel_rfl,?_⟩)|((first|refine grp_cons (fun _=>hcl _) ?_)<;>try first|omega|assumption)|(refine g_d ?_;refine d_args ?_;(first|refine d_fn (hcl _) ?_|refine d_fnQ (fun _=>hcl _) ?_)<;>try first|omega|assumption)|(refine g_d ?_;(first|refine d_fnY (hcl _) ?_)<;>try first|omega|assumption)|(refine g_d ?_;first|(refine d_dyn (hcl _) ?_<;>try first|omega|assumption)|(refine d_dynY (hcl _) ?_<;>try first|omega|assumption))))
      all_goals(try(exfalso;omega))
      all_goals(refine nextL_ hK (i+1,cu) ⟨by omega,hcu,hsj⟩ (by dsimp only;omega) (ht:=?_))
      all_goals(show _=[_,_,_,_,V.int .i64 (((i+1:Nat):Int)+1)];rw [Int.natCast_add];exact tv_)
    | succ j=>
      have hga1:=lds_get (l:=cu) (i:=j+1) (by omega)
      have hgb1:=lds_get (l:=cu) (i:=j) (by omega)
      have hset1:(ldsV cu).set (j+1) (ldV (cu.getD j ld0))=ldsV (cu.set (j+1) (cu.getD j ld0)):=lds_set
      have hset2:(ldsV (cu.set (j+1) (cu.getD j ld0))).set j (ldV (cu.getD (j+1) ld0))=ldsV (swpL cu j):=lds_set
      have hgc:(ldsV (cu.set (j+1) (cu.getD j ld0)))[j]?=some (ldV (cu.getD j ld0)):=by
        rw [lds_get (by rw [List.length_set];omega),getD_setL,if_neg (by omega)]
      have hwl:=swpL_len cu j
      rw [sJ] at hsj
      obtain⟨⟨dn,dq⟩,hd⟩:∃ p,cu.getD (j+1) ld0=p:=⟨_,rfl⟩
      obtain⟨⟨pn,pq⟩,hpp⟩:∃ p,cu.getD j ld0=p:=⟨_,rfl⟩
      rw [hd] at hsj hga1 hset2
      rw [hpp] at hsj hgb1 hset1 hset2 hgc
      generalize swpL cu j=cw at *
      generalize cu.set (j+1) (pn,pq)=cx at *
      have hcl:=fun m=>wcl_c (dn,dq) (pn,pq) m
      have hcn:cmpL dn pn<0↔dn<pn:=by unfold cmpL;split<;>(try split)<;>omega
      unfold ldV at hga1 hgb1 hset1 hset2 hgc hcl
      dsimp only at hga1 hgb1 hset1 hset2 hgc hcl hsj
      generalize cmpL dn pn=cv at hcl hcn
      have hga:=hga1
      have hgb:=hgb1
      have hti:((j+1:Nat):Int).toNat=j+1:=by omega
      have htj:=And.intro hset1 (And.intro hset2 hgc)
      have htk:((j+1:Nat):Int) - 1=(j:Int):=by omega
      by_cases hlt:dn<pn
      · have hc0:=hcn.2 hlt
        rw [if_pos hlt] at hsj
        (have FX:=And.intro hlen (And.intro hga (And.intro hgb (And.intro hti (And.intro htj htk))));repeat'(first|(refine sx ?_ ?_<;>intro h<;>first|(exfalso;omega)|skip)|(refine g_op ?_;refine g_call ?_;refine g_args ?_;(first|refine s_fn (hcl _) ?_)<;>try first|omega|assumption)|(refine g_op ?_;refine g_dyn ?_;refine g_dargs ?_;first|(refine s_fn (hcl _) ?_<;>try first|omega|assumption))|refine ny ?_|refine WA_block ?_|(refine uW1_69_4 ?_;refine⟨by kernel_rfl,?_⟩)|(refine uW1_69_6 ?_;refine⟨by kernel_rfl,?_⟩)|((first|refine grp_cons (fun _=>hcl _) ?_)<;>try first|omega|assumption)|(refine g_d ?_;refine d_args ?_;(first|refine d_fn (hcl _) ?_|refine d_fnQ (fun _=>hcl _) ?_)<;>try first|omega|assumption)|(refine g_d ?_;(first|refine d_fnY (hcl _) ?_)<;>try first|omega|assumption)|(refine g_d ?_;first|(refine d_dyn (hcl _) ?_<;>try first|omega|assumption)|(refine d_dynY (hcl _) ?_<;>try first|omega|assumption))))
        all_goals(try(exfalso;omega))
        all_goals(refine nextL_ hK2 (j,cw) ⟨by omega,hwl.trans hcu,hsj⟩ (by dsimp only;omega))
      · have hc0:¬ cv<0:=fun h=>hlt (hcn.1 h)
        rw [if_neg hlt] at hsj
        (have FX:=And.intro hlen (And.intro hga (And.intro hgb (And.intro hti (And.intro htj htk))));repeat'(first|(refine sx ?_ ?_<;>intro h<;>first|(exfalso;omega)|skip)|(refine g_op ?_;refine g_call ?_;refine g_args ?_;(first|refine s_fn (hcl _) ?_)<;>try first|omega|assumption)|(refine g_op ?_;refine g_dyn ?_;refine g_dargs ?_;first|(refine s_fn (hcl _) ?_<;>try first|omega|assumption))|refine ny ?_|refine WA_block ?_|(refine uW1_69_4 ?_;refine⟨by kernel_rfl,?_⟩)|(refine uW1_69_6 ?_;refine⟨by kernel_rfl,?_⟩)|((first|refine grp_cons (fun _=>hcl _) ?_)<;>try first|omega|assumption)|(refine g_d ?_;refine d_args ?_;(first|refine d_fn (hcl _) ?_|refine d_fnQ (fun _=>hcl _) ?_)<;>try first|omega|assumption)|(refine g_d ?_;(first|refine d_fnY (hcl _) ?_)<;>try first|omega|assumption)|(refine g_d ?_;first|(refine d_dyn (hcl _) ?_<;>try first|omega|assumption)|(refine d_dynY (hcl _) ?_<;>try first|omega|assumption))))
        all_goals(try(exfalso;omega))
        all_goals(refine nextL_ hK (i+1,cu) ⟨by omega,hcu,hsj⟩ (by dsimp only;omega) (ht:=?_))
        all_goals(show _=[_,_,_,_,V.int .i64 (((i+1:Nat):Int)+1)];rw [Int.natCast_add];exact tv_)
  · rw [show l.length - 1 - i=0 by omega,sI] at hsi
    rw [hsi]
    rw [hsi] at hlen
    have hcl:=fun m=>wcl_c ld0 ld0 m
    have hga:=hlen
    have hgb:=hlen
    have hti:=hlen
    have htj:=hlen
    have htk:=hlen
    (have FX:=And.intro hlen (And.intro hga (And.intro hgb (And.intro hti (And.intro htj htk))));repeat'(first|(refine sx ?_ ?_<;>intro h<;>first|(exfalso;omega)|skip)|(refine g_op ?_;refine g_call ?_;refine g_args ?_;(first|refine s_fn (hcl _) ?_)<;>try first|omega|assumption)|(refine g_op ?_;refine g_dyn ?_;refine g_dargs ?_;first|(refine s_fn (hcl _) ?_<;>try first|omega|assumption))|refine ny ?_|refine WA_block ?_|(refine uW1_69_4 ?_;refine⟨by kernel_rfl,?_⟩)|(refine uW1_69_6 ?_;refine⟨by kernel_rfl,?_⟩)|((first|refine grp_cons (fun _=>hcl _) ?_)<;>try first|omega|assumption)|(refine g_d ?_;refine d_args ?_;(first|refine d_fn (hcl _) ?_|refine d_fnQ (fun _=>hcl _) ?_)<;>try first|omega|assumption)|(refine g_d ?_;(first|refine d_fnY (hcl _) ?_)<;>try first|omega|assumption)|(refine g_d ?_;first|(refine d_dyn (hcl _) ?_<;>try first|omega|assumption)|(refine d_dynY (hcl _) ?_<;>try first|omega|assumption))))
    all_goals(try(exfalso;omega))
    all_goals(refine r_esW hQ ?_ ?_<;>try with_reducible rfl)
theorem uW1_66_17{N:Nat}{l:List Oper}{t:List (Nat×V)}{m:Mem}{Q:Exit→List (Nat×V)→Mem→Prop}(h:RgN Try.prog N l t m Q (fun i=>if i==8 || i==12 || i==13 || i==15 then .q else .p) [.one 0,.one 1,.one 2,.one 3,.one 4,.one 5,.one 6,.one 7,.one 8,.one 9,.one 10,.one 11,.one 12,.one 13,.one 14,.one 15,.one 16]):WA Try.prog N (.region 17 l.toArray true) t m Q:=d_rgN h
theorem pdq_w(b:Nat)(l T:List Ld)(hT:sL l=T)(h0:1≤l.length)(hl:l.length≤12)(lim:Int):CallW Try.prog 66 [.sl b l.length,.int .i64 0,.int .i64 l.length,.int .i64 lim,.clo (.func 46) [] []] b (.cells .own 89 2 (ldsV l)) (.cells .own 89 2 (ldsV T)) (.tup []):=by
  have h1:l.length≤1000:=by omega
  refine CallW_in (tvs:=[.sl 0 l.length,.v (.int .i64 0),.v (.int .i64 l.length),.v (.int .i64 lim),.v (.clo (.func 46) [] [])]) (v:= .tup []) (es':=ldsV T) Try.func66 rfl Try.ntmps66 Try.results66 (by kernel_rfl) (by simp) (lds_flat _) rfl fun m Q hQ=>?_
  simp only [List.map_cons,List.map_nil,TV.inst]
  (repeat'(first|(refine sx ?_ ?_<;>intro h<;>first|(exfalso;omega)|skip)|(refine g_op ?_;refine g_call ?_;refine g_args ?_;(first|refine s_fnW (inssort_w _ l T hT h0 h1) ?_)<;>try first|omega|assumption)|refine ny ?_|refine WA_block ?_|(refine uW1_66_17 ?_;refine⟨by kernel_rfl,?_⟩)|((first|refine grp_w (inssort_w _ l T hT h0 h1) ?_)<;>try first|omega|assumption)|(refine g_d ?_;refine d_args ?_;(first|refine d_fnW (inssort_w _ l T hT h0 h1) ?_)<;>try first|omega|assumption)))
  refine WA_rounds 1 ?_
  (repeat'(first|(refine sx ?_ ?_<;>intro h<;>first|(exfalso;omega)|skip)|(refine g_op ?_;refine g_call ?_;refine g_args ?_;(first|refine s_fnW (inssort_w _ l T hT h0 h1) ?_)<;>try first|omega|assumption)|refine ny ?_|refine WA_block ?_|(refine uW1_66_17 ?_;refine⟨by kernel_rfl,?_⟩)|((first|refine grp_w (inssort_w _ l T hT h0 h1) ?_)<;>try first|omega|assumption)|(refine g_d ?_;refine d_args ?_;(first|refine d_fnW (inssort_w _ l T hT h0 h1) ?_)<;>try first|omega|assumption)))
  all_goals(try(exfalso;omega))
  all_goals(refine r_esW hQ ?_ ?_<;>try with_reducible rfl)
theorem evI_str{P:Program}{m:Mem}{T:TypeId}{k:IntKind}{n:Int}{s:List UInt8}{b:UInt8}(hT:strT P T=true)(h:s[n.toNat]?=some b):evI P m T (.str s) (.int k n)=some (0≤n,.int .u8 b.toNat,m):=by
  simp only [evI,evStrIdx,hT,if_true,h]
theorem u8w{n:Nat}(h:n≤12):IntKind.u8.wrap ((n:Nat):Int)=n:=by
  have hc:n=0∨n=1∨n=2∨n=3∨n=4∨n=5∨n=6∨n=7∨n=8∨n=9∨n=10∨n=11∨n=12:=by omega
  rcases hc with rfl|rfl|rfl|rfl|rfl|rfl|rfl|rfl|rfl|rfl|rfl|rfl|rfl<;>rfl
def lenB(n:Nat):UInt8:=[0,1,2,2,3,3,3,3,4,4,4,4,4].getD n 0

theorem mlen64_c(n:Nat)(h:n≤12)(m:Mem):Gives Try.prog 78 [.int .u64 n] m (.int .i64 ((lenB n).toNat:Int)):=by
  have hw:=u8w h
  have hb:=hw
  have hc:n=0∨n=1∨n=2∨n=3∨n=4∨n=5∨n=6∨n=7∨n=8∨n=9∨n=10∨n=11∨n=12:=by omega
  refine Gives_in Try.func78 rfl Try.ntmps78 Try.results78 (by kernel_rfl) (by simp) rfl fun Q hQ=>?_
  (have FX:=And.intro hw hb;repeat'(first|(refine sx ?_ ?_<;>intro h<;>first|(exfalso;omega)|skip)|refine ny ?_|refine WA_block ?_))
  all_goals(try(exfalso;omega))
  have hlb:(lenB n).toNat≤4:=by rcases hc with rfl|rfl|rfl|rfl|rfl|rfl|rfl|rfl|rfl|rfl|rfl|rfl|rfl<;>decide
  refine g_op ?_
  refine s_ix (v:= .int .u8 (lenB n).toNat) ?_ (hx:=by first|exact lk_|fail) (hy:=by first|exact lk_|fail) (hb:=fun m=>evI_str (b:=lenB n) (by kernel_rfl) (by rcases hc with rfl|rfl|rfl|rfl|rfl|rfl|rfl|rfl|rfl|rfl|rfl|rfl|rfl<;>rfl)) (hp:=Int.natCast_nonneg n)
  (have FX:=And.intro hw hb;repeat'(first|(refine sx ?_ ?_<;>intro h<;>first|(exfalso;omega)|skip)|refine ny ?_|refine WA_block ?_))
  all_goals(try(exfalso;omega))
  all_goals(refine r_es hQ ?_;try with_reducible rfl)
  all_goals(rw [Int.zero_add])

theorem mlen_c(n:Nat)(h:n≤12)(m:Mem):Gives Try.prog 67 [.int .u64 n] m (.int .i64 ((lenB n).toNat:Int)):=by
  refine Gives_in Try.func67 rfl Try.ntmps67 Try.results67 (by kernel_rfl) (by simp) rfl fun Q hQ=>?_
  (repeat'(first|(refine sx ?_ ?_<;>intro h<;>first|(exfalso;omega)|skip)|(refine g_op ?_;refine g_call ?_;refine g_args ?_;(first|refine s_fn (mlen64_c n h _) ?_)<;>try first|omega|assumption)|refine ny ?_|refine WA_block ?_))
  all_goals(refine r_es hQ ?_;try with_reducible rfl)

theorem asort_w(b:Nat)(l T:List Ld)(hT:sL l=T)(h0:1≤l.length)(hl:l.length≤12):CallW Try.prog 59 [.sl b l.length,.clo (.func 46) [] []] b (.cells .own 89 2 (ldsV l)) (.cells .own 89 2 (ldsV T)) (.tup []):=by
  refine CallW_in (tvs:=[.sl 0 l.length,.v (.clo (.func 46) [] [])]) (v:= .tup []) (es':=ldsV T) Try.func59 rfl Try.ntmps59 Try.results59 (by kernel_rfl) (by simp) (lds_flat _) rfl fun m Q hQ=>?_
  simp only [List.map_cons,List.map_nil,TV.inst]
  (repeat'(first|(refine sx ?_ ?_<;>intro h<;>first|(exfalso;omega)|skip)|(refine g_op ?_;refine g_call ?_;refine g_args ?_;(first|refine s_fn (mlen_c _ hl _) ?_|refine s_fnW (pdq_w _ l T hT h0 hl _) ?_)<;>try first|omega|assumption)|refine ny ?_|refine WA_block ?_))
  all_goals(try(exfalso;omega))
  all_goals(refine r_esW hQ ?_ ?_<;>try with_reducible rfl)
theorem insnil_c(m:Mem):Gives Try.prog 69 [.nilsl,.int .i64 0,.int .i64 0,.clo (.func 46) [] []] m (.tup []):=by
  refine Gives_in Try.func69 rfl Try.ntmps69 Try.results69 (by kernel_rfl) (by simp) rfl fun Q hQ=>?_
  (repeat'(first|(refine sx ?_ ?_<;>intro h<;>first|(exfalso;omega)|skip)|refine ny ?_|refine WA_block ?_|(refine uW1_69_4 ?_;refine⟨by kernel_rfl,?_⟩)|(refine uW1_69_6 ?_;refine⟨by kernel_rfl,?_⟩)))
  refine WA_rounds 1 ?_
  (repeat'(first|(refine sx ?_ ?_<;>intro h<;>first|(exfalso;omega)|skip)|refine ny ?_|refine WA_block ?_|(refine uW1_69_4 ?_;refine⟨by kernel_rfl,?_⟩)|(refine uW1_69_6 ?_;refine⟨by kernel_rfl,?_⟩)))
  all_goals(try(exfalso;omega))
  all_goals(refine r_es hQ ?_;try with_reducible rfl)
theorem pdqnil_c(lim:Int)(m:Mem):Gives Try.prog 66 [.nilsl,.int .i64 0,.int .i64 0,.int .i64 lim,.clo (.func 46) [] []] m (.tup []):=by
  refine Gives_in Try.func66 rfl Try.ntmps66 Try.results66 (by kernel_rfl) (by simp) rfl fun Q hQ=>?_
  (repeat'(first|(refine sx ?_ ?_<;>intro h<;>first|(exfalso;omega)|skip)|(refine g_op ?_;refine g_call ?_;refine g_args ?_;(first|refine s_fn (insnil_c _) ?_)<;>try first|omega|assumption)|refine ny ?_|refine WA_block ?_|(refine uW1_66_17 ?_;refine⟨by kernel_rfl,?_⟩)|((first|refine grp_cons (fun _=>insnil_c _) ?_)<;>try first|omega|assumption)|(refine g_d ?_;refine d_args ?_;(first|refine d_fn (insnil_c _) ?_|refine d_fnQ (fun _=>insnil_c _) ?_)<;>try first|omega|assumption)|(refine g_d ?_;(first|refine d_fnY (insnil_c _) ?_)<;>try first|omega|assumption)))
  refine WA_rounds 1 ?_
  (repeat'(first|(refine sx ?_ ?_<;>intro h<;>first|(exfalso;omega)|skip)|(refine g_op ?_;refine g_call ?_;refine g_args ?_;(first|refine s_fn (insnil_c _) ?_)<;>try first|omega|assumption)|refine ny ?_|refine WA_block ?_|(refine uW1_66_17 ?_;refine⟨by kernel_rfl,?_⟩)|((first|refine grp_cons (fun _=>insnil_c _) ?_)<;>try first|omega|assumption)|(refine g_d ?_;refine d_args ?_;(first|refine d_fn (insnil_c _) ?_|refine d_fnQ (fun _=>insnil_c _) ?_)<;>try first|omega|assumption)|(refine g_d ?_;(first|refine d_fnY (insnil_c _) ?_)<;>try first|omega|assumption)))
  all_goals(try(exfalso;omega))
  all_goals(refine r_es hQ ?_;try with_reducible rfl)
theorem asortnil_c(m:Mem):Gives Try.prog 59 [.nilsl,.clo (.func 46) [] []] m (.tup []):=by
  have hk:∀ m,Gives Try.prog 67 [.int .u64 0] m (.int .i64 ((lenB 0).toNat:Int)):=fun m=>mlen_c 0 (by omega) m
  refine Gives_in Try.func59 rfl Try.ntmps59 Try.results59 (by kernel_rfl) (by simp) rfl fun Q hQ=>?_
  (repeat'(first|(refine sx ?_ ?_<;>intro h<;>first|(exfalso;omega)|skip)|(refine g_op ?_;refine g_call ?_;refine g_args ?_;(first|refine s_fn (hk _) ?_|refine s_fn (pdqnil_c _ _) ?_)<;>try first|omega|assumption)|refine ny ?_|refine WA_block ?_))
  all_goals(try(exfalso;omega))
  all_goals(refine r_es hQ ?_;try with_reducible rfl)
end Go.Proofs.Ytppbjbfilkileaa
