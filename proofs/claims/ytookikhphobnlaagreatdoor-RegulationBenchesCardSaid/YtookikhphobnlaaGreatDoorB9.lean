/- contract: a bench is opened -/
import Derived.Test.YtookikhphobnlaaGreatDoorBW
import Derived.Test.YtookikhphobnlaaGreatDoorGAB
set_option linter.unusedSimpArgs false
set_option linter.unusedVariables false
namespace Go.Proofs.YtookikhphobnlaaGreatDoor
open Go.RowKit
attribute [local irreducible] WA WOs WDs WAn qThen qBlock tput
set_option maxHeartbeats 1000000
set_option maxRecDepth 20000
set_option linter.unusedSimpArgs false
set_option linter.unusedVariables false
set_option maxHeartbeats 8000000
def benT(b:BnR):TB:= .cells .own 28 2 [[.v (.lst (mssV b.ms)),.v (.lst (adsV b.ads))]]
def opE(b:BnR):Nat→List TB
  |0=>[benT b,.cells .own 145 5 [[.v (.lst (mssV b.ms)),.v (.lst (adsV b.ads)),.v (.lst (nuV (ordB b.ads))),.v .nilsl,.v .nilsl]]]
  |k+1=>[benT b,.cells .own 145 5 [[.v (.lst (mssV b.ms)),.v (.lst (adsV b.ads)),.v (.lst (nuV (ordB b.ads))),.sl 2 (k+1),.sl 3 (k+1)]],.cells .own 43 1 ((rwV (rowsB b.ms (b.ads.take (k+1)))).map (List.map TV.v)),.cells .own 3 1 ((nsV (mnsB b.ms (b.ads.take (k+1)))).map (List.map TV.v))]
def opS(b:BnR)(i:Nat):List TV:=[.ptr 0 0 0,.ptr 1 0 0,.v (.lst (adsV b.ads)),.v (.int .i64 b.ads.length),.v (.int .i64 i)]
theorem opE_ok{b:BnR}{i:Nat}:(opE b i).all (TB.ok (opE b i).length)=true:=by
  cases i with
  |zero=>simp [TB.ok,TV.okT,opE,benT]
  |succ k=>simp only [opE,benT,List.all_cons,TB.ok,TV.okT,List.all_nil,Bool.and_true,Bool.and_self,tvs_ok,List.length_cons,List.length_nil];try decide
theorem opS_ok{b:BnR}{i:Nat}:(opS b i).all (TV.okT (opE b i).length)=true:=by
  unfold opS
  cases i with
  |zero=>simp [TV.okT,opE]
  |succ k=>simp [TV.okT,opE]
def adT(a:AdR):TB:= .cells .own 78 6 [[.v (.str a.name),.v (.lst (efsV a.effs)),.v (.int .i64 a.least),.v (.int .i64 a.most),.v (.int .i64 a.pass),.v (.lst (tsV a.after))]]
def oiE(b:BnR)(i:Nat)(a:AdR)(k:Nat):List TB:=opE b i++[adT a,.cells .own 3 1 ((nsV (rowL b.ms (a.effs.take k))).map (List.map TV.v))]
def oiS(b:BnR)(i n:Nat)(a:AdR)(k:Nat):List TV:=[.ptr 0 0 0,.ptr 1 0 0,.ptr n 0 0,.sl (n+1) b.ms.length,.v (.int .i64 (mainK b.ms a.effs k)),.v (.lst (adsV b.ads)),.v (.int .i64 b.ads.length),.v (.int .i64 i),.v (.lst (efsV a.effs)),.v (.int .i64 a.effs.length),.v (.int .i64 k)]
theorem oiE_ok{b:BnR}{i:Nat}{a:AdR}{k:Nat}:(oiE b i a k).all (TB.ok (oiE b i a k).length)=true:=by
  cases i with
  |zero=>simp only [oiE,adT,opE,benT,List.cons_append,List.nil_append,List.all_cons,TB.ok,TV.okT,List.all_nil,Bool.and_true,Bool.and_self,tvs_ok,List.length_cons,List.length_nil];try decide
  |succ j=>simp only [oiE,adT,opE,benT,List.cons_append,List.nil_append,List.all_cons,TB.ok,TV.okT,List.all_nil,Bool.and_true,Bool.and_self,tvs_ok,List.length_cons,List.length_nil];try decide
theorem oiS_ok0{b:BnR}{a:AdR}{k:Nat}:(oiS b 0 2 a k).all (TV.okT (oiE b 0 a k).length)=true:=by simp [oiS,TV.okT,oiE,opE]
theorem oiS_okS{b:BnR}{i:Nat}{a:AdR}{k:Nat}:(oiS b (i+1) 4 a k).all (TV.okT (oiE b (i+1) a k).length)=true:=by simp [oiS,TV.okT,oiE,opE]
theorem wk_bp{l l':List V}{o:Nat}(h:WkL l l')(ho:∀ v∈l',v.one=true):WkV (.bp l o) (.bp l' o):=by
  obtain⟨h1,h2⟩:=WkL_get h
  intro w ρ B x hr
  cases hr with
  | bp _ _ b off Y hb hB hY hV hO=>
    refine .bp _ _ b off Y hb hB (fun j v hj=>?_) (fun j v hj=>?_) (fun j v hj=>ho v (List.mem_of_getElem? hj))
    · obtain⟨v0,g1,_⟩:=h2 j v hj
      exact hY j v0 g1
    · obtain⟨v0,g1,g2⟩:=h2 j v hj
      exact g2 _ _ _ _ (hV j v0 g1)
theorem frzs_cons{f:V→Option V}{v v':V}{r r':List V}(h1:f v=some v')(h2:frzs f r=some r'):frzs f (v::r)=some (v'::r'):=by simp only [frzs,h1,h2]
theorem frz_pt{m:Mem}{L n b ty sz o:Nat}{st:Sta}{e e':List V}(g:¬ b<L)(hb:m[b]?=some (.cells st ty sz [e]))(he:frzs (frz m L n) e=some e'):frz m L (n+1) (.ptr b 0 o)=some (.bp e' o):=by
  show(if b<L then some (V.ptr b 0 o) else match m[b]? with|some (.cells _ _ _ es)=>(match es[0]? with|some e=>(frzs (frz m L n) e).map (fun e'=>V.bp e' o)|none=>none)|_=>none)=_
  rw [if_neg g,hb]
  show(frzs (frz m L n) e).map _=_
  rw [he];rfl
theorem fin_bp{m0 D X B:Mem}{j ty sz:Nat}{st:Sta}{e e':List V}{R:V→Option Mem→Prop}(hB:B=lend m0++D)(hX:X[j]?=some (.cells st ty sz [e]))(he:frzs (frz (B++X) m0.length 2) e=some e')(h:R (.tup [.bp e' 0,.int .i64 0]) none):Fin m0 R (.tup [.ptr (B.length+j) 0 0,.int .i64 0]) (B++X):=by
  subst hB
  refine .inr ⟨D++X,_,by simp,?_,h⟩
  have hl:(lend m0).length=m0.length:=by simp [lend]
  have g1:¬ (lend m0++D).length+j<m0.length:=by simp;omega
  have e1:((lend m0++D)++X)[(lend m0++D).length+j]?=some (.cells st ty sz [e]):=by rw [List.getElem?_append_right (by omega),Nat.add_sub_cancel_left];exact hX
  show(frzs (frz _ _ 3) [_,_]).map V.tup=_
  rw [frzs_cons (frz_pt (n:=2) g1 e1 he) (frzs_cons (frz_int _ _ _ _ _) rfl)]
  rfl
theorem frz_ls{m:Mem}{L n:Nat}{es:List (List V)}(h:plainLL es=true):frz m L n (.lst es)=some (.lst es):=frz_plain _ _ _ (by simpa [V.plain] using h) (by simp) (by simp) (by simp) (by simp)
theorem frz_nl{m:Mem}{L n:Nat}:frz m L n .nilsl=some .nilsl:=frz_plain _ _ _ rfl (by simp) (by simp) (by simp) (by simp)
theorem frz_own{m0 D X:Mem}{n j k:Nat}{st:Sta}{ty sz:Nat}{es:List (List V)}(hX:X[j]?=some (.cells st ty sz es))(hk:es.length=k)(hp:plainLL es=true):frz ((lend m0++D)++X) m0.length (n+1) (.sl ((lend m0++D).length+j) k)=some (.lst es):=by
  subst hk
  have h:=frz_sl (m0:=m0) (D:=D) (X:=X) (n:=n) (j:=j) (k:=es.length) hX (Nat.le_refl _) (by rw [List.take_of_length_le (Nat.le_refl _)];exact hp)
  rw [List.take_of_length_le (Nat.le_refl _)] at h
  exact h
section
variable {P:Program} {N:Nat} {t:List (Nat×V)}
theorem fzJ{c:Code}{Q:Exit→List (Nat×V)→Mem→Prop}{B X:Mem}{j T:Nat}{es:List (List V)}(hX:X[j]?=some (.cells .own T 1 es))(h:WA P N c (t.map fun p=>(p.1,frzV (B.length+j) es p.2)) (B++X.set j (.cells .ro T 1 es)) Q):WA P N c t (B++X) Q:=by
  refine WA_fz (b:=B.length+j) (st:= .own) (ty:=T) (sz:=1) (es:=es) (by rw [List.getElem?_append_right (Nat.le_add_right _ _),Nat.add_sub_cancel_left];exact hX) ?_
  rw [List.set_append_right _ _ (Nat.le_add_right _ _),Nat.add_sub_cancel_left]
  exact h
end

theorem gopen1_c(y:MsR)(nm:Txt)(by_:Int)(M:Mem)(k:Nat)(st:Sta)(hk:M[k]?=some (.cells st 83 2 [[.str nm,.int .i64 by_]])):Gives Tryz.prog 92 [.agg (msV y),.ptr k 0 0] M (.bool (isM nm y)):=by
  have hk:=lend_get2 hk
  unfold msV isM
  refine Gives_in Tryz.func92 rfl Tryz.ntmps92 Tryz.results92 (by kernel_rfl) (by simp) rfl fun Q hQ=>?_
  (have FX:=hk;repeat'(first|(refine sx ?_ ?_<;>intro h<;>first|(exfalso;omega)|skip)|refine ny ?_|refine WA_block ?_))
  all_goals((refine r_es hQ ?_;try with_reducible rfl))
  all_goals(exact congrArg V.bool (by first|rfl|(rw [decide_eq_true (by assumption)];rfl)|(rw [decide_eq_false (by assumption)];rfl)|exact(decide_eq_true (by assumption)).symm|exact(decide_eq_false (by assumption)).symm|exact(decide_eq_true (by omega)).symm|exact(decide_eq_false (by omega)).symm))
theorem gopenix(mm:List MsR)(hl:mm.length≤1000)(m:Mem)(k:Nat){st:Sta}{nm:Txt}{by_:Int}(hk:m[k]?=some (.cells st 83 2 [[.str nm,.int .i64 by_]]):=by first|exact ev_|fail):Gives Tryz.prog 91 [.lst (mssV mm),.clo (.func 92) [] [.ptr k 0 0]] m (.int .i64 (fdx (isM nm) mm)):=
  ix_mss mm (isM nm) 92 [.ptr k 0 0] m (by omega) fun i hi M hM=>(hM.at hk).elim fun st h=>gopen1_c _ nm by_ M k st h
theorem uB9_56_4{N:Nat}{l:List Oper}{t:List (Nat×V)}{m:Mem}{Q:Exit→List (Nat×V)→Mem→Prop}(h:RgN Tryz.prog N l t m Q (fun i=>if i==2 || i==4 then .a else if i==0 || i==1 then .q else .p) [.one 0,.one 1,.one 2,.one 3,.one 4,.one 5]):WA Tryz.prog N (.region 4 l.toArray true) t m Q:=d_rgN h
theorem uB9_56_17{N:Nat}{l:List Oper}{t:List (Nat×V)}{m:Mem}{Q:Exit→List (Nat×V)→Mem→Prop}(h:RgT Tryz.prog N l t m Q 143003 (fun i=>if i==18 || i==21 then .w else if i==8 || i==15 then .f else if i==7 || i==14 then .a else if i==5 || i==12 then .q else .p) [.one 0,.one 1,.one 2,.one 3,.one 4,.one 5,.one 6,.one 9,.one 10,.one 11,.one 12,.one 13,.grp false [8,15] [7,14],.one 16,.one 17,.one 18,.one 19,.one 20,.one 21]):WA Tryz.prog N (.region 17 l.toArray true) t m Q:=d_rgT h
theorem gopen_ok (b:BnR) (hb:Bl b) (h0:bnErr b=0) (m:Mem):Gives Tryz.prog 56 [.agg (bnV b)] m (.tup [.bp (bxC b) 0,.int .i64 0]):=by
  have hok:=bn_ok h0
  have hcb:=fun m=>gcheckbench_c b hb m
  rw [h0] at hcb
  have hla:=adsV_length (l:=b.ads)
  have hlm:=mssV_length (l:=b.ms)
  have hga:=hla
  have hea:=hla
  have hrp:=hla
  have hrw:=hla
  have hfx:=hla
  have hll:=hla
  have hlt:=hla
  have hlu:=hla
  have hlv:=hla
  have hms:=hok.fm
  have has:=hok.fa
  suffices key:CallA Tryz.prog 56 [.agg (bnV b)] m (fun v' mo=>v'= .tup [.bp (match b.ads with|[]=>[.lst (mssV b.ms),.lst (adsV b.ads),.lst (nuV (ordB b.ads)),.nilsl,.nilsl]|_::_=>bxC b) 0,.int .i64 0]∧mo=none) from by
    refine Gives_weak key (wk_tup ⟨?_,WkV.refl _,trivial⟩)
    cases hads:b.ads with
    | nil=>
      refine wk_bp ?_ ?_
      · unfold bxC
        rw [hads]
        exact⟨WkV.refl _,WkV.refl _,WkV.refl _,wk_nil,wk_nil,trivial⟩
      · intro v hv
        simp only [bxC,List.mem_cons,List.not_mem_nil,or_false] at hv
        rcases hv with rfl|rfl|rfl|rfl|rfl<;>rfl
    |cons p r=>exact WkV.refl _
  unfold bnV at hcb ⊢
  refine CallA_in Tryz.func56 rfl Tryz.ntmps56 Tryz.results56 (by kernel_rfl) (by simp) fun Q hQ=>?_
  (have FX:=And.intro hla (And.intro hlm (And.intro hga (And.intro hea (And.intro hrp (And.intro hrw (And.intro hfx (And.intro hll (And.intro hlt (And.intro hlu hlv)))))))));repeat'(first|(refine sx ?_ ?_<;>intro h<;>first|(exfalso;omega)|skip)|(refine g_op ?_;refine g_call ?_;refine g_args ?_;(first|refine s_fn (hcb _) ?_|refine s_fn (gorder_b b hb _) ?_|refine s_fn (gopenix b.ms hb.nm _ _) ?_)<;>try first|omega|assumption)|refine ny ?_|refine WA_block ?_|(refine uB9_56_4 ?_;refine⟨by kernel_rfl,?_⟩)|(refine uB9_56_17 ?_;refine⟨by kernel_rfl,?_⟩)|((first|refine grp_cons (fun _=>hcb _) ?_|refine grp_cons (fun _=>gorder_b b hb _) ?_|refine grp_cons (fun _=>gopenix b.ms hb.nm _ _) ?_)<;>try first|omega|assumption)|(refine g_d ?_;refine d_args ?_;(first|refine d_fn (hcb _) ?_|refine d_fn (gorder_b b hb _) ?_|refine d_fn (gopenix b.ms hb.nm _ _) ?_|refine d_fnQ (fun _=>hcb _) ?_|refine d_fnQ (fun _=>gorder_b b hb _) ?_|refine d_fnQ (fun _=>gopenix b.ms hb.nm _ _) ?_)<;>try first|omega|assumption)|(refine g_d ?_;(first|refine d_fnY (hcb _) ?_|refine d_fnY (gorder_b b hb _) ?_|refine d_fnY (gopenix b.ms hb.nm _ _) ?_)<;>try first|omega|assumption)))
  all_goals(try(exfalso;omega))
  refine WA_whileJ (σ:=Nat) (L:=lend m) [1,5,24,25,26] (fun i=>opS b i) (fun i=>opE b i) (fun i=>i≤b.ads.length) (fun i=>b.ads.length - i) 0 [0,1] (Nat.zero_le _) ?_ rfl rfl (by decide) (by decide) (fun _ _=>opS_ok) (fun _ _=>opE_ok) ?_
  · exact tv_
  rintro i hi1 B ⟨D,hB⟩ K hK
  clear FX hga hea hrp hrw hfx hll hlt hlu hlv
  rcases Nat.lt_or_ge i b.ads.length with hi|hi
  · have hga:=adsV_get hi
    have hao:=ad_ok (hok.ae i hi)
    have hef:=hao.ef
    have hefl:=hao.fe
    have hnr:rowsB b.ms (b.ads.take (i+1))=rowsB b.ms (b.ads.take i)++[rowL b.ms (b.ads.getD i adz).effs]:=by
      rw [List.take_succ_eq_append_getElem hi]
      have:b.ads.getD i adz=b.ads[i]:=by rw [List.getD_eq_getElem?_getD,List.getElem?_eq_getElem hi];rfl
      rw [this];simp only [rowsB,List.map_append,List.map_cons,List.map_nil]
    have hnm:mnsB b.ms (b.ads.take (i+1))=mnsB b.ms (b.ads.take i)++[mainL b.ms (b.ads.getD i adz).effs]:=by
      rw [List.take_succ_eq_append_getElem hi]
      have:b.ads.getD i adz=b.ads[i]:=by rw [List.getD_eq_getElem?_getD,List.getElem?_eq_getElem hi];rfl
      rw [this];simp only [mnsB,List.map_append,List.map_cons,List.map_nil]
    have hrl:(rowsB b.ms (b.ads.take i)).length=i:=by simp [rowsB];omega
    have hml:(mnsB b.ms (b.ads.take i)).length=i:=by simp [mnsB];omega
    have hnx:=hK (i+1)
    have hrepl:∀ n:Nat,n=b.ms.length→List.replicate n [V.int .i64 0]=nsV (rowL b.ms []):=fun n h=>by rw [h,rowL_nil]
    generalize b.ads.getD i adz=x at *
    have hxe:∃ nm ef le mo pa af,x=⟨nm,ef,le,mo,pa,af⟩:=⟨_,_,_,_,_,_,rfl⟩
    have hga0:=hga
    unfold adV at hga
    cases i with
    | zero=>
      have hny:=fun(_:Unit)=>hnx
      have hea:=efsV_length (l:=x.effs)
      have hrp:=hrepl
      have hrw:=hla
      have hfx:=hla
      have hll:=hla
      have hlt:=hla
      have hlu:=hla
      have hlv:=hla
      simp only [opS,opE,benT]
      simp only [List.map_cons,List.map_nil,TB.inst,TV.inst,tv_map,zipT,List.cons_append,List.nil_append,Nat.add_zero]
      (have FX:=And.intro hla (And.intro hlm (And.intro hga (And.intro hea (And.intro hrp (And.intro hrw (And.intro hfx (And.intro hll (And.intro hlt (And.intro hlu hlv)))))))));repeat'(first|(refine sx ?_ ?_<;>intro h<;>first|(exfalso;omega)|skip)|(refine g_op ?_;refine g_call ?_;refine g_args ?_;(first|refine s_fn (hcb _) ?_|refine s_fn (gorder_b b hb _) ?_|refine s_fn (gopenix b.ms hb.nm _ _) ?_)<;>try first|omega|assumption)|refine ny ?_|refine WA_block ?_|(refine uB9_56_4 ?_;refine⟨by kernel_rfl,?_⟩)|(refine uB9_56_17 ?_;refine⟨by kernel_rfl,?_⟩)|((first|refine grp_cons (fun _=>hcb _) ?_|refine grp_cons (fun _=>gorder_b b hb _) ?_|refine grp_cons (fun _=>gopenix b.ms hb.nm _ _) ?_)<;>try first|omega|assumption)|(refine g_d ?_;refine d_args ?_;(first|refine d_fn (hcb _) ?_|refine d_fn (gorder_b b hb _) ?_|refine d_fn (gopenix b.ms hb.nm _ _) ?_|refine d_fnQ (fun _=>hcb _) ?_|refine d_fnQ (fun _=>gorder_b b hb _) ?_|refine d_fnQ (fun _=>gopenix b.ms hb.nm _ _) ?_)<;>try first|omega|assumption)|(refine g_d ?_;(first|refine d_fnY (hcb _) ?_|refine d_fnY (gorder_b b hb _) ?_|refine d_fnY (gopenix b.ms hb.nm _ _) ?_)<;>try first|omega|assumption)))
      all_goals(try(exfalso;omega))
      refine WA_whileJ (σ:=Nat) (L:=B) [1,5,7,8,9,24,25,26,35,36,37] (fun k=>oiS b 0 2 x k) (fun k=>oiE b 0 x k) (fun k=>k≤x.effs.length) (fun k=>x.effs.length - k) 0 [0,1,2,3] (Nat.zero_le _) ?_ ?_ rfl (by decide) (by decide) (fun _ _=>oiS_ok0) (fun _ _=>oiE_ok) ?_
      · simp only [oiS,mainK,reduceIte,List.map_cons,List.map_nil,TV.inst,List.getD_cons_zero,List.getD_cons_succ,Nat.add_zero]
        exact tv_
      · simp only [oiE,opE,benT,adT,List.cons_append,List.nil_append,List.map_cons,List.map_nil,TB.inst,TV.inst,tv_map,List.take_zero,hrepl _ rfl,List.getD_cons_zero,List.getD_cons_succ];rfl
      rintro k hk1 B2 ⟨D2,hB2⟩ K2 hK2
      clear FX hea hrp hrw hfx hll hlt hlu hlv
      rcases Nat.lt_or_ge k x.effs.length with hk|hk
      · have hek:=efsV_get hk
        obtain⟨f1,f2,f3,f4⟩:=ef_ok (hef k hk)
        have hbd:=fdx_bd (isM (x.effs.getD k efz).meas) b.ms
        obtain⟨j,hj⟩:∃ j:Nat,fdx (isM (x.effs.getD k efz).meas) b.ms=(j:Int):=⟨(fdx (isM (x.effs.getD k efz).meas) b.ms).toNat,by omega⟩
        have hjl:j<b.ms.length:=by omega
        have hset:nsV (rowL b.ms (x.effs.take (k+1)))=(nsV (rowL b.ms (x.effs.take k))).set j [V.int .i64 (x.effs.getD k efz).by_]:=by
          rw [←nsV_set,row_set (ms_uniq hok) hjl hj f2,List.take_succ_eq_append_getElem hk]
          have:x.effs.getD k efz=x.effs[k]:=by rw [List.getD_eq_getElem?_getD,List.getElem?_eq_getElem hk];rfl
          rw [this]
        have hm1:mainK b.ms x.effs (k+1)=if k=0 then fdx (isM (x.effs.getD k efz).meas) b.ms else mainK b.ms x.effs k:=by
          unfold mainK
          rw [if_neg (by omega)]
          by_cases h:k=0
          · subst h;rw [if_pos rfl];cases hxx:x.effs with|nil=>rw [hxx] at hk;simp at hk|cons e r=>rfl
          · rw [if_neg h,if_neg h]
        have hm2:k≠0→0≤mainK b.ms x.effs k:=fun h=>by
          have:=(ef_ok (hef 0 (by omega))).1
          unfold mainK;rw [if_neg h];revert this;cases hxx:x.effs with|nil=>rw [hxx] at hk;simp at hk|cons e r=>exact id
        have hm3:k=0→mainK b.ms x.effs k= -1:=fun h=>by unfold mainK;rw [if_pos h]
        have hnx2:=hK2 (k+1)
        have hny2:=fun(_:Unit)=>hnx2
        have hrp:=nsV_get (l:=rowL b.ms (x.effs.take k)) (i:=j) (by rw [rowL_length];exact hjl)
        have hfx:=hj
        have hea:=hek
        unfold efV at hea
        have hrw:=hla;have hll:=hla;have hlt:=hla;have hlu:=hla;have hlv:=hla
        generalize x.effs.getD k efz=y at *
        simp only [oiS,oiE,opE,benT,adT,List.cons_append,List.nil_append]
        simp only [List.map_cons,List.map_nil,TB.inst,TV.inst,tv_map,zipT,List.cons_append,List.nil_append,Nat.add_zero]
        by_cases hk0:k=0
        · have hm3:=hm3 hk0
          rw [if_pos hk0] at hm1
          (have FX:=And.intro hla (And.intro hlm (And.intro hga (And.intro hea (And.intro hrp (And.intro hrw (And.intro hfx (And.intro hll (And.intro hlt (And.intro hlu hlv)))))))));repeat'(first|(refine sx ?_ ?_<;>intro h<;>first|(exfalso;omega)|skip)|(refine g_op ?_;refine g_call ?_;refine g_args ?_;(first|refine s_fn (hcb _) ?_|refine s_fn (gorder_b b hb _) ?_|refine s_fn (gopenix b.ms hb.nm _ _) ?_)<;>try first|omega|assumption)|refine ny ?_|refine WA_block ?_|(refine uB9_56_4 ?_;refine⟨by kernel_rfl,?_⟩)|(refine uB9_56_17 ?_;refine⟨by kernel_rfl,?_⟩)|((first|refine grp_cons (fun _=>hcb _) ?_|refine grp_cons (fun _=>gorder_b b hb _) ?_|refine grp_cons (fun _=>gopenix b.ms hb.nm _ _) ?_)<;>try first|omega|assumption)|(refine g_d ?_;refine d_args ?_;(first|refine d_fn (hcb _) ?_|refine d_fn (gorder_b b hb _) ?_|refine d_fn (gopenix b.ms hb.nm _ _) ?_|refine d_fnQ (fun _=>hcb _) ?_|refine d_fnQ (fun _=>gorder_b b hb _) ?_|refine d_fnQ (fun _=>gopenix b.ms hb.nm _ _) ?_)<;>try first|omega|assumption)|(refine g_d ?_;(first|refine d_fnY (hcb _) ?_|refine d_fnY (gorder_b b hb _) ?_|refine d_fnY (gopenix b.ms hb.nm _ _) ?_)<;>try first|omega|assumption)))
          all_goals(try(exfalso;omega))
          all_goals((refine nextU_ hny2 (()) [0,1,2,3] (hk) (by omega) ?_ (ht:=?_);(focus (simp only [oiE,opE,benT,adT,List.cons_append,List.nil_append,hset,List.map_cons,List.map_nil,TB.inst,TV.inst,tv_map,List.cons_append,List.nil_append];first|rfl|(simp [ptsV,ptV];done)|(simp [hpsV,hpV];done)|(simp [frsV,frV];done)|(simp [txV];done)|(simp [prtsV,prtV];done)));(simp only [oiS,hm1,List.map_cons,List.map_nil,TV.inst,List.getD_cons_zero,List.getD_cons_succ];exact tv_)))
        · have hm2:=hm2 hk0
          rw [if_neg hk0] at hm1
          (have FX:=And.intro hla (And.intro hlm (And.intro hga (And.intro hea (And.intro hrp (And.intro hrw (And.intro hfx (And.intro hll (And.intro hlt (And.intro hlu hlv)))))))));repeat'(first|(refine sx ?_ ?_<;>intro h<;>first|(exfalso;omega)|skip)|(refine g_op ?_;refine g_call ?_;refine g_args ?_;(first|refine s_fn (hcb _) ?_|refine s_fn (gorder_b b hb _) ?_|refine s_fn (gopenix b.ms hb.nm _ _) ?_)<;>try first|omega|assumption)|refine ny ?_|refine WA_block ?_|(refine uB9_56_4 ?_;refine⟨by kernel_rfl,?_⟩)|(refine uB9_56_17 ?_;refine⟨by kernel_rfl,?_⟩)|((first|refine grp_cons (fun _=>hcb _) ?_|refine grp_cons (fun _=>gorder_b b hb _) ?_|refine grp_cons (fun _=>gopenix b.ms hb.nm _ _) ?_)<;>try first|omega|assumption)|(refine g_d ?_;refine d_args ?_;(first|refine d_fn (hcb _) ?_|refine d_fn (gorder_b b hb _) ?_|refine d_fn (gopenix b.ms hb.nm _ _) ?_|refine d_fnQ (fun _=>hcb _) ?_|refine d_fnQ (fun _=>gorder_b b hb _) ?_|refine d_fnQ (fun _=>gopenix b.ms hb.nm _ _) ?_)<;>try first|omega|assumption)|(refine g_d ?_;(first|refine d_fnY (hcb _) ?_|refine d_fnY (gorder_b b hb _) ?_|refine d_fnY (gopenix b.ms hb.nm _ _) ?_)<;>try first|omega|assumption)))
          all_goals(try(exfalso;omega))
          all_goals((refine nextU_ hny2 (()) [0,1,2,3] (hk) (by omega) ?_ (ht:=?_);(focus (simp only [oiE,opE,benT,adT,List.cons_append,List.nil_append,hset,List.map_cons,List.map_nil,TB.inst,TV.inst,tv_map,List.cons_append,List.nil_append];first|rfl|(simp [ptsV,ptV];done)|(simp [hpsV,hpV];done)|(simp [frsV,frV];done)|(simp [txV];done)|(simp [prtsV,prtV];done)));(simp only [oiS,hm1,List.map_cons,List.map_nil,TV.inst,List.getD_cons_zero,List.getD_cons_succ];exact tv_)))
      · obtain rfl:k=x.effs.length:=by omega
        have hmall:=mainK_all b.ms x.effs
        have htk:x.effs.take x.effs.length=x.effs:=List.take_of_length_le (Nat.le_refl _)
        clear hK2 hny
        subst hB2
        have hnz:=fun js t m h=>hnx _ t m (RoundEndT_up (D:=D2) (js:=js) h opS_ok opE_ok)
        have hny:=fun(_:Unit)=>hnz
        generalize B++D2=B2 at *
        simp only [oiS,oiE,opE,benT,adT,List.cons_append,List.nil_append,hmall,htk]
        simp only [List.map_cons,List.map_nil,TB.inst,TV.inst,tv_map,zipT,List.cons_append,List.nil_append,Nat.add_zero]
        refine fzJ (j:=3) rfl ?_
        simp only [List.map_cons,List.map_nil,frzV,List.set_cons_succ,List.set_cons_zero]
        rw [if_pos ⟨by first|rfl|trivial|omega,by rw [nsV_length,rowL_length];exact Nat.le_refl _⟩,List.take_of_length_le (by rw [nsV_length,rowL_length];exact Nat.le_refl _)]
        have hea:=hla;have hrp:=hla;have hrw:=hla;have hfx:=hla;have hll:=hla;have hlt:=hla;have hlu:=hla;have hlv:=hla
        have hnr2:rwV (rowsB b.ms (b.ads.take (0+1)))=rwV (rowsB b.ms (b.ads.take 0))++[[V.lst (nsV (rowL b.ms x.effs))]]:=by rw [hnr,rwV_snoc]
        have hnm2:nsV (mnsB b.ms (b.ads.take (0+1)))=nsV (mnsB b.ms (b.ads.take 0))++[[V.int .i64 (mainL b.ms x.effs)]]:=by rw [hnm,nsV_snoc]
        have hr1:rwV (rowsB b.ms (b.ads.take 1))=[[V.lst (nsV (rowL b.ms x.effs))]]:=hnr2
        have hm1:nsV (mnsB b.ms (b.ads.take 1))=[[V.int .i64 (mainL b.ms x.effs)]]:=hnm2
        (have FX:=And.intro hla (And.intro hlm (And.intro hga (And.intro hea (And.intro hrp (And.intro hrw (And.intro hfx (And.intro hll (And.intro hlt (And.intro hlu hlv)))))))));repeat' first|(first|(refine sx ?_ ?_<;>intro h<;>first|(exfalso;omega)|skip)|(refine g_op ?_;refine g_call ?_;refine g_args ?_;(first|refine s_fn (hcb _) ?_|refine s_fn (gorder_b b hb _) ?_|refine s_fn (gopenix b.ms hb.nm _ _) ?_)<;>try first|omega|assumption)|refine ny ?_|refine WA_block ?_|(refine uB9_56_4 ?_;refine⟨by kernel_rfl,?_⟩)|(refine uB9_56_17 ?_;refine⟨by kernel_rfl,?_⟩)|((first|refine grp_cons (fun _=>hcb _) ?_|refine grp_cons (fun _=>gorder_b b hb _) ?_|refine grp_cons (fun _=>gopenix b.ms hb.nm _ _) ?_)<;>try first|omega|assumption)|(refine g_d ?_;refine d_args ?_;(first|refine d_fn (hcb _) ?_|refine d_fn (gorder_b b hb _) ?_|refine d_fn (gopenix b.ms hb.nm _ _) ?_|refine d_fnQ (fun _=>hcb _) ?_|refine d_fnQ (fun _=>gorder_b b hb _) ?_|refine d_fnQ (fun _=>gopenix b.ms hb.nm _ _) ?_)<;>try first|omega|assumption)|(refine g_d ?_;(first|refine d_fnY (hcb _) ?_|refine d_fnY (gorder_b b hb _) ?_|refine d_fnY (gopenix b.ms hb.nm _ _) ?_)<;>try first|omega|assumption))|refine d_alt ?_|refine wg_0 ?_|refine wg_b ?_|refine wg_c ?_ ?_|refine wg_n ?_|refine wm_cons ?_ ?_|exact wm_nil|refine wg_op ?_)
        all_goals(try(exfalso;omega))
        all_goals first|((refine nextU_ hny (()) [0,1,5,7] (hi) (by omega) ?_ (ht:=?_);(focus (simp only [opE,benT,hr1,hm1,List.map_cons,List.map_nil,TB.inst,TV.inst,tv_map,List.cons_append,List.nil_append];first|rfl|(simp [ptsV,ptV];done)|(simp [hpsV,hpV];done)|(simp [frsV,frV];done)|(simp [txV];done)|(simp [prtsV,prtV];done)));(simp only [opS,List.map_cons,List.map_nil,TV.inst,List.getD_cons_zero,List.getD_cons_succ];exact tv_)))|((refine nextU_ hny (()) [0,1,6,7] (hi) (by omega) ?_ (ht:=?_);(focus (simp only [opE,benT,hr1,hm1,List.map_cons,List.map_nil,TB.inst,TV.inst,tv_map,List.cons_append,List.nil_append];first|rfl|(simp [ptsV,ptV];done)|(simp [hpsV,hpV];done)|(simp [frsV,frV];done)|(simp [txV];done)|(simp [prtsV,prtV];done)));(simp only [opS,List.map_cons,List.map_nil,TV.inst,List.getD_cons_zero,List.getD_cons_succ];exact tv_)))
    | succ i=>
      have hny:=fun(_:Unit)=>hnx
      have hea:=efsV_length (l:=x.effs)
      have hrp:=hrepl
      have hrw:=hla
      have hfx:=hla
      have hll:=hla
      have hlt:=hla
      have hlu:=hla
      have hlv:=hla
      simp only [opS,opE,benT]
      simp only [List.map_cons,List.map_nil,TB.inst,TV.inst,tv_map,zipT,List.cons_append,List.nil_append,Nat.add_zero]
      (have FX:=And.intro hla (And.intro hlm (And.intro hga (And.intro hea (And.intro hrp (And.intro hrw (And.intro hfx (And.intro hll (And.intro hlt (And.intro hlu hlv)))))))));repeat'(first|(refine sx ?_ ?_<;>intro h<;>first|(exfalso;omega)|skip)|(refine g_op ?_;refine g_call ?_;refine g_args ?_;(first|refine s_fn (hcb _) ?_|refine s_fn (gorder_b b hb _) ?_|refine s_fn (gopenix b.ms hb.nm _ _) ?_)<;>try first|omega|assumption)|refine ny ?_|refine WA_block ?_|(refine uB9_56_4 ?_;refine⟨by kernel_rfl,?_⟩)|(refine uB9_56_17 ?_;refine⟨by kernel_rfl,?_⟩)|((first|refine grp_cons (fun _=>hcb _) ?_|refine grp_cons (fun _=>gorder_b b hb _) ?_|refine grp_cons (fun _=>gopenix b.ms hb.nm _ _) ?_)<;>try first|omega|assumption)|(refine g_d ?_;refine d_args ?_;(first|refine d_fn (hcb _) ?_|refine d_fn (gorder_b b hb _) ?_|refine d_fn (gopenix b.ms hb.nm _ _) ?_|refine d_fnQ (fun _=>hcb _) ?_|refine d_fnQ (fun _=>gorder_b b hb _) ?_|refine d_fnQ (fun _=>gopenix b.ms hb.nm _ _) ?_)<;>try first|omega|assumption)|(refine g_d ?_;(first|refine d_fnY (hcb _) ?_|refine d_fnY (gorder_b b hb _) ?_|refine d_fnY (gopenix b.ms hb.nm _ _) ?_)<;>try first|omega|assumption)))
      all_goals(try(exfalso;omega))
      refine WA_whileJ (σ:=Nat) (L:=B) [1,5,7,8,9,24,25,26,35,36,37] (fun k=>oiS b (i+1) 4 x k) (fun k=>oiE b (i+1) x k) (fun k=>k≤x.effs.length) (fun k=>x.effs.length - k) 0 [0,1,2,3,4,5] (Nat.zero_le _) ?_ ?_ rfl (by decide) (by decide) (fun _ _=>oiS_okS) (fun _ _=>oiE_ok) ?_
      · simp only [oiS,mainK,reduceIte,List.map_cons,List.map_nil,TV.inst,List.getD_cons_zero,List.getD_cons_succ,Nat.add_zero]
        exact tv_
      · simp only [oiE,opE,benT,adT,List.cons_append,List.nil_append,List.map_cons,List.map_nil,TB.inst,TV.inst,tv_map,List.take_zero,hrepl _ rfl,List.getD_cons_zero,List.getD_cons_succ];rfl
      rintro k hk1 B2 ⟨D2,hB2⟩ K2 hK2
      clear FX hea hrp hrw hfx hll hlt hlu hlv
      rcases Nat.lt_or_ge k x.effs.length with hk|hk
      · have hek:=efsV_get hk
        obtain⟨f1,f2,f3,f4⟩:=ef_ok (hef k hk)
        have hbd:=fdx_bd (isM (x.effs.getD k efz).meas) b.ms
        obtain⟨j,hj⟩:∃ j:Nat,fdx (isM (x.effs.getD k efz).meas) b.ms=(j:Int):=⟨(fdx (isM (x.effs.getD k efz).meas) b.ms).toNat,by omega⟩
        have hjl:j<b.ms.length:=by omega
        have hset:nsV (rowL b.ms (x.effs.take (k+1)))=(nsV (rowL b.ms (x.effs.take k))).set j [V.int .i64 (x.effs.getD k efz).by_]:=by
          rw [←nsV_set,row_set (ms_uniq hok) hjl hj f2,List.take_succ_eq_append_getElem hk]
          have:x.effs.getD k efz=x.effs[k]:=by rw [List.getD_eq_getElem?_getD,List.getElem?_eq_getElem hk];rfl
          rw [this]
        have hm1:mainK b.ms x.effs (k+1)=if k=0 then fdx (isM (x.effs.getD k efz).meas) b.ms else mainK b.ms x.effs k:=by
          unfold mainK
          rw [if_neg (by omega)]
          by_cases h:k=0
          · subst h;rw [if_pos rfl];cases hxx:x.effs with|nil=>rw [hxx] at hk;simp at hk|cons e r=>rfl
          · rw [if_neg h,if_neg h]
        have hm2:k≠0→0≤mainK b.ms x.effs k:=fun h=>by
          have:=(ef_ok (hef 0 (by omega))).1
          unfold mainK;rw [if_neg h];revert this;cases hxx:x.effs with|nil=>rw [hxx] at hk;simp at hk|cons e r=>exact id
        have hm3:k=0→mainK b.ms x.effs k= -1:=fun h=>by unfold mainK;rw [if_pos h]
        have hnx2:=hK2 (k+1)
        have hny2:=fun(_:Unit)=>hnx2
        have hrp:=nsV_get (l:=rowL b.ms (x.effs.take k)) (i:=j) (by rw [rowL_length];exact hjl)
        have hfx:=hj
        have hea:=hek
        unfold efV at hea
        have hrw:=hla;have hll:=hla;have hlt:=hla;have hlu:=hla;have hlv:=hla
        generalize x.effs.getD k efz=y at *
        simp only [oiS,oiE,opE,benT,adT,List.cons_append,List.nil_append]
        simp only [List.map_cons,List.map_nil,TB.inst,TV.inst,tv_map,zipT,List.cons_append,List.nil_append,Nat.add_zero]
        by_cases hk0:k=0
        · have hm3:=hm3 hk0
          rw [if_pos hk0] at hm1
          (have FX:=And.intro hla (And.intro hlm (And.intro hga (And.intro hea (And.intro hrp (And.intro hrw (And.intro hfx (And.intro hll (And.intro hlt (And.intro hlu hlv)))))))));repeat'(first|(refine sx ?_ ?_<;>intro h<;>first|(exfalso;omega)|skip)|(refine g_op ?_;refine g_call ?_;refine g_args ?_;(first|refine s_fn (hcb _) ?_|refine s_fn (gorder_b b hb _) ?_|refine s_fn (gopenix b.ms hb.nm _ _) ?_)<;>try first|omega|assumption)|refine ny ?_|refine WA_block ?_|(refine uB9_56_4 ?_;refine⟨by kernel_rfl,?_⟩)|(refine uB9_56_17 ?_;refine⟨by kernel_rfl,?_⟩)|((first|refine grp_cons (fun _=>hcb _) ?_|refine grp_cons (fun _=>gorder_b b hb _) ?_|refine grp_cons (fun _=>gopenix b.ms hb.nm _ _) ?_)<;>try first|omega|assumption)|(refine g_d ?_;refine d_args ?_;(first|refine d_fn (hcb _) ?_|refine d_fn (gorder_b b hb _) ?_|refine d_fn (gopenix b.ms hb.nm _ _) ?_|refine d_fnQ (fun _=>hcb _) ?_|refine d_fnQ (fun _=>gorder_b b hb _) ?_|refine d_fnQ (fun _=>gopenix b.ms hb.nm _ _) ?_)<;>try first|omega|assumption)|(refine g_d ?_;(first|refine d_fnY (hcb _) ?_|refine d_fnY (gorder_b b hb _) ?_|refine d_fnY (gopenix b.ms hb.nm _ _) ?_)<;>try first|omega|assumption)))
          all_goals(try(exfalso;omega))
          all_goals((refine nextU_ hny2 (()) [0,1,2,3,4,5] (hk) (by omega) ?_ (ht:=?_);(focus (simp only [oiE,opE,benT,adT,List.cons_append,List.nil_append,hset,List.map_cons,List.map_nil,TB.inst,TV.inst,tv_map,List.cons_append,List.nil_append];first|rfl|(simp [ptsV,ptV];done)|(simp [hpsV,hpV];done)|(simp [frsV,frV];done)|(simp [txV];done)|(simp [prtsV,prtV];done)));(simp only [oiS,hm1,List.map_cons,List.map_nil,TV.inst,List.getD_cons_zero,List.getD_cons_succ];exact tv_)))
        · have hm2:=hm2 hk0
          rw [if_neg hk0] at hm1
          (have FX:=And.intro hla (And.intro hlm (And.intro hga (And.intro hea (And.intro hrp (And.intro hrw (And.intro hfx (And.intro hll (And.intro hlt (And.intro hlu hlv)))))))));repeat'(first|(refine sx ?_ ?_<;>intro h<;>first|(exfalso;omega)|skip)|(refine g_op ?_;refine g_call ?_;refine g_args ?_;(first|refine s_fn (hcb _) ?_|refine s_fn (gorder_b b hb _) ?_|refine s_fn (gopenix b.ms hb.nm _ _) ?_)<;>try first|omega|assumption)|refine ny ?_|refine WA_block ?_|(refine uB9_56_4 ?_;refine⟨by kernel_rfl,?_⟩)|(refine uB9_56_17 ?_;refine⟨by kernel_rfl,?_⟩)|((first|refine grp_cons (fun _=>hcb _) ?_|refine grp_cons (fun _=>gorder_b b hb _) ?_|refine grp_cons (fun _=>gopenix b.ms hb.nm _ _) ?_)<;>try first|omega|assumption)|(refine g_d ?_;refine d_args ?_;(first|refine d_fn (hcb _) ?_|refine d_fn (gorder_b b hb _) ?_|refine d_fn (gopenix b.ms hb.nm _ _) ?_|refine d_fnQ (fun _=>hcb _) ?_|refine d_fnQ (fun _=>gorder_b b hb _) ?_|refine d_fnQ (fun _=>gopenix b.ms hb.nm _ _) ?_)<;>try first|omega|assumption)|(refine g_d ?_;(first|refine d_fnY (hcb _) ?_|refine d_fnY (gorder_b b hb _) ?_|refine d_fnY (gopenix b.ms hb.nm _ _) ?_)<;>try first|omega|assumption)))
          all_goals(try(exfalso;omega))
          all_goals((refine nextU_ hny2 (()) [0,1,2,3,4,5] (hk) (by omega) ?_ (ht:=?_);(focus (simp only [oiE,opE,benT,adT,List.cons_append,List.nil_append,hset,List.map_cons,List.map_nil,TB.inst,TV.inst,tv_map,List.cons_append,List.nil_append];first|rfl|(simp [ptsV,ptV];done)|(simp [hpsV,hpV];done)|(simp [frsV,frV];done)|(simp [txV];done)|(simp [prtsV,prtV];done)));(simp only [oiS,hm1,List.map_cons,List.map_nil,TV.inst,List.getD_cons_zero,List.getD_cons_succ];exact tv_)))
      · obtain rfl:k=x.effs.length:=by omega
        have hmall:=mainK_all b.ms x.effs
        have htk:x.effs.take x.effs.length=x.effs:=List.take_of_length_le (Nat.le_refl _)
        clear hK2 hny
        subst hB2
        have hnz:=fun js t m h=>hnx _ t m (RoundEndT_up (D:=D2) (js:=js) h opS_ok opE_ok)
        have hny:=fun(_:Unit)=>hnz
        generalize B++D2=B2 at *
        simp only [oiS,oiE,opE,benT,adT,List.cons_append,List.nil_append,hmall,htk]
        simp only [List.map_cons,List.map_nil,TB.inst,TV.inst,tv_map,zipT,List.cons_append,List.nil_append,Nat.add_zero]
        refine fzJ (j:=5) rfl ?_
        simp only [List.map_cons,List.map_nil,frzV,List.set_cons_succ,List.set_cons_zero]
        rw [if_pos ⟨by first|rfl|trivial|omega,by rw [nsV_length,rowL_length];exact Nat.le_refl _⟩,List.take_of_length_le (by rw [nsV_length,rowL_length];exact Nat.le_refl _)]
        have hea:=hla;have hrp:=hla;have hrw:=hla;have hfx:=hla
        have hll:(rwV (rowsB b.ms (b.ads.take (i+1)))).length=i+1:=by rw [rwV_length,hrl]
        have hlt:(rwV (rowsB b.ms (b.ads.take (i+1)))).take (i+1)=rwV (rowsB b.ms (b.ads.take (i+1))):=List.take_of_length_le (by rw [hll];exact Nat.le_refl _)
        have hlu:(nsV (mnsB b.ms (b.ads.take (i+1)))).length=i+1:=by rw [nsV_length,hml]
        have hlv:(nsV (mnsB b.ms (b.ads.take (i+1)))).take (i+1)=nsV (mnsB b.ms (b.ads.take (i+1))):=List.take_of_length_le (by rw [hlu];exact Nat.le_refl _)
        have hnr2:rwV (rowsB b.ms (b.ads.take ((i+1)+1)))=rwV (rowsB b.ms (b.ads.take (i+1)))++[[V.lst (nsV (rowL b.ms x.effs))]]:=by rw [hnr,rwV_snoc]
        have hnm2:nsV (mnsB b.ms (b.ads.take ((i+1)+1)))=nsV (mnsB b.ms (b.ads.take (i+1)))++[[V.int .i64 (mainL b.ms x.effs)]]:=by rw [hnm,nsV_snoc]
        (have FX:=And.intro hla (And.intro hlm (And.intro hga (And.intro hea (And.intro hrp (And.intro hrw (And.intro hfx (And.intro hll (And.intro hlt (And.intro hlu hlv)))))))));repeat' first|(first|(refine sx ?_ ?_<;>intro h<;>first|(exfalso;omega)|skip)|(refine g_op ?_;refine g_call ?_;refine g_args ?_;(first|refine s_fn (hcb _) ?_|refine s_fn (gorder_b b hb _) ?_|refine s_fn (gopenix b.ms hb.nm _ _) ?_)<;>try first|omega|assumption)|refine ny ?_|refine WA_block ?_|(refine uB9_56_4 ?_;refine⟨by kernel_rfl,?_⟩)|(refine uB9_56_17 ?_;refine⟨by kernel_rfl,?_⟩)|((first|refine grp_cons (fun _=>hcb _) ?_|refine grp_cons (fun _=>gorder_b b hb _) ?_|refine grp_cons (fun _=>gopenix b.ms hb.nm _ _) ?_)<;>try first|omega|assumption)|(refine g_d ?_;refine d_args ?_;(first|refine d_fn (hcb _) ?_|refine d_fn (gorder_b b hb _) ?_|refine d_fn (gopenix b.ms hb.nm _ _) ?_|refine d_fnQ (fun _=>hcb _) ?_|refine d_fnQ (fun _=>gorder_b b hb _) ?_|refine d_fnQ (fun _=>gopenix b.ms hb.nm _ _) ?_)<;>try first|omega|assumption)|(refine g_d ?_;(first|refine d_fnY (hcb _) ?_|refine d_fnY (gorder_b b hb _) ?_|refine d_fnY (gopenix b.ms hb.nm _ _) ?_)<;>try first|omega|assumption))|refine d_alt ?_|refine wg_0 ?_|refine wg_b ?_|refine wg_c ?_ ?_|refine wg_n ?_|refine wm_cons ?_ ?_|exact wm_nil|refine wg_op ?_)
        all_goals(try(exfalso;omega))
        all_goals first|((refine nextU_ hny (()) [0,1,7,9] (hi) (by omega) ?_ (ht:=?_);(focus (simp only [opE,benT,hnr2,hnm2,List.map_cons,List.map_nil,TB.inst,TV.inst,tv_map,List.cons_append,List.nil_append];first|rfl|(simp [ptsV,ptV];done)|(simp [hpsV,hpV];done)|(simp [frsV,frV];done)|(simp [txV];done)|(simp [prtsV,prtV];done)));(simp only [opS,List.map_cons,List.map_nil,TV.inst,List.getD_cons_zero,List.getD_cons_succ];exact tv_)))|((refine nextU_ hny (()) [0,1,8,9] (hi) (by omega) ?_ (ht:=?_);(focus (simp only [opE,benT,hnr2,hnm2,List.map_cons,List.map_nil,TB.inst,TV.inst,tv_map,List.cons_append,List.nil_append];first|rfl|(simp [ptsV,ptV];done)|(simp [hpsV,hpV];done)|(simp [frsV,frV];done)|(simp [txV];done)|(simp [prtsV,prtV];done)));(simp only [opS,List.map_cons,List.map_nil,TV.inst,List.getD_cons_zero,List.getD_cons_succ];exact tv_)))
  · obtain rfl:i=b.ads.length:=by omega
    have hga:=hla;have hea:=hla;have hrp:=hla;have hrw:=hla;have hfx:=hla;have hll:=hla;have hlt:=hla;have hlu:=hla;have hlv:=hla
    have hpm:=mssV_plain b.ms
    have hpa:=adsV_plain b.ads
    have hpo:=nuV_plain (ordB b.ads)
    have hc:(b.ads=[]∧b.ads.length=0)∨∃ k,b.ads.length=k+1∧b.ads≠[]:=by
      cases b.ads with
      |nil=>exact .inl ⟨rfl,rfl⟩
      |cons p r=>exact .inr ⟨r.length,rfl,by simp⟩
    rcases hc with ⟨h0,hl0⟩|⟨k,hk,hne⟩
    · have hm0:(match b.ads with|[]=>[.lst (mssV b.ms),.lst (adsV b.ads),.lst (nuV (ordB b.ads)),.nilsl,.nilsl]|_::_=>bxC b)=[V.lst (mssV b.ms),.lst (adsV b.ads),.lst (nuV (ordB b.ads)),.nilsl,.nilsl]:=by split<;>first|rfl|(rename_i hx;rw [h0] at hx;cases hx)
      rw [hm0] at hQ
      simp only [opS,opE,benT,hl0]
      clear hm0 hK
      simp only [List.map_cons,List.map_nil,TB.inst,TV.inst,tv_map,zipT,List.cons_append,List.nil_append,Nat.add_zero]
      (have FX:=And.intro hla (And.intro hlm (And.intro hga (And.intro hea (And.intro hrp (And.intro hrw (And.intro hfx (And.intro hll (And.intro hlt (And.intro hlu hlv)))))))));repeat'(first|(refine sx ?_ ?_<;>intro h<;>first|(exfalso;omega)|skip)|(refine g_op ?_;refine g_call ?_;refine g_args ?_;(first|refine s_fn (hcb _) ?_|refine s_fn (gorder_b b hb _) ?_|refine s_fn (gopenix b.ms hb.nm _ _) ?_)<;>try first|omega|assumption)|refine ny ?_|refine WA_block ?_|(refine uB9_56_4 ?_;refine⟨by kernel_rfl,?_⟩)|(refine uB9_56_17 ?_;refine⟨by kernel_rfl,?_⟩)|((first|refine grp_cons (fun _=>hcb _) ?_|refine grp_cons (fun _=>gorder_b b hb _) ?_|refine grp_cons (fun _=>gopenix b.ms hb.nm _ _) ?_)<;>try first|omega|assumption)|(refine g_d ?_;refine d_args ?_;(first|refine d_fn (hcb _) ?_|refine d_fn (gorder_b b hb _) ?_|refine d_fn (gopenix b.ms hb.nm _ _) ?_|refine d_fnQ (fun _=>hcb _) ?_|refine d_fnQ (fun _=>gorder_b b hb _) ?_|refine d_fnQ (fun _=>gopenix b.ms hb.nm _ _) ?_)<;>try first|omega|assumption)|(refine g_d ?_;(first|refine d_fnY (hcb _) ?_|refine d_fnY (gorder_b b hb _) ?_|refine d_fnY (gopenix b.ms hb.nm _ _) ?_)<;>try first|omega|assumption)))
      all_goals(try(exfalso;omega))
      all_goals(refine r_esA hQ (fin_bp (j:=1) hB rfl (frzs_cons (frz_ls hpm) (frzs_cons (frz_ls hpa) (frzs_cons (frz_ls hpo) (frzs_cons frz_nl (frzs_cons frz_nl rfl))))) ⟨rfl,rfl⟩))
    · have hm0:(match b.ads with|[]=>[.lst (mssV b.ms),.lst (adsV b.ads),.lst (nuV (ordB b.ads)),.nilsl,.nilsl]|_::_=>bxC b)=bxC b:=by split<;>first|rfl|(rename_i hx;exact absurd hx hne)
      rw [hm0] at hQ
      have ht:b.ads.take (k+1)=b.ads:=by rw [←hk];exact List.take_of_length_le (Nat.le_refl _)
      have hr1:(rwV (rowsB b.ms b.ads)).length=k+1:=by rw [rwV_length,rowsB_length,hk]
      have hr2:(nsV (mnsB b.ms b.ads)).length=k+1:=by rw [nsV_length,mnsB_length,hk]
      have hp1:=rwV_plain (rowsB b.ms b.ads)
      have hp2:=nsV_plain (mnsB b.ms b.ads)
      simp only [opS,opE,benT,ht,hk]
      clear hm0 hK
      simp only [List.map_cons,List.map_nil,TB.inst,TV.inst,tv_map,zipT,List.cons_append,List.nil_append,Nat.add_zero]
      (have FX:=And.intro hla (And.intro hlm (And.intro hga (And.intro hea (And.intro hrp (And.intro hrw (And.intro hfx (And.intro hll (And.intro hlt (And.intro hlu hlv)))))))));repeat'(first|(refine sx ?_ ?_<;>intro h<;>first|(exfalso;omega)|skip)|(refine g_op ?_;refine g_call ?_;refine g_args ?_;(first|refine s_fn (hcb _) ?_|refine s_fn (gorder_b b hb _) ?_|refine s_fn (gopenix b.ms hb.nm _ _) ?_)<;>try first|omega|assumption)|refine ny ?_|refine WA_block ?_|(refine uB9_56_4 ?_;refine⟨by kernel_rfl,?_⟩)|(refine uB9_56_17 ?_;refine⟨by kernel_rfl,?_⟩)|((first|refine grp_cons (fun _=>hcb _) ?_|refine grp_cons (fun _=>gorder_b b hb _) ?_|refine grp_cons (fun _=>gopenix b.ms hb.nm _ _) ?_)<;>try first|omega|assumption)|(refine g_d ?_;refine d_args ?_;(first|refine d_fn (hcb _) ?_|refine d_fn (gorder_b b hb _) ?_|refine d_fn (gopenix b.ms hb.nm _ _) ?_|refine d_fnQ (fun _=>hcb _) ?_|refine d_fnQ (fun _=>gorder_b b hb _) ?_|refine d_fnQ (fun _=>gopenix b.ms hb.nm _ _) ?_)<;>try first|omega|assumption)|(refine g_d ?_;(first|refine d_fnY (hcb _) ?_|refine d_fnY (gorder_b b hb _) ?_|refine d_fnY (gopenix b.ms hb.nm _ _) ?_)<;>try first|omega|assumption)))
      all_goals(try(exfalso;omega))
      all_goals(subst hB;refine r_esA hQ (fin_bp (j:=1) rfl rfl (frzs_cons (frz_ls hpm) (frzs_cons (frz_ls hpa) (frzs_cons (frz_ls hpo) (frzs_cons (frz_own (j:=2) rfl hr1 hp1) (frzs_cons (frz_own (j:=3) rfl hr2 hp2) rfl))))) ⟨rfl,rfl⟩))
end Go.Proofs.YtookikhphobnlaaGreatDoor
