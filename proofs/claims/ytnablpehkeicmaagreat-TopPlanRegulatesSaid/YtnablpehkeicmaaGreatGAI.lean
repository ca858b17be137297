import Derived.Test.YtnablpehkeicmaaGreatGAH
import Derived.Test.YtnablpehkeicmaaGreatB9
import Derived.Test.YtnablpehkeicmaaGreatGAE
set_option linter.unusedSimpArgs false
set_option linter.unusedVariables false
/- contracts: sweep and settle -/
namespace Go.Proofs.YtnablpehkeicmaaGreat
open Go.RowKit
attribute [local irreducible] WA WOs WDs WAn qThen qBlock tput
set_option maxHeartbeats 1000000
set_option maxRecDepth 20000
set_option linter.unusedSimpArgs false
set_option linter.unusedVariables false
theorem rep_ok{b:BnR}(hb:Bnd b):stOk b.ads (List.replicate b.ads.length 0):=by
  refine⟨by simp,fun i hi=>?_⟩
  have e:(List.replicate b.ads.length (0:Int)).getD i 0=0:=by simp [List.getD_eq_getElem?_getD,List.getElem?_replicate,hi]
  rw [e]
  have h1:=hb.le i hi
  have h2:=hb.mo i hi
  exact⟨h1.2,h2.1⟩
theorem find_at{f:Nat→Bool}{n k:Nat}(hk:k<n)(h0:∀ j,j<k→f j=false)(h:f k=true):(List.range n).find? f=some k:=by
  rw [List.find?_eq_some_iff_getElem]
  refine⟨h,k,by simpa using hk,by simp,fun j hj=>?_⟩
  simp [h0 j hj]
theorem find_no{f:Nat→Bool}{n:Nat}(h0:∀ j,j<n→f j=false):(List.range n).find? f=none:=by
  rw [List.find?_eq_none]
  intro x hx
  simp [h0 x (List.mem_range.1 hx)]
theorem gwith_bad(b:BnR)(hb:Bl b)(h0:bnErr b≠0)(l:List Int)(m:Mem):Gives Tryz.prog 48 [.agg (bnV b),.lst (nsV l)] m (.tup [.nilptr,.int .i64 (bnErr b)]):=by
  have hop:=fun m=>gopen_bad b hb h0 m
  have hx0:=h0
  unfold bnV at hop ⊢

  refine Gives_in Tryz.func48 rfl Tryz.ntmps48 Tryz.results48 (by kernel_rfl) (by simp) rfl fun Q hQ=>?_
  (repeat'(first|(refine sx ?_ ?_<;>intro h<;>first|(exfalso;omega)|skip)|(refine na ?_;(first|refine nb hop ?_)<;>try first|omega|assumption)|refine ny ?_|refine WA_block ?_))
  all_goals(try(exfalso;omega))
  all_goals((refine r_es hQ ?_;try with_reducible rfl))
theorem frz_bpx{m:Mem}{L n:Nat}(b:BnR):frz m L n (.bp (bxC b) 0)=some (.bp (bxC b) 0):=frz_plain _ _ _ (by simpa [V.plain] using bxC_plain b) (by simp) (by simp) (by simp) (by simp)
theorem gwith_ok(b:BnR)(hb:Bl b)(h0:bnErr b=0)(l:List Int)(m:Mem):Gives Tryz.prog 48 [.agg (bnV b),.lst (nsV l)] m (.tup [.bp (bxC b) 0,.int .i64 (stErr b.ads l)]):=by
  have hop:=fun m=>gopen_ok b hb h0 m
  have hfa:=(bn_ok h0).fa
  unfold bnV at hop ⊢
  refine CallA_in Tryz.func48 rfl Tryz.ntmps48 Tryz.results48 (by kernel_rfl) (by simp) fun Q hQ=>?_
  (have FX:=hfa;repeat'(first|(refine sx ?_ ?_<;>intro h<;>first|(exfalso;omega)|skip)|(refine na ?_;(first|refine nb hop ?_|refine nb (gchecksteps_c b hfa l) ?_)<;>try first|omega|assumption)|refine ny ?_|refine WA_block ?_))
  all_goals(try(exfalso;omega))
  all_goals(refine r_esA hQ (.inr ⟨_,_,rfl,?_,⟨rfl,rfl⟩⟩))
  all_goals(show(frzs (frz _ _ 3) [_,_]).map V.tup=_;rw [frzs_cons (frz_bpx b) (frzs_cons (frz_int _ _ _ _ _) rfl)];rfl)
/-- the error of a bench and steps -/
def bsErr(b:BnR)(l:List Int):Int:=if bnErr b≠0 then bnErr b else stErr b.ads l
end Go.Proofs.YtnablpehkeicmaaGreat
namespace Go.Proofs.YtnablpehkeicmaaGreat
open Go.RowKit
attribute [local irreducible] WA WOs WDs WAn qThen qBlock tput
set_option maxHeartbeats 1000000
set_option maxRecDepth 20000
set_option linter.unusedSimpArgs false
set_option linter.unusedVariables false
set_option maxHeartbeats 4000000
def isS(n:Int)(x:StR):Bool:=decide (x.ad=n)
/-- does a name come later in a pass -/
def latB(ads:List AdR)(l:List StR)(i:Nat)(s:Txt):Bool:=decide (0≤fdx (isS (fdx (isA s) ads)) (l.drop (i+1)))
/-- the error of a step of a pass -/
def psErrAt(ads:List AdR)(l:List StR)(i:Nat):Int:=
  if ¬ (0≤(l.getD i stz).ad∧(l.getD i stz).ad≤(ads.length:Int) - 1) then 6
  else if 0≤fdx (isS (l.getD i stz).ad) (l.take i) then 5
  else if (l.getD i stz).n=0 then 11
  else if ¬ (-(ads.getD (l.getD i stz).ad.toNat adz).pass≤(l.getD i stz).n∧(l.getD i stz).n≤(ads.getD (l.getD i stz).ad.toNat adz).pass) then 2
  else if 0≤fdx (latB ads l i) (ads.getD (l.getD i stz).ad.toNat adz).after then 9 else 0
/-- the first wrong step of a pass, and its error -/
def psI(ads:List AdR)(l:List StR):Option Nat:=(List.range l.length).find? (fun i=>decide (psErrAt ads l i≠0))
def psV(ads:List AdR)(l:List StR):Int×Int:=if 12<l.length then (0,8) else match psI ads l with
  |some i=>((i:Int),psErrAt ads l i)
  |none=>(0,0)
theorem psV_big{ads:List AdR}{l:List StR}(h:12<l.length):psV ads l=(0,8):=by unfold psV;rw [if_pos h]
theorem psV_at{ads:List AdR}{l:List StR}{i:Nat}{c:Int}(h12:l.length≤12)(hi:i<l.length)(h0:∀ j,j<i→psErrAt ads l j=0)(h:psErrAt ads l i=c)(hc:c≠0):psV ads l=((i:Int),c):=by
  unfold psV psI
  rw [if_neg (by omega),find_at hi (fun j hj=>by rw [h0 j hj];rfl) (by rw [h];exact decide_eq_true hc)]
  dsimp only
  rw [h]
theorem psV_no{ads:List AdR}{l:List StR}(h12:l.length≤12)(h0:∀ j,j<l.length→psErrAt ads l j=0):psV ads l=(0,0):=by
  unfold psV psI
  rw [if_neg (by omega),find_no (fun j hj=>by rw [h0 j hj];rfl)]

theorem gcp2_c(y x:StR)(M:Mem)(k:Nat)(st:Sta)(hk:M[k]?=some (.cells st 71 2 [[.int .i64 x.ad,.int .i64 x.n]])):Gives Tryz.prog 86 [.agg (stV y),.ptr k 0 0] M (.bool (isS x.ad y)):=by
  have hk:=lend_get2 hk
  unfold stV isS
  refine Gives_in Tryz.func86 rfl Tryz.ntmps86 Tryz.results86 (by kernel_rfl) (by simp) rfl fun Q hQ=>?_
  (have FX:=hk;repeat'(first|(refine sx ?_ ?_<;>intro h<;>first|(exfalso;omega)|skip)|refine ny ?_|refine WA_block ?_))
  all_goals((refine r_es hQ ?_;try with_reducible rfl))
  all_goals(exact congrArg V.bool (by first|rfl|(rw [decide_eq_true (by assumption)];rfl)|(rw [decide_eq_false (by assumption)];rfl)|exact(decide_eq_true (by assumption)).symm|exact(decide_eq_false (by assumption)).symm|exact(decide_eq_true (by omega)).symm|exact(decide_eq_false (by omega)).symm))

theorem gcp11_c(y:StR)(n:Int)(M:Mem)(k:Nat)(st:Sta)(hk:M[k]?=some (.cells st 3 1 [[.int .i64 n]])):Gives Tryz.prog 85 [.agg (stV y),.ptr k 0 0] M (.bool (isS n y)):=by
  have hk:=lend_get2 hk
  unfold stV isS
  refine Gives_in Tryz.func85 rfl Tryz.ntmps85 Tryz.results85 (by kernel_rfl) (by simp) rfl fun Q hQ=>?_
  (have FX:=hk;repeat'(first|(refine sx ?_ ?_<;>intro h<;>first|(exfalso;omega)|skip)|refine ny ?_|refine WA_block ?_))
  all_goals((refine r_es hQ ?_;try with_reducible rfl))
  all_goals(exact congrArg V.bool (by first|rfl|(rw [decide_eq_true (by assumption)];rfl)|(rw [decide_eq_false (by assumption)];rfl)|exact(decide_eq_true (by assumption)).symm|exact(decide_eq_false (by assumption)).symm|exact(decide_eq_true (by omega)).symm|exact(decide_eq_false (by omega)).symm))

theorem gcp1_c(b:BnR)(hlb:b.ads.length≤100000)(l:List StR)(hl:l.length≤12)(i:Nat)(hi:i<l.length)(s:Txt)(M:Mem)(k2 k3 k6:Nat)(s2 s3 s6:Sta)(h2:M[k2]?=some (.cells s2 48 1 [[.bp (bxC b) 0]]))(h3:M[k3]?=some (.cells s3 66 1 [[.lst (stsV l)]]))(h6:M[k6]?=some (.cells s6 3 1 [[.int .i64 i]])):Gives Tryz.prog 82 [.str s,.ptr k2 0 0,.ptr k3 0 0,.ptr k6 0 0] M (.bool (latB b.ads l i s)):=by
  have h2:=lend_get2 h2
  have h3:=lend_get2 h3
  have h6:=lend_get2 h6
  have hln:=stsV_length (l:=l)
  have hsd:(stsV l).drop (i+1)=stsV (l.drop (i+1)):=stsV_drop l (i+1)
  have hto:((i:Int)+1).toNat=i+1:=by omega
  have hte:((l.length:Int) - ((i:Int)+1)).toNat=l.length - (i+1):=by omega
  have htk:(stsV (l.drop (i+1))).take (l.length - (i+1))=stsV (l.drop (i+1)):=List.take_of_length_le (by rw [stsV_length,List.length_drop];exact Nat.le_refl _)
  have hal:=fun n h=>stsV_all (l:=l) (n:=n) h
  unfold latB
  unfold bxC at h2
  have hcf:=fun(m:Mem) (k:Nat) (h:∃ st,m[k]?=some (.cells st 3 1 [[.int .i64 (fdx (isA s) b.ads)]]))=>cf_sts (l.drop (i+1)) (isS (fdx (isA s) b.ads)) 85 [.ptr k 0 0] m (by rw [List.length_drop];omega) (fun i hi M hM=>h.elim fun st h=>(hM.at h).elim fun st h=>gcp11_c _ (fdx (isA s) b.ads) M k st h)
  refine Gives_in Tryz.func82 rfl Tryz.ntmps82 Tryz.results82 (by kernel_rfl) (by simp) rfl fun Q hQ=>?_
  (have FX:=fx9 h2 h3 h6 hln hsd hto hte htk hal;repeat'(first|(refine sx ?_ ?_<;>intro h<;>first|(exfalso;omega)|skip)|(refine na ?_;(first|refine s_fn (gnumber_c b.ads _ _ hlb) ?_|refine s_fn (hcf _ _ ?_) ?_)<;>try first|omega|assumption)|refine ny ?_|refine WA_block ?_))
  all_goals(try(exfalso;omega))
  all_goals try(exact⟨_,ev_⟩)
  all_goals((refine r_es hQ ?_;try with_reducible rfl))
  all_goals(exact congrArg V.bool (by first|rfl|(rw [decide_eq_true (by assumption)];rfl)|(rw [decide_eq_false (by assumption)];rfl)|exact(decide_eq_true (by assumption)).symm|exact(decide_eq_false (by assumption)).symm|exact(decide_eq_true (by omega)).symm|exact(decide_eq_false (by omega)).symm))
def bxA(b:BnR):List V:=[.lst (mssV b.ms),.lst (adsV b.ads),.lst (nuV (ordB b.ads)),.lst (rwV (rowsB b.ms b.ads)),.lst (nsV (mnsB b.ms b.ads))]
theorem uB37_57_6{N:Nat}{l:List Oper}{t:List (Nat×V)}{m:Mem}{Q:Exit→List (Nat×V)→Mem→Prop}(h:RgN Tryz.prog N l t m Q (fun i=>if i==1 || i==2 || i==6 || i==7 || i==9 || i==10 then .q else .p) [.one 0,.one 1,.one 2,.one 3,.one 4,.one 5,.one 6,.one 7,.one 8,.one 9,.one 10]):WA Tryz.prog N (.region 6 l.toArray true) t m Q:=d_rgN h
theorem uB37_57_8{N:Nat}{l:List Oper}{t:List (Nat×V)}{m:Mem}{Q:Exit→List (Nat×V)→Mem→Prop}(h:RgN Tryz.prog N l t m Q (fun i=>if i==10 then .f else if i==9 then .a else if i==0 || i==4 || i==6 || i==8 then .q else .p) [.one 0,.one 1,.one 2,.one 3,.one 4,.one 5,.one 6,.one 7,.one 8,.one 9,.one 10]):WA Tryz.prog N (.region 8 l.toArray true) t m Q:=d_rgN h
theorem gcheckpass_c (b:BnR) (hb:Bnd b) (haf:∀ i,i<b.ads.length→(b.ads.getD i adz).after.length≤1000) (l:List StR) (m:Mem):Gives Tryz.prog 57 [.bp (bxC b) 0,.lst (stsV l)] m (.tup [.int .i64 (psV b.ads l).1,.int .i64 (psV b.ads l).2]):=by
  have hla:=adsV_length (l:=b.ads)
  have hln:=stsV_length (l:=l)
  have hfa:=hb.fa
  have hga:=hla
  have hgb:=hla
  have hti:=hla
  have hsl:=hla
  have hal:=hla
  have hto:=hla
  have hcf:=hla
  have hct:=hla
  have hbx:bxC b=bxA b:=rfl
  by_cases h12:12<l.length
  · rw [psV_big h12,hbx]
    unfold bxA
    refine Gives_in Tryz.func57 rfl Tryz.ntmps57 Tryz.results57 (by kernel_rfl) (by simp) rfl fun Q hQ=>?_
    (have FX:=fx8 hla hln hga hgb hti hsl hal hto;repeat'(first|(refine sx ?_ ?_<;>intro h<;>first|(exfalso;omega)|skip)|(refine na ?_;(first|refine nb (gwithin_c _ _ _) ?_|refine s_fn (hcf _ _ ?_) ?_|refine d_fn (hcf _ _ ?_) ?_|refine d_fnQ (fun _=>hcf _ _ ?_) ?_|refine grp_cons (fun _=>hcf _ _ ?_) ?_|refine s_fn (gsmall_1 _ (by omega) _ _ _) ?_|refine d_fn (gsmall_1 _ (by omega) _ _ _) ?_|refine d_fnQ (fun _=>gsmall_1 _ (by omega) _ _ _) ?_|refine grp_cons (fun _=>gsmall_1 _ (by omega) _ _ _) ?_|refine s_fn (hct _ _ _ _ ?_) ?_|refine d_fn (hct _ _ _ _ ?_) ?_|refine d_fnQ (fun _=>hct _ _ _ _ ?_) ?_|refine grp_cons (fun _=>hct _ _ _ _ ?_) ?_)<;>try first|omega|assumption)|refine ny ?_|refine WA_block ?_|(refine uB37_57_6 ?_;refine⟨by kernel_rfl,?_⟩)|(refine uB37_57_8 ?_;refine⟨by kernel_rfl,?_⟩)|(refine g_d ?_;(first|refine d_fnY (gwithin_c _ _ _ _) ?_|refine d_fnY (hcf _ _ ?_) ?_|refine d_fnY (gsmall_1 _ (by omega) _ _ _) ?_|refine d_fnY (hct _ _ _ _ ?_) ?_)<;>try first|omega|assumption)))
    all_goals(try(exfalso;omega))
    all_goals((refine r_es hQ ?_;try with_reducible rfl))
  rw [hbx]
  unfold bxA
  refine Gives_in Tryz.func57 rfl Tryz.ntmps57 Tryz.results57 (by kernel_rfl) (by simp) rfl fun Q hQ=>?_
  (have FX:=fx8 hla hln hga hgb hti hsl hal hto;repeat'(first|(refine sx ?_ ?_<;>intro h<;>first|(exfalso;omega)|skip)|(refine na ?_;(first|refine nb (gwithin_c _ _ _) ?_|refine s_fn (hcf _ _ ?_) ?_|refine d_fn (hcf _ _ ?_) ?_|refine d_fnQ (fun _=>hcf _ _ ?_) ?_|refine grp_cons (fun _=>hcf _ _ ?_) ?_|refine s_fn (gsmall_1 _ (by omega) _ _ _) ?_|refine d_fn (gsmall_1 _ (by omega) _ _ _) ?_|refine d_fnQ (fun _=>gsmall_1 _ (by omega) _ _ _) ?_|refine grp_cons (fun _=>gsmall_1 _ (by omega) _ _ _) ?_|refine s_fn (hct _ _ _ _ ?_) ?_|refine d_fn (hct _ _ _ _ ?_) ?_|refine d_fnQ (fun _=>hct _ _ _ _ ?_) ?_|refine grp_cons (fun _=>hct _ _ _ _ ?_) ?_)<;>try first|omega|assumption)|refine ny ?_|refine WA_block ?_|(refine uB37_57_6 ?_;refine⟨by kernel_rfl,?_⟩)|(refine uB37_57_8 ?_;refine⟨by kernel_rfl,?_⟩)|(refine g_d ?_;(first|refine d_fnY (gwithin_c _ _ _ _) ?_|refine d_fnY (hcf _ _ ?_) ?_|refine d_fnY (gsmall_1 _ (by omega) _ _ _) ?_|refine d_fnY (hct _ _ _ _ ?_) ?_)<;>try first|omega|assumption)))
  all_goals(try(exfalso;omega))
  refine WA_whileK (σ:=Nat) (L:=m) [2,3,13,14,15] (fun i=>[.ptr (lend m).length 0 0,.ptr ((lend m).length+1) 0 0,.lst (stsV l),.int .i64 l.length,.int .i64 i]) (fun _=>[.cells .own 48 1 [[.bp (bxA b) 0]],.cells .own 66 1 [[.lst (stsV l)]]]) 2 (fun i=>i≤l.length∧∀ j,j<i→psErrAt b.ads l j=0) (fun i=>l.length - i) 0 ⟨Nat.zero_le _,fun j h=>absurd h (Nat.not_lt_zero _)⟩ tv_ rfl (fun _=>rfl) (by intro s s' _ _;simp [conB,conS,V.keeps,V.plain,Blk.flat,flatL,plainL,V.flat]) (by intro s s' _ _;simp [conB,conS,V.keeps,V.plain,Blk.flat,flatL,plainL,V.flat]) ?_
  rintro i ⟨hi1,hi2⟩ K hK
  simp only [zipT,bxA]
  clear FX hga hgb hti hsl hal hto
  rcases Nat.lt_or_ge i l.length with hi|hi
  · have hga:=stsV_get hi
    have hti:((i:Int) - ((0:Nat):Int)).toNat=i:=by omega
    have hsl:=stsV_take l i
    have hal:=fun n h=>stsV_all (l:=l) (n:=n) h
    have hto:=hla
    have hat:psErrAt b.ads l i=if ¬ (0≤(l.getD i stz).ad∧(l.getD i stz).ad≤(b.ads.length:Int) - 1) then 6
      else if 0≤fdx (isS (l.getD i stz).ad) (l.take i) then 5
      else if (l.getD i stz).n=0 then 11
      else if ¬ (-(b.ads.getD (l.getD i stz).ad.toNat adz).pass≤(l.getD i stz).n∧(l.getD i stz).n≤(b.ads.getD (l.getD i stz).ad.toNat adz).pass) then 2
      else if 0≤fdx (latB b.ads l i) (b.ads.getD (l.getD i stz).ad.toNat adz).after then 9 else 0:=rfl
    have hps:=fun c h hc=>psV_at (c:=c) (by omega) hi hi2 h hc
    generalize l.getD i stz=x at*
    obtain⟨xa,xn⟩:=x
    unfold stV at hga
    dsimp only at hga hat
    have hcf:=fun(m:Mem) (k:Nat) (h:∃ st,m[k]?=some (.cells st 71 2 [[.int .i64 xa,.int .i64 xn]]))=>cf_sts (l.take i) (isS xa) 86 [.ptr k 0 0] m (by rw [List.length_take];omega) (fun i hi M hM=>h.elim fun st h=>(hM.at h).elim fun st h=>gcp2_c _ ⟨xa,xn⟩ M k st h)
    by_cases hxa:0≤xa∧xa≤(b.ads.length:Int) - 1
    · obtain⟨q,rfl⟩:∃ q:Nat,xa=(q:Int):=⟨xa.toNat,by omega⟩
      rw [Int.toNat_natCast] at hat
      have hgb:=adsV_get (l:=b.ads) (i:=q) (by omega)
      have hpa:=hb.pa q (by omega)
      have hafq:=haf q (by omega)
      have hct:=fun(m:Mem) (k2 k3 k6:Nat) (h:(∃ st,m[k2]?=some (.cells st 48 1 [[.bp (bxC b) 0]]))∧(∃ st,m[k3]?=some (.cells st 66 1 [[.lst (stsV l)]]))∧∃ st,m[k6]?=some (.cells st 3 1 [[.int .i64 i]]))=>cf_ts (b.ads.getD q adz).after (latB b.ads l i) 82 [.ptr k2 0 0,.ptr k3 0 0,.ptr k6 0 0] m (by omega) (fun j hj M hM=>h.1.elim fun s2 g2=>h.2.1.elim fun s3 g3=>h.2.2.elim fun s6 g6=>(hM.at g2).elim fun s2 g2=>(hM.at g3).elim fun s3 g3=>(hM.at g6).elim fun s6 g6=>gcp1_c b (by omega) l (by omega) i hi _ M k2 k3 k6 s2 s3 s6 g2 g3 g6)
      simp only [hbx,bxA] at hct
      generalize b.ads.getD q adz=y at*
      obtain⟨yn,ye,yl,ym,yp,ya⟩:=y
      unfold adV at hgb
      dsimp only at hgb hat hct hpa hafq
      (have FX:=fx8 hla hln hga hgb hti hsl hal hto;repeat'(first|(refine sx ?_ ?_<;>intro h<;>first|(exfalso;omega)|skip)|(refine na ?_;(first|refine nb (gwithin_c _ _ _) ?_|refine s_fn (hcf _ _ ?_) ?_|refine d_fn (hcf _ _ ?_) ?_|refine d_fnQ (fun _=>hcf _ _ ?_) ?_|refine grp_cons (fun _=>hcf _ _ ?_) ?_|refine s_fn (gsmall_1 _ (by omega) _ _ _) ?_|refine d_fn (gsmall_1 _ (by omega) _ _ _) ?_|refine d_fnQ (fun _=>gsmall_1 _ (by omega) _ _ _) ?_|refine grp_cons (fun _=>gsmall_1 _ (by omega) _ _ _) ?_|refine s_fn (hct _ _ _ _ ?_) ?_|refine d_fn (hct _ _ _ _ ?_) ?_|refine d_fnQ (fun _=>hct _ _ _ _ ?_) ?_|refine grp_cons (fun _=>hct _ _ _ _ ?_) ?_)<;>try first|omega|assumption)|refine ny ?_|refine WA_block ?_|(refine uB37_57_6 ?_;refine⟨by kernel_rfl,?_⟩)|(refine uB37_57_8 ?_;refine⟨by kernel_rfl,?_⟩)|(refine g_d ?_;(first|refine d_fnY (gwithin_c _ _ _ _) ?_|refine d_fnY (hcf _ _ ?_) ?_|refine d_fnY (gsmall_1 _ (by omega) _ _ _) ?_|refine d_fnY (hct _ _ _ _ ?_) ?_)<;>try first|omega|assumption)))
      all_goals(try(exfalso;omega))
      all_goals try(exact⟨_,ev_⟩)
      all_goals try(exact⟨⟨_,ev_⟩,⟨_,ev_⟩,⟨_,ev_⟩⟩)
      all_goals first
        | (refine nextL_ hK (i+1) ⟨by omega,up_zero hi2 (hat.trans (by rw [if_neg (by omega),if_neg (by omega),if_neg (by omega),if_neg (by omega),if_neg (by omega)]))⟩ (by omega)
           done)
        | (rw [hps 5 (hat.trans (by rw [if_neg (by omega),if_pos (by omega)])) (by decide)] at hQ
           (refine r_es hQ ?_;try with_reducible rfl)
           done)
        | (rw [hps 11 (hat.trans (by rw [if_neg (by omega),if_neg (by omega),if_pos (by omega)])) (by decide)] at hQ
           (refine r_es hQ ?_;try with_reducible rfl)
           done)
        | (rw [hps 2 (hat.trans (by rw [if_neg (by omega),if_neg (by omega),if_neg (by omega),if_pos (by omega)])) (by decide)] at hQ
           (refine r_es hQ ?_;try with_reducible rfl)
           done)
        | (rw [hps 9 (hat.trans (by rw [if_neg (by omega),if_neg (by omega),if_neg (by omega),if_neg (by omega),if_pos (by omega)])) (by decide)] at hQ
           (refine r_es hQ ?_;try with_reducible rfl)
           done)
    · rw [if_pos (by omega)] at hat
      have hct:=hla
      have hgb:=hla
      rw [hps 6 hat (by decide)] at hQ
      (have FX:=fx8 hla hln hga hgb hti hsl hal hto;repeat'(first|(refine sx ?_ ?_<;>intro h<;>first|(exfalso;omega)|skip)|(refine na ?_;(first|refine nb (gwithin_c _ _ _) ?_|refine s_fn (hcf _ _ ?_) ?_|refine d_fn (hcf _ _ ?_) ?_|refine d_fnQ (fun _=>hcf _ _ ?_) ?_|refine grp_cons (fun _=>hcf _ _ ?_) ?_|refine s_fn (gsmall_1 _ (by omega) _ _ _) ?_|refine d_fn (gsmall_1 _ (by omega) _ _ _) ?_|refine d_fnQ (fun _=>gsmall_1 _ (by omega) _ _ _) ?_|refine grp_cons (fun _=>gsmall_1 _ (by omega) _ _ _) ?_|refine s_fn (hct _ _ _ _ ?_) ?_|refine d_fn (hct _ _ _ _ ?_) ?_|refine d_fnQ (fun _=>hct _ _ _ _ ?_) ?_|refine grp_cons (fun _=>hct _ _ _ _ ?_) ?_)<;>try first|omega|assumption)|refine ny ?_|refine WA_block ?_|(refine uB37_57_6 ?_;refine⟨by kernel_rfl,?_⟩)|(refine uB37_57_8 ?_;refine⟨by kernel_rfl,?_⟩)|(refine g_d ?_;(first|refine d_fnY (gwithin_c _ _ _ _) ?_|refine d_fnY (hcf _ _ ?_) ?_|refine d_fnY (gsmall_1 _ (by omega) _ _ _) ?_|refine d_fnY (hct _ _ _ _ ?_) ?_)<;>try first|omega|assumption)))
      all_goals(try(exfalso;omega))
      all_goals((refine r_es hQ ?_;try with_reducible rfl))
  · obtain rfl:i=l.length:=by omega
    have hga:=hla
    have hgb:=hla
    have hti:=hla
    have hsl:=hla
    have hal:=hla
    have hto:=hla
    have hcf:=hla
    have hct:=hla
    rw [psV_no (by omega) hi2] at hQ
    (have FX:=fx8 hla hln hga hgb hti hsl hal hto;repeat'(first|(refine sx ?_ ?_<;>intro h<;>first|(exfalso;omega)|skip)|(refine na ?_;(first|refine nb (gwithin_c _ _ _) ?_|refine s_fn (hcf _ _ ?_) ?_|refine d_fn (hcf _ _ ?_) ?_|refine d_fnQ (fun _=>hcf _ _ ?_) ?_|refine grp_cons (fun _=>hcf _ _ ?_) ?_|refine s_fn (gsmall_1 _ (by omega) _ _ _) ?_|refine d_fn (gsmall_1 _ (by omega) _ _ _) ?_|refine d_fnQ (fun _=>gsmall_1 _ (by omega) _ _ _) ?_|refine grp_cons (fun _=>gsmall_1 _ (by omega) _ _ _) ?_|refine s_fn (hct _ _ _ _ ?_) ?_|refine d_fn (hct _ _ _ _ ?_) ?_|refine d_fnQ (fun _=>hct _ _ _ _ ?_) ?_|refine grp_cons (fun _=>hct _ _ _ _ ?_) ?_)<;>try first|omega|assumption)|refine ny ?_|refine WA_block ?_|(refine uB37_57_6 ?_;refine⟨by kernel_rfl,?_⟩)|(refine uB37_57_8 ?_;refine⟨by kernel_rfl,?_⟩)|(refine g_d ?_;(first|refine d_fnY (gwithin_c _ _ _ _) ?_|refine d_fnY (hcf _ _ ?_) ?_|refine d_fnY (gsmall_1 _ (by omega) _ _ _) ?_|refine d_fnY (hct _ _ _ _ ?_) ?_)<;>try first|omega|assumption)))
    all_goals(try(exfalso;omega))
    all_goals((refine r_es hQ ?_;try with_reducible rfl))
end Go.Proofs.YtnablpehkeicmaaGreat
namespace Go.Proofs.YtnablpehkeicmaaGreat
open Go.RowKit
attribute [local irreducible] WA WOs WDs WAn qThen qBlock tput
set_option maxHeartbeats 1000000
set_option maxRecDepth 20000
set_option linter.unusedSimpArgs false
set_option linter.unusedVariables false
/-! the searches -/

theorem rmeasureat_c(l:List MsR)(s:Txt)(hl:l.length≤1000)(m:Mem):Gives Tryz.prog 36 [.lst (mssV l),.str s] m (.int .i64 (fdx (isM s) l)):=by
  have hln:=mssV_length (l:=l)
  have hga:=hln
  refine Gives_in Tryz.func36 rfl Tryz.ntmps36 Tryz.results36 (by kernel_rfl) (by simp) rfl fun Q hQ=>?_
  (have FX:=And.intro hln hga;repeat'(first|(refine sx ?_ ?_<;>intro h<;>first|(exfalso;omega)|skip)|refine ny ?_|refine WA_block ?_))
  refine WA_while (σ:=Nat) [0,1,5] (fun i=>[.lst (mssV l),.str s,.int .i64 i]) (fun _=>lend m++[]) (fun i=>i≤l.length∧∀ j,j<i→isM s (l.getD j msz)=false) (fun i=>l.length - i) 0 ⟨Nat.zero_le _,fun j h=>absurd h (Nat.not_lt_zero _)⟩ tv_ rfl ?_
  rintro i ⟨hi1,hi2⟩ L hL
  simp only [zipT]
  clear FX hga
  rcases Nat.lt_or_ge i l.length with hi|hi
  · have hga:=mssV_get hi
    have hat:isM s (l.getD i msz)=decide ((l.getD i msz).name=s):=rfl
    have hat1:(l.getD i msz).name=s→fdx (isM s) l=i:=fun h=>fdx_at hi hi2 (hat.trans (decide_eq_true h))
    have hat2:¬ (l.getD i msz).name=s→isM s (l.getD i msz)=false:=fun h=>hat.trans (decide_eq_false h)
    have hat3:=fun h=>up_false (f:=fun j=>isM s (l.getD j msz)) hi2 (hat2 h)
    clear hat hat2
    generalize l.getD i msz=x at*
    obtain⟨nm,va,lo,hg⟩:=x
    unfold msV at hga
    dsimp only at hga hat1 hat3
    (have FX:=And.intro hln hga;repeat'(first|(refine sx ?_ ?_<;>intro h<;>first|(exfalso;omega)|skip)|refine ny ?_|refine WA_block ?_))
    all_goals(try(exfalso;omega))
    all_goals try
      ((refine r_es hQ ?_;try with_reducible rfl)
       exact congrArg (V.int .i64) (hat1 (by assumption)).symm)
    all_goals(refine next_ hL (i+1) ⟨hi,hat3 (by assumption)⟩ (by omega))
  · obtain rfl:i=l.length:=by omega
    have hga:=hln
    (have FX:=And.intro hln hga;repeat'(first|(refine sx ?_ ?_<;>intro h<;>first|(exfalso;omega)|skip)|refine ny ?_|refine WA_block ?_))
    all_goals(try(exfalso;omega))
    all_goals((refine r_es hQ ?_;try with_reducible rfl))
    all_goals(exact congrArg (V.int .i64) (fdx_no hi2).symm)

theorem radjustmentat_c(l:List AdR)(s:Txt)(hl:l.length≤1000)(m:Mem):Gives Tryz.prog 37 [.lst (adsV l),.str s] m (.int .i64 (fdx (isA s) l)):=by
  have hln:=adsV_length (l:=l)
  have hga:=hln
  refine Gives_in Tryz.func37 rfl Tryz.ntmps37 Tryz.results37 (by kernel_rfl) (by simp) rfl fun Q hQ=>?_
  (have FX:=And.intro hln hga;repeat'(first|(refine sx ?_ ?_<;>intro h<;>first|(exfalso;omega)|skip)|refine ny ?_|refine WA_block ?_))
  refine WA_while (σ:=Nat) [0,1,5] (fun i=>[.lst (adsV l),.str s,.int .i64 i]) (fun _=>lend m++[]) (fun i=>i≤l.length∧∀ j,j<i→isA s (l.getD j adz)=false) (fun i=>l.length - i) 0 ⟨Nat.zero_le _,fun j h=>absurd h (Nat.not_lt_zero _)⟩ tv_ rfl ?_
  rintro i ⟨hi1,hi2⟩ L hL
  simp only [zipT]
  clear FX hga
  rcases Nat.lt_or_ge i l.length with hi|hi
  · have hga:=adsV_get hi
    have hat:isA s (l.getD i adz)=decide ((l.getD i adz).name=s):=rfl
    have hat1:(l.getD i adz).name=s→fdx (isA s) l=i:=fun h=>fdx_at hi hi2 (hat.trans (decide_eq_true h))
    have hat2:¬ (l.getD i adz).name=s→isA s (l.getD i adz)=false:=fun h=>hat.trans (decide_eq_false h)
    have hat3:=fun h=>up_false (f:=fun j=>isA s (l.getD j adz)) hi2 (hat2 h)
    clear hat hat2
    generalize l.getD i adz=x at*
    obtain⟨nm,ef,le,mo,pa,af⟩:=x
    unfold adV at hga
    dsimp only at hga hat1 hat3
    (have FX:=And.intro hln hga;repeat'(first|(refine sx ?_ ?_<;>intro h<;>first|(exfalso;omega)|skip)|refine ny ?_|refine WA_block ?_))
    all_goals(try(exfalso;omega))
    all_goals try
      ((refine r_es hQ ?_;try with_reducible rfl)
       exact congrArg (V.int .i64) (hat1 (by assumption)).symm)
    all_goals(refine next_ hL (i+1) ⟨hi,hat3 (by assumption)⟩ (by omega))
  · obtain rfl:i=l.length:=by omega
    have hga:=hln
    (have FX:=And.intro hln hga;repeat'(first|(refine sx ?_ ?_<;>intro h<;>first|(exfalso;omega)|skip)|refine ny ?_|refine WA_block ?_))
    all_goals(try(exfalso;omega))
    all_goals((refine r_es hQ ?_;try with_reducible rfl))
    all_goals(exact congrArg (V.int .i64) (fdx_no hi2).symm)

theorem bhastext_c(l:List Txt)(s:Txt)(hl:l.length≤1000)(m:Mem):Gives Tryz.prog 39 [.lst (tsV l),.str s] m (.bool (decide (0≤fdx (isT s) l))):=by
  have hln:=tsV_length (l:=l)
  have hga:=hln
  refine Gives_in Tryz.func39 rfl Tryz.ntmps39 Tryz.results39 (by kernel_rfl) (by simp) rfl fun Q hQ=>?_
  (have FX:=And.intro hln hga;repeat'(first|(refine sx ?_ ?_<;>intro h<;>first|(exfalso;omega)|skip)|refine ny ?_|refine WA_block ?_))
  refine WA_while (σ:=Nat) [0,1,5] (fun i=>[.lst (tsV l),.str s,.int .i64 i]) (fun _=>lend m++[]) (fun i=>i≤l.length∧∀ j,j<i→isT s (l.getD j [])=false) (fun i=>l.length - i) 0 ⟨Nat.zero_le _,fun j h=>absurd h (Nat.not_lt_zero _)⟩ tv_ rfl ?_
  rintro i ⟨hi1,hi2⟩ L hL
  simp only [zipT]
  clear FX hga
  rcases Nat.lt_or_ge i l.length with hi|hi
  · have hga:=tsV_get hi
    have hat:isT s (l.getD i [])=decide (l.getD i []=s):=rfl
    have hat1:l.getD i []=s→fdx (isT s) l=i:=fun h=>fdx_at hi hi2 (hat.trans (decide_eq_true h))
    have hat2:¬ l.getD i []=s→isT s (l.getD i [])=false:=fun h=>hat.trans (decide_eq_false h)
    have hat3:=fun h=>up_false (f:=fun j=>isT s (l.getD j [])) hi2 (hat2 h)
    clear hat hat2
    generalize l.getD i []=x at*
    (have FX:=And.intro hln hga;repeat'(first|(refine sx ?_ ?_<;>intro h<;>first|(exfalso;omega)|skip)|refine ny ?_|refine WA_block ?_))
    all_goals(try(exfalso;omega))
    all_goals try
      ((refine r_es hQ ?_;try with_reducible rfl)
       exact congrArg V.bool (decide_eq_true (by rw [hat1 (by assumption)];omega)).symm)
    all_goals(refine next_ hL (i+1) ⟨hi,hat3 (by assumption)⟩ (by omega))
  · obtain rfl:i=l.length:=by omega
    have hga:=hln
    (have FX:=And.intro hln hga;repeat'(first|(refine sx ?_ ?_<;>intro h<;>first|(exfalso;omega)|skip)|refine ny ?_|refine WA_block ?_))
    all_goals(try(exfalso;omega))
    all_goals((refine r_es hQ ?_;try with_reducible rfl))
    all_goals(exact congrArg V.bool (decide_eq_false (by rw [fdx_no hi2];omega)).symm)
theorem mem_at{l:List Nat}{i:Nat}(h:i<l.length):l.getD i 0∈l:=by
  rw [List.getD_eq_getElem?_getD,List.getElem?_eq_getElem h];exact List.getElem_mem h
theorem mem_no{l:List Nat}{n:Nat}(h:∀ j,j<l.length→l.getD j 0≠n):n ∉ l:=by
  intro hm
  obtain⟨j,hj,rfl⟩:=List.getElem_of_mem hm
  have:=h j hj
  rw [List.getD_eq_getElem?_getD,List.getElem?_eq_getElem hj] at this
  exact this rfl

theorem bhas_c (l:List Nat) (n:Nat) (hl:l.length≤1000) (m:Mem):Gives Tryz.prog 40 [.lst (nuV l),.int .i64 n] m (.bool (decide (n∈l))):=by
  have hln:=nuV_length (l:=l)
  have hga:=hln
  refine Gives_in Tryz.func40 rfl Tryz.ntmps40 Tryz.results40 (by kernel_rfl) (by simp) rfl fun Q hQ=>?_
  (have FX:=And.intro hln hga;repeat'(first|(refine sx ?_ ?_<;>intro h<;>first|(exfalso;omega)|skip)|refine ny ?_|refine WA_block ?_))
  refine WA_while (σ:=Nat) [0,1,5] (fun i=>[.lst (nuV l),.int .i64 n,.int .i64 i]) (fun _=>lend m++[]) (fun i=>i≤l.length∧∀ j,j<i→l.getD j 0≠n) (fun i=>l.length - i) 0 ⟨Nat.zero_le _,fun j h=>absurd h (Nat.not_lt_zero _)⟩ tv_ rfl ?_
  rintro i ⟨hi1,hi2⟩ L hL
  simp only [zipT]
  clear FX hga
  rcases Nat.lt_or_ge i l.length with hi|hi
  · have hga:=nuV_get hi
    have hat1:l.getD i 0=n→n∈l:=fun h=>h ▸ mem_at hi
    have hat3:l.getD i 0≠n→∀ j,j<i+1→l.getD j 0≠n:=fun h j hj=>by
      rcases Nat.lt_or_ge j i with q|q
      · exact hi2 j q
      · obtain rfl:j=i:=by omega
        exact h
    generalize l.getD i 0=x at*
    (have FX:=And.intro hln hga;repeat'(first|(refine sx ?_ ?_<;>intro h<;>first|(exfalso;omega)|skip)|refine ny ?_|refine WA_block ?_))
    all_goals(try(exfalso;omega))
    all_goals try
      ((refine r_es hQ ?_;try with_reducible rfl)
       exact congrArg V.bool (decide_eq_true (hat1 (by omega))).symm)
    all_goals(refine next_ hL (i+1) ⟨hi,hat3 (by omega)⟩ (by omega))
  · obtain rfl:i=l.length:=by omega
    have hga:=hln
    (have FX:=And.intro hln hga;repeat'(first|(refine sx ?_ ?_<;>intro h<;>first|(exfalso;omega)|skip)|refine ny ?_|refine WA_block ?_))
    all_goals(try(exfalso;omega))
    all_goals((refine r_es hQ ?_;try with_reducible rfl))
    all_goals(exact congrArg V.bool (decide_eq_false (mem_no hi2)).symm)
end Go.Proofs.YtnablpehkeicmaaGreat
