/- contract: the nearest steps -/
import Derived.Test.YtookikhphobnlaaGreatDoorB16
set_option linter.unusedSimpArgs false
set_option linter.unusedVariables false
namespace Go.Proofs.YtookikhphobnlaaGreatDoor
open Go.RowKit
attribute [local irreducible] WA WOs WDs WAn qThen qBlock tput
set_option maxHeartbeats 1000000
set_option maxRecDepth 20000
set_option linter.unusedSimpArgs false
set_option linter.unusedVariables false
set_option maxHeartbeats 4000000
/-- how far a measure is from the middle, doubled -/
def farP(va by_ lo hi s:Int):Int:=((2 * (va+by_ * s) - lo - hi).natAbs:Int)
def stepN(ok:Int→Bool)(far:Int→Int)(s:Int)(p:Int×Bool):Int×Bool:=if ok s=true then (if p.2=false∨far s<far p.1 then (s,true) else p) else p
def nrK(ok:Int→Bool)(far:Int→Int):Nat→Int×Bool
  |0=>(0,false)
  |n+1=>stepN ok far n (stepN ok far (-(n:Int)) (nrK ok far n))
theorem stepN_bd{ok:Int→Bool}{far:Int→Int}{s:Int}{p:Int×Bool}{c:Int}(hs: -c≤s∧s≤c)(hp: -c≤p.1∧p.1≤c): -c≤(stepN ok far s p).1∧(stepN ok far s p).1≤c:=by
  unfold stepN
  split
  · split
    · exact hs
    · exact hp
  · exact hp
theorem nrK_bd(ok:Int→Bool)(far:Int→Int):∀ n:Nat, -(n:Int)≤(nrK ok far n).1∧(nrK ok far n).1≤n
  |0=>by simp [nrK]
  | n+1=>by
    have ih:=nrK_bd ok far n
    exact stepN_bd (by omega) (stepN_bd (by omega) (by omega))
def okS(a:AdR)(x s:Int):Bool:=decide (a.least≤x+s∧x+s≤a.most)
/-- how many more steps bring a measure nearest to its middle -/
def nearP(b:BnR)(l:List Int)(i j:Nat):Int:=(nrK (okS (b.ads.getD i adz) (l.getD i 0)) (farP (valP b l j) (byN b i j) (b.ms.getD j msz).low (b.ms.getD j msz).high) ((b.ads.getD i adz).pass.toNat+1)).1
def nrJ(ok:Int→Bool)(far:Int→Int)(n:Nat)(p:Int×Bool):Nat→Int×Bool
  |0=>p
  |1=>stepN ok far (-(n:Int)) p
  |_+2=>stepN ok far n (stepN ok far (-(n:Int)) p)
theorem stepN_e1{ok:Int→Bool}{far:Int→Int}{s:Int}{p:Int×Bool}(h:ok s=false):stepN ok far s p=p:=by unfold stepN;rw [if_neg (by rw [h];decide)]
theorem stepN_e2{ok:Int→Bool}{far:Int→Int}{s:Int}{p:Int×Bool}(h:ok s=true)(h2:p.2=false∨far s<far p.1):stepN ok far s p=(s,true):=by unfold stepN;rw [if_pos h,if_pos h2]
theorem stepN_e3{ok:Int→Bool}{far:Int→Int}{s:Int}{p:Int×Bool}(h1:p.2=true)(h2:¬ far s<far p.1):stepN ok far s p=p:=by
  unfold stepN
  split
  · rw [if_neg (by rw [h1];rintro(h|h);cases h;exact h2 h)]
  · rfl

theorem gnear1_c(va by_ yv lo hi s:Int)(nm:Txt)(h1: -13000000≤va∧va≤13000000)(h2: -1000≤by_∧by_≤1000)(h3: -1000≤s∧s≤1000)(h4: -100000≤lo∧lo≤100000)(h5: -100000≤hi∧hi≤100000)(M:Mem)(k9 k10 k8:Nat){s9 s10 s8:Sta}
    (h9:M[k9]?=some (.cells s9 3 1 [[.int .i64 va]]):=by first|exact ev_|fail) (h10:M[k10]?=some (.cells s10 3 1 [[.int .i64 by_]]):=by first|exact ev_|fail) (h8:M[k8]?=some (.cells s8 75 4 [[.str nm,.int .i64 yv,.int .i64 lo,.int .i64 hi]]):=by first|exact ev_|fail):
    Gives Tryz.prog 116 [.int .i64 s,.ptr k9 0 0,.ptr k10 0 0,.ptr k8 0 0] M (.int .i64 (farP va by_ lo hi s)):=by
  have h9:=lend_get2 h9
  have h10:=lend_get2 h10
  have h8:=lend_get2 h8
  have hmb:=mul_bd (a:=1000) (c:=1000) (by decide) h2 h3
  unfold farP
  refine Gives_in Tryz.func116 rfl Tryz.ntmps116 Tryz.results116 (by kernel_rfl) (by simp) rfl fun Q hQ=>?_
  (have FX:=And.intro h9 (And.intro h10 h8);repeat'(first|(refine sx ?_ ?_<;>intro h<;>first|(exfalso;omega)|skip)|(refine g_op ?_;refine g_call ?_;refine g_args ?_;(first|refine s_fn (gsize_c _ (by omega) (by omega) _) ?_)<;>try first|omega|assumption)|refine ny ?_|refine WA_block ?_))
  all_goals((refine r_es hQ ?_;try with_reducible rfl))
theorem uB18_97_1{N:Nat}{l:List Oper}{t:List (Nat×V)}{m:Mem}{Q:Exit→List (Nat×V)→Mem→Prop}(h:RgN Tryz.prog N l t m Q (fun i=>if i==24 || i==25 then .f else if i==22 || i==23 then .a else if i==4 || i==7 || i==12 || i==16 || i==19 || i==21 then .q else .p) [.one 0,.one 1,.one 2,.one 3,.one 4,.one 5,.one 6,.one 7,.one 8,.one 9,.one 10,.one 11,.one 12,.one 13,.one 14,.one 15,.one 16,.one 17,.one 18,.one 19,.one 20,.one 21,.grp true [] [22,23],.one 24,.one 25]):WA Tryz.prog N (.region 1 l.toArray true) t m Q:=d_rgN h
theorem uB18_97_2{N:Nat}{l:List Oper}{t:List (Nat×V)}{m:Mem}{Q:Exit→List (Nat×V)→Mem→Prop}(h:RgN Tryz.prog N l t m Q (fun i=>if i==28 || i==29 then .f else if i==26 || i==27 then .a else if i==4 || i==7 || i==9 || i==13 || i==16 || i==20 || i==23 || i==25 then .q else .p) [.one 0,.one 1,.one 2,.one 3,.one 4,.one 5,.one 6,.one 7,.one 8,.one 9,.one 10,.one 11,.one 12,.one 13,.one 14,.one 15,.one 16,.one 17,.one 18,.one 19,.one 20,.one 21,.one 22,.one 23,.one 24,.one 25,.grp true [] [26,27],.one 28,.one 29]):WA Tryz.prog N (.region 2 l.toArray true) t m Q:=d_rgN h
theorem uB18_97_10{N:Nat}{l:List Oper}{t:List (Nat×V)}{m:Mem}{Q:Exit→List (Nat×V)→Mem→Prop}(h:RgN Tryz.prog N l t m Q (fun i=>if i==3 || i==7 || i==9 || i==10 || i==11 then .q else .p) [.one 0,.one 1,.one 2,.one 3,.one 4,.one 5,.one 6,.one 7,.one 8,.one 9,.one 10,.one 11]):WA Tryz.prog N (.region 10 l.toArray true) t m Q:=d_rgN h
theorem gnear_c (b:BnR) (hb:Bnd b) (l:List Int) (hst:stOk b.ads l) (i j:Nat) (hi:i<b.ads.length) (hj:j<b.ms.length) (hmj:mainL b.ms (b.ads.getD i adz).effs=(j:Int)) (m:Mem):Gives Tryz.prog 97 [.bp (bxC b) 0,.int .i64 i,.lst (nsV l)] m (.int .i64 (nearP b l i j)):=by
  have hln:=nsV_length (l:=l)
  have hla:=adsV_length (l:=b.ads)
  have hlm:=mssV_length (l:=b.ms)
  have hlw:(rwV (rowsB b.ms b.ads)).length=b.ads.length:=by rw [rwV_length,rowsB_length]
  have hlk:(nsV (mnsB b.ms b.ads)).length=b.ads.length:=by rw [nsV_length,mnsB_length]
  have hll:=hst.1
  have hls:=steps_bd hb hst.2
  have hval:=fun m=>gvalue_c b hb l hll hls j hj m
  have hvb:=valP_bd hb hj hls
  have hga:=adsV_get hi
  have hgm:=mssV_get hj
  have hgn:=nsV_get (l:=mnsB b.ms b.ads) (i:=i) (by rw [mnsB_length];exact hi)
  rw [mnsB_get hi,hmj] at hgn
  have hgw:=rwV_get (l:=rowsB b.ms b.ads) (i:=i) (by rw [rowsB_length];exact hi)
  rw [rowsB_get hi] at hgw
  have hgl:=nsV_get (l:=l) (i:=i) (by omega)
  have hlr:(nsV (rowL b.ms (b.ads.getD i adz).effs)).length=b.ms.length:=by rw [nsV_length,rowL_length]
  have hgr:(nsV (rowL b.ms (b.ads.getD i adz).effs))[j]?=some [V.int .i64 (byN b i j)]∧(nsV (rowL b.ms (b.ads.getD i adz).effs)).length=b.ms.length:=⟨by
    have h:=nsV_get (l:=rowL b.ms (b.ads.getD i adz).effs) (i:=j) (by rw [rowL_length];exact hj)
    rw [rowL_get hj] at h
    exact h,hlr⟩
  have hby:=hb.by_ i j
  obtain⟨_,hlo,hhi⟩:=hb.va j hj
  have hlo: -100000≤(b.ms.getD j msz).low∧(b.ms.getD j msz).low≤100000:=by omega
  have hhi: -100000≤(b.ms.getD j msz).high∧(b.ms.getD j msz).high≤100000:=by omega
  have hpa:=hb.pa i hi
  have hst2:=hst.2 i hi
  have hle:=hb.le i hi
  have hmo:=hb.mo i hi
  have hms:=hb.fm
  have has:=hb.fa
  have hrl:=hlr
  clear hlr hmj
  unfold nearP okS bxC at *
  generalize nsV (rowL b.ms (b.ads.getD i adz).effs)=RL at *
  generalize rwV (rowsB b.ms b.ads)=RW at *
  generalize nsV (mnsB b.ms b.ads)=MN at *
  generalize nuV (ordB b.ads)=O at *
  generalize byN b i j=byj at *
  generalize valP b l j=vj at *
  generalize l.getD i 0=li at *
  generalize b.ms.getD j msz=y at *
  obtain⟨ynm,yv,lo,hi'⟩:=y
  generalize b.ads.getD i adz=x at *
  obtain⟨nm,ef,le,mo,pa,af⟩:=x
  unfold msV at hgm
  unfold adV at hga
  dsimp only at hgm hga hpa hst2 hle hmo hlo hhi ⊢
  obtain⟨p,rfl⟩:∃ p:Nat,pa=(p:Int):=⟨pa.toNat,by omega⟩
  have hpt:((p:Int)).toNat+1=p+1:=by omega
  rw [hpt]
  refine Gives_in Tryz.func97 rfl Tryz.ntmps97 Tryz.results97 (by kernel_rfl) (by simp) rfl fun Q hQ=>?_
  (have FX:=And.intro hln (And.intro hla (And.intro hlm (And.intro hlw (And.intro hlk (And.intro hga (And.intro hgm (And.intro hgn (And.intro hgw (And.intro hgr hgl)))))))));repeat'(first|(refine sx ?_ ?_<;>intro h<;>first|(exfalso;omega)|skip)|(refine g_op ?_;refine g_call ?_;refine g_args ?_;(first|refine s_fn (hval _) ?_|refine s_fn (gwithin_c _ _ _ _) ?_)<;>try first|omega|assumption)|(refine g_op ?_;refine g_dyn ?_;refine g_dargs ?_;first|(refine s_fn (gnear1_c vj byj yv lo hi' _ ynm hvb hby (by omega) hlo hhi _ ((lend m).length+6) ((lend m).length+7) ((lend m).length+3)) ?_<;>try first|omega|assumption))|refine ny ?_|refine WA_block ?_|(refine uB18_97_1 ?_;refine⟨by kernel_rfl,?_⟩)|(refine uB18_97_2 ?_;refine⟨by kernel_rfl,?_⟩)|(refine uB18_97_10 ?_;refine⟨by kernel_rfl,?_⟩)|((first|refine grp_cons (fun _=>hval _) ?_|refine grp_cons (fun _=>gwithin_c _ _ _ _) ?_)<;>try first|omega|assumption)|(refine g_d ?_;refine d_args ?_;(first|refine d_fn (hval _) ?_|refine d_fn (gwithin_c _ _ _ _) ?_|refine d_fnQ (fun _=>hval _) ?_|refine d_fnQ (fun _=>gwithin_c _ _ _ _) ?_)<;>try first|omega|assumption)|(refine g_d ?_;(first|refine d_fnY (hval _) ?_|refine d_fnY (gwithin_c _ _ _ _) ?_)<;>try first|omega|assumption)|(refine g_d ?_;first|(refine d_dyn (gnear1_c vj byj yv lo hi' _ ynm hvb hby (by omega) hlo hhi _ ((lend m).length+6) ((lend m).length+7) ((lend m).length+3)) ?_<;>try first|omega|assumption)|(refine d_dynY (gnear1_c vj byj yv lo hi' _ ynm hvb hby (by omega) hlo hhi _ ((lend m).length+6) ((lend m).length+7) ((lend m).length+3)) ?_<;>try first|omega|assumption))))
  all_goals(try(exfalso;omega))
  have hokd:∀ s,(fun s=>decide (le≤li+s∧li+s≤mo)) s=decide (le≤li+s∧li+s≤mo):=fun _=>rfl
  generalize (fun s=>decide (le≤li+s∧li+s≤mo))=ok at *
  refine WA_while (σ:=Nat) [1,2,7,8,9,10,11,12,67,68] (fun n=>[.int .i64 i,.lst (nsV l),.ptr ((lend m).length+2) 0 0,.ptr ((lend m).length+3) 0 0,.ptr ((lend m).length+6) 0 0,.ptr ((lend m).length+7) 0 0,.int .i64 (nrK ok (farP vj byj lo hi') n).1,.bool (nrK ok (farP vj byj lo hi') n).2,.int .i64 ((p:Int)+1),.int .i64 n]) (fun _=>lend m++[.dead,.dead,.cells .own 78 6 [[.str nm,.lst (efsV ef),.int .i64 le,.int .i64 mo,.int .i64 p,.lst (tsV af)]],.cells .own 75 4 [[.str ynm,.int .i64 yv,.int .i64 lo,.int .i64 hi']],.dead,.dead,.cells .own 3 1 [[.int .i64 vj]],.cells .own 3 1 [[.int .i64 byj]]]) (fun n=>n≤p+1) (fun n=>p+1 - n) 0 (Nat.zero_le _) tv_ rfl ?_
  rintro n hn L hL
  simp only [zipT]
  have hgl00:=hgl
  clear FX hga hgm hgn hgw hgr hgl hval
  have hga:=hla;have hgm:=hla;have hgn:=hla;have hgw:=hla;have hgr:=hla;have hval:=hla
  have hgl0:=hgl00
  have hgl:=hla
  rcases Nat.lt_or_ge n (p+1) with hlt|hge
  · have hnb:=nrK_bd ok (farP vj byj lo hi') n
    have hsu:nrK ok (farP vj byj lo hi') (n+1)=stepN ok (farP vj byj lo hi') n (stepN ok (farP vj byj lo hi') (-(n:Int)) (nrK ok (farP vj byj lo hi') n)):=rfl
    generalize nrK ok (farP vj byj lo hi') n=p0 at *
    (have FX:=And.intro hln (And.intro hla (And.intro hlm (And.intro hlw (And.intro hlk (And.intro hga (And.intro hgm (And.intro hgn (And.intro hgw (And.intro hgr hgl)))))))));repeat'(first|(refine sx ?_ ?_<;>intro h<;>first|(exfalso;omega)|skip)|(refine g_op ?_;refine g_call ?_;refine g_args ?_;(first|refine s_fn (hval _) ?_|refine s_fn (gwithin_c _ _ _ _) ?_)<;>try first|omega|assumption)|(refine g_op ?_;refine g_dyn ?_;refine g_dargs ?_;first|(refine s_fn (gnear1_c vj byj yv lo hi' _ ynm hvb hby (by omega) hlo hhi _ ((lend m).length+6) ((lend m).length+7) ((lend m).length+3)) ?_<;>try first|omega|assumption))|refine ny ?_|refine WA_block ?_|(refine uB18_97_1 ?_;refine⟨by kernel_rfl,?_⟩)|(refine uB18_97_2 ?_;refine⟨by kernel_rfl,?_⟩)|(refine uB18_97_10 ?_;refine⟨by kernel_rfl,?_⟩)|((first|refine grp_cons (fun _=>hval _) ?_|refine grp_cons (fun _=>gwithin_c _ _ _ _) ?_)<;>try first|omega|assumption)|(refine g_d ?_;refine d_args ?_;(first|refine d_fn (hval _) ?_|refine d_fn (gwithin_c _ _ _ _) ?_|refine d_fnQ (fun _=>hval _) ?_|refine d_fnQ (fun _=>gwithin_c _ _ _ _) ?_)<;>try first|omega|assumption)|(refine g_d ?_;(first|refine d_fnY (hval _) ?_|refine d_fnY (gwithin_c _ _ _ _) ?_)<;>try first|omega|assumption)|(refine g_d ?_;first|(refine d_dyn (gnear1_c vj byj yv lo hi' _ ynm hvb hby (by omega) hlo hhi _ ((lend m).length+6) ((lend m).length+7) ((lend m).length+3)) ?_<;>try first|omega|assumption)|(refine d_dynY (gnear1_c vj byj yv lo hi' _ ynm hvb hby (by omega) hlo hhi _ ((lend m).length+6) ((lend m).length+7) ((lend m).length+3)) ?_<;>try first|omega|assumption))))
    all_goals(try(exfalso;omega))
    refine WA_while (σ:=Nat) [1,2,7,8,9,10,11,12,67,68,74,75] (fun j=>[.int .i64 i,.lst (nsV l),.ptr ((lend m).length+2) 0 0,.ptr ((lend m).length+3) 0 0,.ptr ((lend m).length+6) 0 0,.ptr ((lend m).length+7) 0 0,.int .i64 (nrJ ok (farP vj byj lo hi') n p0 j).1,.bool (nrJ ok (farP vj byj lo hi') n p0 j).2,.int .i64 ((p:Int)+1),.int .i64 n,.agg [.int .i64 (-(n:Int)),.int .i64 n],.int .i64 j]) (fun _=>lend m++[.dead,.dead,.cells .own 78 6 [[.str nm,.lst (efsV ef),.int .i64 le,.int .i64 mo,.int .i64 p,.lst (tsV af)]],.cells .own 75 4 [[.str ynm,.int .i64 yv,.int .i64 lo,.int .i64 hi']],.dead,.dead,.cells .own 3 1 [[.int .i64 vj]],.cells .own 3 1 [[.int .i64 byj]]]) (fun j=>j≤2) (fun j=>2 - j) 0 (Nat.zero_le _) tv_ rfl ?_
    rintro q hq L2 hL2
    simp only [zipT]
    clear FX hgl
    rcases q with _|_|_|q
    · have hgl:=hgl0
      have hsn:nrJ ok (farP vj byj lo hi') n p0 1=stepN ok (farP vj byj lo hi') (-(n:Int)) p0:=rfl
      have hs0:nrJ ok (farP vj byj lo hi') n p0 0=p0:=rfl
      have hokn:=hokd (-(n:Int))
      rw [hs0]
      have e2:=fun h=>stepN_e2 (far:=farP vj byj lo hi') (p:=p0) (h:ok (-(n:Int))=true)
      have e1:=fun h=>stepN_e1 (far:=farP vj byj lo hi') (p:=p0) (h:ok (-(n:Int))=false)
      have e3:=stepN_e3 (ok:=ok) (far:=farP vj byj lo hi') (s:= -(n:Int)) (p:=p0)
      cases hp2:p0.2
      all_goals
        (have FX:=And.intro hln (And.intro hla (And.intro hlm (And.intro hlw (And.intro hlk (And.intro hga (And.intro hgm (And.intro hgn (And.intro hgw (And.intro hgr hgl)))))))));repeat'(first|(refine sx ?_ ?_<;>intro h<;>first|(exfalso;omega)|skip)|(refine g_op ?_;refine g_call ?_;refine g_args ?_;(first|refine s_fn (hval _) ?_|refine s_fn (gwithin_c _ _ _ _) ?_)<;>try first|omega|assumption)|(refine g_op ?_;refine g_dyn ?_;refine g_dargs ?_;first|(refine s_fn (gnear1_c vj byj yv lo hi' _ ynm hvb hby (by omega) hlo hhi _ ((lend m).length+6) ((lend m).length+7) ((lend m).length+3)) ?_<;>try first|omega|assumption))|refine ny ?_|refine WA_block ?_|(refine uB18_97_1 ?_;refine⟨by kernel_rfl,?_⟩)|(refine uB18_97_2 ?_;refine⟨by kernel_rfl,?_⟩)|(refine uB18_97_10 ?_;refine⟨by kernel_rfl,?_⟩)|((first|refine grp_cons (fun _=>hval _) ?_|refine grp_cons (fun _=>gwithin_c _ _ _ _) ?_)<;>try first|omega|assumption)|(refine g_d ?_;refine d_args ?_;(first|refine d_fn (hval _) ?_|refine d_fn (gwithin_c _ _ _ _) ?_|refine d_fnQ (fun _=>hval _) ?_|refine d_fnQ (fun _=>gwithin_c _ _ _ _) ?_)<;>try first|omega|assumption)|(refine g_d ?_;(first|refine d_fnY (hval _) ?_|refine d_fnY (gwithin_c _ _ _ _) ?_)<;>try first|omega|assumption)|(refine g_d ?_;first|(refine d_dyn (gnear1_c vj byj yv lo hi' _ ynm hvb hby (by omega) hlo hhi _ ((lend m).length+6) ((lend m).length+7) ((lend m).length+3)) ?_<;>try first|omega|assumption)|(refine d_dynY (gnear1_c vj byj yv lo hi' _ ynm hvb hby (by omega) hlo hhi _ ((lend m).length+6) ((lend m).length+7) ((lend m).length+3)) ?_<;>try first|omega|assumption))))
        all_goals(try(exfalso;first|omega|contradiction))
        all_goals first
          |(refine next_ hL2 1 (by omega) (by omega) (by rw [hsn,e2 (by rw [hokn];exact decide_eq_true (by assumption)) (by first|exact .inl hp2|exact .inr (by assumption))];exact tv_);done)
          |(refine next_ hL2 1 (by omega) (by omega) (by rw [hsn,e1 (by rw [hokn];exact decide_eq_false (by assumption))];simp only [hp2];exact tv_);done)
          |(refine next_ hL2 1 (by omega) (by omega) (by rw [hsn,e3 hp2 (by assumption)];simp only [hp2];exact tv_);done)
    · have hgl:=hgl0
      have hsn:nrJ ok (farP vj byj lo hi') n p0 2=stepN ok (farP vj byj lo hi') n (nrJ ok (farP vj byj lo hi') n p0 1):=rfl
      have hbd1: -(n:Int)≤(nrJ ok (farP vj byj lo hi') n p0 1).1∧(nrJ ok (farP vj byj lo hi') n p0 1).1≤n:=stepN_bd (by omega) hnb
      have hokn:=hokd (n:Int)
      have e2:=fun h=>stepN_e2 (far:=farP vj byj lo hi') (p:=nrJ ok (farP vj byj lo hi') n p0 1) (h:ok (n:Int)=true)
      have e1:=fun h=>stepN_e1 (far:=farP vj byj lo hi') (p:=nrJ ok (farP vj byj lo hi') n p0 1) (h:ok (n:Int)=false)
      have e3:=stepN_e3 (ok:=ok) (far:=farP vj byj lo hi') (s:=(n:Int)) (p:=nrJ ok (farP vj byj lo hi') n p0 1)
      generalize nrJ ok (farP vj byj lo hi') n p0 1=p1 at *
      cases hp2:p1.2
      all_goals
        (have FX:=And.intro hln (And.intro hla (And.intro hlm (And.intro hlw (And.intro hlk (And.intro hga (And.intro hgm (And.intro hgn (And.intro hgw (And.intro hgr hgl)))))))));repeat'(first|(refine sx ?_ ?_<;>intro h<;>first|(exfalso;omega)|skip)|(refine g_op ?_;refine g_call ?_;refine g_args ?_;(first|refine s_fn (hval _) ?_|refine s_fn (gwithin_c _ _ _ _) ?_)<;>try first|omega|assumption)|(refine g_op ?_;refine g_dyn ?_;refine g_dargs ?_;first|(refine s_fn (gnear1_c vj byj yv lo hi' _ ynm hvb hby (by omega) hlo hhi _ ((lend m).length+6) ((lend m).length+7) ((lend m).length+3)) ?_<;>try first|omega|assumption))|refine ny ?_|refine WA_block ?_|(refine uB18_97_1 ?_;refine⟨by kernel_rfl,?_⟩)|(refine uB18_97_2 ?_;refine⟨by kernel_rfl,?_⟩)|(refine uB18_97_10 ?_;refine⟨by kernel_rfl,?_⟩)|((first|refine grp_cons (fun _=>hval _) ?_|refine grp_cons (fun _=>gwithin_c _ _ _ _) ?_)<;>try first|omega|assumption)|(refine g_d ?_;refine d_args ?_;(first|refine d_fn (hval _) ?_|refine d_fn (gwithin_c _ _ _ _) ?_|refine d_fnQ (fun _=>hval _) ?_|refine d_fnQ (fun _=>gwithin_c _ _ _ _) ?_)<;>try first|omega|assumption)|(refine g_d ?_;(first|refine d_fnY (hval _) ?_|refine d_fnY (gwithin_c _ _ _ _) ?_)<;>try first|omega|assumption)|(refine g_d ?_;first|(refine d_dyn (gnear1_c vj byj yv lo hi' _ ynm hvb hby (by omega) hlo hhi _ ((lend m).length+6) ((lend m).length+7) ((lend m).length+3)) ?_<;>try first|omega|assumption)|(refine d_dynY (gnear1_c vj byj yv lo hi' _ ynm hvb hby (by omega) hlo hhi _ ((lend m).length+6) ((lend m).length+7) ((lend m).length+3)) ?_<;>try first|omega|assumption))))
        all_goals(try(exfalso;first|omega|contradiction))
        all_goals first
          |(refine next_ hL2 2 (by omega) (by omega) (by rw [hsn,e2 (by rw [hokn];exact decide_eq_true (by assumption)) (by first|exact .inl hp2|exact .inr (by assumption))];exact tv_);done)
          |(refine next_ hL2 2 (by omega) (by omega) (by rw [hsn,e1 (by rw [hokn];exact decide_eq_false (by assumption))];simp only [hp2];exact tv_);done)
          |(refine next_ hL2 2 (by omega) (by omega) (by rw [hsn,e3 hp2 (by assumption)];simp only [hp2];exact tv_);done)
    · have hgl:=hgl0
      rw [show nrJ ok (farP vj byj lo hi') n p0 2=stepN ok (farP vj byj lo hi') n (stepN ok (farP vj byj lo hi') (-(n:Int)) p0) from rfl]
      (have FX:=And.intro hln (And.intro hla (And.intro hlm (And.intro hlw (And.intro hlk (And.intro hga (And.intro hgm (And.intro hgn (And.intro hgw (And.intro hgr hgl)))))))));repeat'(first|(refine sx ?_ ?_<;>intro h<;>first|(exfalso;omega)|skip)|(refine g_op ?_;refine g_call ?_;refine g_args ?_;(first|refine s_fn (hval _) ?_|refine s_fn (gwithin_c _ _ _ _) ?_)<;>try first|omega|assumption)|(refine g_op ?_;refine g_dyn ?_;refine g_dargs ?_;first|(refine s_fn (gnear1_c vj byj yv lo hi' _ ynm hvb hby (by omega) hlo hhi _ ((lend m).length+6) ((lend m).length+7) ((lend m).length+3)) ?_<;>try first|omega|assumption))|refine ny ?_|refine WA_block ?_|(refine uB18_97_1 ?_;refine⟨by kernel_rfl,?_⟩)|(refine uB18_97_2 ?_;refine⟨by kernel_rfl,?_⟩)|(refine uB18_97_10 ?_;refine⟨by kernel_rfl,?_⟩)|((first|refine grp_cons (fun _=>hval _) ?_|refine grp_cons (fun _=>gwithin_c _ _ _ _) ?_)<;>try first|omega|assumption)|(refine g_d ?_;refine d_args ?_;(first|refine d_fn (hval _) ?_|refine d_fn (gwithin_c _ _ _ _) ?_|refine d_fnQ (fun _=>hval _) ?_|refine d_fnQ (fun _=>gwithin_c _ _ _ _) ?_)<;>try first|omega|assumption)|(refine g_d ?_;(first|refine d_fnY (hval _) ?_|refine d_fnY (gwithin_c _ _ _ _) ?_)<;>try first|omega|assumption)|(refine g_d ?_;first|(refine d_dyn (gnear1_c vj byj yv lo hi' _ ynm hvb hby (by omega) hlo hhi _ ((lend m).length+6) ((lend m).length+7) ((lend m).length+3)) ?_<;>try first|omega|assumption)|(refine d_dynY (gnear1_c vj byj yv lo hi' _ ynm hvb hby (by omega) hlo hhi _ ((lend m).length+6) ((lend m).length+7) ((lend m).length+3)) ?_<;>try first|omega|assumption))))
      all_goals(try(exfalso;omega))
      all_goals(refine next_ hL (n+1) (by omega) (by omega) (by rw [hsu];exact tv_))
    · omega
  · obtain rfl:n=p+1:=by omega
    (have FX:=And.intro hln (And.intro hla (And.intro hlm (And.intro hlw (And.intro hlk (And.intro hga (And.intro hgm (And.intro hgn (And.intro hgw (And.intro hgr hgl)))))))));repeat'(first|(refine sx ?_ ?_<;>intro h<;>first|(exfalso;omega)|skip)|(refine g_op ?_;refine g_call ?_;refine g_args ?_;(first|refine s_fn (hval _) ?_|refine s_fn (gwithin_c _ _ _ _) ?_)<;>try first|omega|assumption)|(refine g_op ?_;refine g_dyn ?_;refine g_dargs ?_;first|(refine s_fn (gnear1_c vj byj yv lo hi' _ ynm hvb hby (by omega) hlo hhi _ ((lend m).length+6) ((lend m).length+7) ((lend m).length+3)) ?_<;>try first|omega|assumption))|refine ny ?_|refine WA_block ?_|(refine uB18_97_1 ?_;refine⟨by kernel_rfl,?_⟩)|(refine uB18_97_2 ?_;refine⟨by kernel_rfl,?_⟩)|(refine uB18_97_10 ?_;refine⟨by kernel_rfl,?_⟩)|((first|refine grp_cons (fun _=>hval _) ?_|refine grp_cons (fun _=>gwithin_c _ _ _ _) ?_)<;>try first|omega|assumption)|(refine g_d ?_;refine d_args ?_;(first|refine d_fn (hval _) ?_|refine d_fn (gwithin_c _ _ _ _) ?_|refine d_fnQ (fun _=>hval _) ?_|refine d_fnQ (fun _=>gwithin_c _ _ _ _) ?_)<;>try first|omega|assumption)|(refine g_d ?_;(first|refine d_fnY (hval _) ?_|refine d_fnY (gwithin_c _ _ _ _) ?_)<;>try first|omega|assumption)|(refine g_d ?_;first|(refine d_dyn (gnear1_c vj byj yv lo hi' _ ynm hvb hby (by omega) hlo hhi _ ((lend m).length+6) ((lend m).length+7) ((lend m).length+3)) ?_<;>try first|omega|assumption)|(refine d_dynY (gnear1_c vj byj yv lo hi' _ ynm hvb hby (by omega) hlo hhi _ ((lend m).length+6) ((lend m).length+7) ((lend m).length+3)) ?_<;>try first|omega|assumption))))
    all_goals(try(exfalso;omega))
    all_goals((refine r_es hQ ?_;try with_reducible rfl))
end Go.Proofs.YtookikhphobnlaaGreatDoor
