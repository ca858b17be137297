/- contract: the program writes a bench -/
import Derived.Test.YtookikhphobnlaaGreatDoorGAO
import Derived.Test.YtookikhphobnlaaGreatDoorGAH
set_option linter.unusedSimpArgs false
set_option linter.unusedVariables false
namespace Go.Proofs.YtookikhphobnlaaGreatDoor
open Go.RowKit
attribute [local irreducible] WA WOs WDs WAn qThen qBlock tput
set_option maxHeartbeats 1000000
set_option maxRecDepth 20000
set_option linter.unusedSimpArgs false
set_option linter.unusedVariables false
set_option maxHeartbeats 8000000
def bdV(L X:Mem)(s:Txt)(a v:V):Prop:=(a= .nilptr∨a= .ptr (L.length+1) 0 0)∧((v= .nilsl∧s=[])∨∃ j,v= .sl (L.length+1+(j+1)) s.length∧s≠[]∧X[j]?=some (.cells .own 5 1 (u8V s)))
theorem bdI_to{L X M:Mem}{bx:Blk}{s:Txt}(h:bdI (L++[bx]) X s M):∃ a v,M=L++(bx:: .cells .own 94 2 [[a,v]]::X)∧bdV L X s a v:=by
  obtain⟨a,v,rfl,ha,hv⟩:=h
  have e:(L++[bx]).length=L.length+1:=by simp
  rw [e] at ha hv
  exact⟨a,v,by simp,ha,hv⟩
theorem bdI_of{L X:Mem}{bx:Blk}{s:Txt}{a v:V}(h:bdV L X s a v):bdI (L++[bx]) X s (L++(bx:: .cells .own 94 2 [[a,v]]::X)):=by
  have e:(L++[bx]).length=L.length+1:=by simp
  refine⟨a,v,by simp,?_,?_⟩
  · rw [e];exact h.1
  · rw [e];exact h.2
theorem bdV_ext{L X:Mem}{s:Txt}{a v:V}(h:bdV L X s a v)(Y:Mem):bdV L (X++Y) s a v:=by
  obtain⟨h1,h2|⟨j,h2,h3,h4⟩⟩:=h
  · exact⟨h1,.inl h2⟩
  · exact⟨h1,.inr ⟨j,h2,h3,by rw [List.getElem?_append_left (List.getElem?_eq_some_iff.1 h4).1];exact h4⟩⟩
theorem CallA_argX{P:Program}{f:FuncId}{vs vs':List V}{m:Mem}{R:V→Option Mem→Prop}(hw:WkL vs vs')(h:CallA P f vs' m R):CallA P f vs m R:=by
  obtain⟨h1,h2⟩:=WkL_get hw
  refine⟨h.1,fun w ρ xs hM hA=>h.2 w ρ xs hM ⟨h1.trans hA.1,fun i c x e1 e2=>?_⟩⟩
  obtain⟨u,g1,g2⟩:=h2 i c e1
  exact g2 _ _ _ _ (hA.2 i u x g1 e2)
/-- what a call that writes leaves -/
def wrR(L X:Mem)(bx:Blk)(s:Txt)(mo:Option Mem):Prop:=∃ X' a v,mo=some (L++(bx:: .cells .own 94 2 [[a,v]]::X'))∧bdV L X' s a v∧kpX X X'
/-- a row of numbers of one's own, lent -/
theorem grow_sl(L X:Mem)(bx:Blk)(a v:V)(s t:Txt)(l:List Int)(h:bdV L X s a v)(n j k:Nat)(hn:n=L.length+1)(hj:j=L.length+(X.length+2))(hk:k=l.length)(ht:t≠[])(htl:t.length≤1000)(hs:s.length≤100000)(hll:l.length≤10)(hb:∀ x∈l,x.natAbs≤100000):
    CallA Tryz.prog 42 [.ptr n 0 0,.str t,.sl j k] (L++(bx:: .cells .own 94 2 [[a,v]]::(X++[.cells .own 3 1 (nsV l)]))) (fun u mo=>u= .tup []∧wrR L X bx (s++t++rowT l) mo):=by
  subst hn;subst hj;subst hk
  have hln:=nsV_length (l:=l)
  have hX:(bx::Blk.cells .own 94 2 [[a,v]]::(X++[.cells .own 3 1 (nsV l)]))[X.length+2]?=some (.cells .own 3 1 (nsV l)):=by simp
  have hS:(bx::Blk.cells .own 94 2 [[a,v]]::(X++[.cells .own 3 1 (nsV l)])).set (X.length+2) (.cells .ro 3 1 (nsV l))=bx:: .cells .own 94 2 [[a,v]]::(X++[.cells .ro 3 1 (nsV l)]):=by simp
  have hc:=grow_c (L++[bx]) (X++[.cells .ro 3 1 (nsV l)]) s t l _ (bdI_of (bdV_ext h _)) (L.length+1) (by simp) ht htl hs hll hb
  refine(CallA_fz1 (p:=2) hX rfl (by rw [hln];exact Nat.le_refl _) (R:=fun u mo=>u= .tup []∧wrR L X bx (s++t++rowT l) mo) ?_).mono ?_
  · rw [hS,List.take_of_length_le (by rw [hln];exact Nat.le_refl _)]
    refine hc.mono ?_
    rintro u mo ⟨rfl,M',X',rfl,h1,h2⟩
    obtain⟨a',v',rfl,h3⟩:=bdI_to h1
    exact⟨rfl,X',a',v',rfl,h3,(kpX.ext _ _).trans h2⟩
  · rintro u mo ⟨mo0,⟨rfl,X',a',v',rfl,h3⟩,rfl⟩
    exact⟨rfl,X',a',v',rfl,h3⟩
theorem grow_nil(L X:Mem)(bx:Blk)(a v:V)(s t:Txt)(h:bdV L X s a v)(n:Nat)(hn:n=L.length+1)(ht:t≠[])(htl:t.length≤1000)(hs:s.length≤100000):
    CallA Tryz.prog 42 [.ptr n 0 0,.str t,.nilsl] (L++(bx:: .cells .own 94 2 [[a,v]]::X)) (fun u mo=>u= .tup []∧wrR L X bx (s++t) mo):=by
  subst hn
  have hc:=grow_c (L++[bx]) X s t [] _ (bdI_of h) (L.length+1) (by simp) ht htl hs (by decide) (fun x hx=>by cases hx)
  refine CallA_argX (vs':=[.ptr (L.length+1) 0 0,.str t,.lst (nsV [])]) ⟨WkV.refl _,WkV.refl _,wk_nil,trivial⟩ (hc.mono ?_)
  rintro u mo ⟨rfl,M',X',rfl,h1,h2⟩
  obtain⟨a',v',rfl,h3⟩:=bdI_to h1
  rw [show rowT []=[] from rfl,List.append_nil] at h3
  exact⟨rfl,X',a',v',rfl,h3,h2⟩
theorem gnl_c(L X:Mem)(bx:Blk)(a v:V)(s:Txt)(h:bdV L X s a v)(n:Nat)(hn:n=L.length+1)(hs:s.length≤100000):
    CallA Tryz.prog 43 [.ptr n 0 0,.int .u8 10] (L++(bx:: .cells .own 94 2 [[a,v]]::X)) (fun u mo=>u= .nilif∧wrR L X bx (s++[10]) mo):=by
  subst hn
  refine(show CallA Tryz.prog 43 [.ptr (L.length+1) 0 0,.int .u8 10] _ _ from zwbyte_c (L++[bx]) X s 10 _ (bdI_of h) (L.length+1) (by simp) (by omega)).mono ?_
  rintro u mo ⟨rfl,M',X',rfl,h1,h2⟩
  obtain⟨a',v',rfl,h3⟩:=bdI_to h1
  exact⟨rfl,X',a',v',rfl,h3,h2⟩
theorem row3(a b c:Int):rowT [a,b,c]=[32]++Lib.itoa a++[32]++Lib.itoa b++[32]++Lib.itoa c:=by simp [rowT]
theorem row1(a:Int):rowT [a]=[32]++Lib.itoa a:=by simp [rowT]

theorem gprint_bad(b:BnR)(hb:Bl b)(h0:bnErr b≠0)(m:Mem):Gives Tryz.prog 17 [.agg [.lst (mssV b.ms),.lst (adsV b.ads)]] m (.tup [.str [],.int .i64 (bnErr b)]):=by
  have hcb:=fun m=>gcheckbench_c b hb m
  unfold bnV at hcb
  generalize bnErr b=c at *
  refine Gives_in Tryz.func17 rfl Tryz.ntmps17 Tryz.results17 (by kernel_rfl) (by simp) rfl fun Q hQ=>?_
  (have FX:=h0;repeat'(first|(refine sx ?_ ?_<;>intro h<;>first|(exfalso;omega)|skip)|(refine g_op ?_;refine g_call ?_;refine g_args ?_;(first|refine s_fn (hcb _) ?_)<;>try first|omega|assumption)|refine ny ?_|refine WA_block ?_))
  all_goals(try(exfalso;first|omega|contradiction))
  all_goals(refine r_es hQ ?_;try with_reducible rfl)
theorem gprint_ok (b:BnR) (hb:Bl b) (hw:BWr b) (h0:bnErr b=0) (m:Mem):Gives Tryz.prog 17 [.agg [.lst (mssV b.ms),.lst (adsV b.ads)]] m (.tup [.str (printB b),.int .i64 0]):=by
  have hcb:=fun m=>gcheckbench_c b hb m
  unfold bnV at hcb
  rw [h0] at hcb
  have hlm:=mssV_length (l:=b.ms)
  have hla:=adsV_length (l:=b.ads)
  have hfm:=hw.fm
  have hfa:=hw.fa
  suffices key:CallA Tryz.prog 17 [.agg [.lst (mssV b.ms),.lst (adsV b.ads)]] m (fun v mo=>mo=none∧WkV v (.tup [.str (printB b),.int .i64 0])) from Gives_ofX key fun v mo h=>h
  refine CallA_in Tryz.func17 rfl Tryz.ntmps17 Tryz.results17 (by kernel_rfl) (by simp) fun Q hQ=>?_
  rw [printB_eq] at hQ
  (have FX:=And.intro hlm hfm;repeat'(first|(refine sx ?_ ?_<;>intro h<;>first|(exfalso;omega)|skip)|(refine g_op ?_;refine g_call ?_;refine g_args ?_;(first|refine s_fn (hcb _) ?_)<;>try first|omega|assumption)|refine ny ?_|refine WA_block ?_))
  all_goals(try(exfalso;omega))
  clear FX
  refine WA_while (σ:=Nat×Mem) [1,5,20,21,22] (fun z=>[.ptr (lend m).length 0 0,.ptr ((lend m).length+1) 0 0,.lst (mssV b.ms),.int .i64 b.ms.length,.int .i64 z.1]) (fun z=>z.2) (fun z=>z.1≤b.ms.length∧∃ X a v,z.2=lend m++(.cells .own 28 2 [[.lst (mssV b.ms),.lst (adsV b.ads)]]:: .cells .own 94 2 [[a,v]]::X)∧bdV (lend m) X (prM (b.ms.take z.1)) a v) (fun z=>b.ms.length - z.1) (0,_) ⟨Nat.zero_le _,[],.nilptr,.nilsl,rfl,.inl rfl,.inl ⟨rfl,rfl⟩⟩ tv_ (by simp) ?_
  rintro⟨i,M'⟩ ⟨hi,X,a,v,rfl,hbd⟩ K hK
  dsimp only at hi hbd
  simp only [zipT]
  rw [show X=X++[] from(List.append_nil _).symm]
  rcases Nat.lt_or_ge i b.ms.length with hlt|hge
  · have hga:=mssV_get hlt
    have hmw:=hw.m (b.ms.getD i msz) (by rw [List.getD_eq_getElem?_getD,List.getElem?_eq_getElem hlt];exact List.getElem_mem _)
    have hsn:=prM_snoc (b.ms.take i) (b.ms.getD i msz)
    rw [←take_snX hlt] at hsn
    have hpl:=prM_take hw i
    have hpn:=prM_take hw (i+1)
    generalize b.ms.getD i msz=x at *
    obtain⟨nm,va,lo,hg⟩:=x
    have hv3:∀ y∈[va,lo,hg],y.natAbs≤100000:=by
      intro y hy
      simp only [List.mem_cons,List.not_mem_nil,or_false] at hy
      rcases hy with rfl|rfl|rfl
      · exact hmw.v
      · exact hmw.l
      · exact hmw.h
    have l0:nm.length≤12:=hmw.n.2.1
    have k1:([109,101,97,115,117,114,101,32]:Txt).length=8:=rfl
    unfold msV at hga
    dsimp only at hga hsn
    clear hmw
    have hs2:(prM (b.ms.take i)++109::101::97::115::117::114::101::32::(nm++rowT [va,lo,hg]))++[10]=prM (b.ms.take (i+1)):=by rw [hsn,row3];simp
    have hs3:(prM (b.ms.take i)++109::101::97::115::117::114::101::32::(nm++rowT [va,lo,hg])).length≤100000:=by
      have:(prM (b.ms.take (i+1))).length≤12000:=hpn
      rw [←hs2,List.length_append] at this
      omega
    clear hsn hpn
    (have FX:=And.intro hlm (And.intro hfm (And.intro hga (And.intro l0 (And.intro k1 (And.intro hi hlt)))));repeat'(first|(refine sx ?_ ?_<;>intro h<;>first|(exfalso;omega)|skip)|refine ny ?_|refine WA_block ?_))
    have hgr:=grow_sl (lend m) (X++[.cells .own 75 4 [[.str nm,.int .i64 va,.int .i64 lo,.int .i64 hg]]]) (.cells .own 28 2 [[.lst (mssV b.ms),.lst (adsV b.ads)]]) a v (prM (b.ms.take i)) ([109,101,97,115,117,114,101,32]++nm) [va,lo,hg] (bdV_ext hbd _) ((lend m).length+1) ((lend m).length+(X.length+3)) 3 rfl (by simp) rfl (by simp) (by simp only [List.length_append,k1];omega) (by omega) (by simp) hv3
    simp only [List.append_assoc,List.cons_append,List.nil_append] at hgr
    refine g_op ?_;refine g_call ?_;refine g_args ?_;refine s_fnA (hgr) ?_
    rintro u mo ⟨rfl,X1,a1,v1,rfl,hb1,hk1⟩
    simp only [Option.getD_some]
    rw [show X1=X1++[] from(List.append_nil _).symm]
    (have FX:=And.intro hlm (And.intro hfm (And.intro hga (And.intro l0 (And.intro k1 (And.intro hi hlt)))));repeat'(first|(refine sx ?_ ?_<;>intro h<;>first|(exfalso;omega)|skip)|refine ny ?_|refine WA_block ?_))
    refine g_op ?_;refine g_call ?_;refine g_args ?_;refine s_fnA (gnl_c (lend m) (X1++[]) (.cells .own 28 2 [[.lst (mssV b.ms),.lst (adsV b.ads)]]) a1 v1 _ (bdV_ext hb1 []) _ rfl hs3) ?_
    rintro u mo ⟨rfl,X2,a2,v2,rfl,hb2,hk2⟩
    simp only [Option.getD_some]
    rw [hs2] at hb2
    (have FX:=And.intro hlm (And.intro hfm (And.intro hga (And.intro l0 (And.intro k1 (And.intro hi hlt)))));repeat'(first|(refine sx ?_ ?_<;>intro h<;>first|(exfalso;omega)|skip)|refine ny ?_|refine WA_block ?_))
    exact next_ hK (i+1,_) ⟨hlt,X2,a2,v2,rfl,hb2⟩ (by dsimp only;omega)
  · obtain rfl:i=b.ms.length:=by omega
    rw [List.take_of_length_le (Nat.le_refl _)] at hbd
    clear hK
    have hpl:(prM b.ms).length≤12000:=by have:=prM_take hw b.ms.length;rwa [List.take_of_length_le (Nat.le_refl _)] at this
    generalize prM b.ms=s0 at *
    (have FX:=And.intro hlm (And.intro hla (And.intro hfm (And.intro hfa hpl)));repeat'(first|(refine sx ?_ ?_<;>intro h<;>first|(exfalso;omega)|skip)|refine ny ?_|refine WA_block ?_))
    all_goals(try(exfalso;omega))
    clear FX
    refine WA_while (σ:=Nat×Mem) [1,5,40,41,42] (fun z=>[.ptr (lend m).length 0 0,.ptr ((lend m).length+1) 0 0,.lst (adsV b.ads),.int .i64 b.ads.length,.int .i64 z.1]) (fun z=>z.2) (fun z=>z.1≤b.ads.length∧∃ X a v,z.2=lend m++(.cells .own 28 2 [[.lst (mssV b.ms),.lst (adsV b.ads)]]:: .cells .own 94 2 [[a,v]]::X)∧bdV (lend m) X (s0++prA (b.ads.take z.1)) a v) (fun z=>b.ads.length - z.1) (0,_) ⟨Nat.zero_le _,X++[],a,v,rfl,by have:=bdV_ext hbd [];simpa [prA] using this⟩ tv_ (by simp) ?_
    clear hbd
    rintro⟨i,M'⟩ ⟨hi,X,a,v,rfl,hbd⟩ K hK
    dsimp only at hi hbd
    simp only [zipT]
    rw [show X=X++[] from(List.append_nil _).symm]
    rcases Nat.lt_or_ge i b.ads.length with hlt|hge
    · have hga:=adsV_get hlt
      have haw:=hw.a (b.ads.getD i adz) (by rw [List.getD_eq_getElem?_getD,List.getElem?_eq_getElem hlt];exact List.getElem_mem _)
      have hsn:=prA_snoc (b.ads.take i) (b.ads.getD i adz)
      rw [←take_snX hlt] at hsn
      have hpa:=prA_take hw i
      generalize b.ads.getD i adz=x at *
      have hxe:=eff_take haw
      have hxa:=af_take haw
      have hxe1:=haw.e
      have hxa1:=haw.a
      have hxf:=haw.fe
      have hxg:=haw.fa
      obtain⟨nm,ef,le,mo,pa,af⟩:=x
      dsimp only at hxe hxa hxe1 hxa1 hxf hxg
      have hv3:∀ y∈[le,mo,pa],y.natAbs≤100000:=by
        intro y hy
        simp only [List.mem_cons,List.not_mem_nil,or_false] at hy
        have h1:=haw.l
        have h2:=haw.m
        have h3:=haw.p
        dsimp only at h1 h2 h3
        rcases hy with rfl|rfl|rfl
        · omega
        · omega
        · omega
      have l0:nm.length≤12:=haw.n.2.1
      have k1:([97,100,106,117,115,116,32]:Txt).length=7:=rfl
      unfold adV at hga
      dsimp only at hga hsn
      have hH:adH ⟨nm,ef,le,mo,pa,af⟩=97::100::106::117::115::116::32::(nm++rowT [le,mo,pa]):=by rw [row3];simp [adH]
      have hHl:(rowT [le,mo,pa]).length≤39:=rowT_len hv3
      clear haw
      rw [hH] at hsn
      have hs1:(s0++prA (b.ads.take i)).length≤24000:=by rw [List.length_append];omega
      have hsn2:s0++prA (b.ads.take (i+1))=s0++prA (b.ads.take i)++97::100::106::117::115::116::32::(nm++rowT [le,mo,pa])++effT ef++afT af++[10]:=by rw [hsn];simp
      have hul:(s0++prA (b.ads.take i)++97::100::106::117::115::116::32::(nm++rowT [le,mo,pa])).length≤25000:=by simp only [List.length_append,List.length_cons] at hs1 ⊢;omega
      clear hsn hpa hH
      generalize s0++prA (b.ads.take i)=s at *
      (have FX:=And.intro hla (And.intro hfa (And.intro hga (And.intro l0 (And.intro k1 (And.intro hi hlt)))));repeat'(first|(refine sx ?_ ?_<;>intro h<;>first|(exfalso;omega)|skip)|refine ny ?_|refine WA_block ?_))
      have hgr:=grow_sl (lend m) (X++[.cells .own 78 6 [[.str nm,.lst (efsV ef),.int .i64 le,.int .i64 mo,.int .i64 pa,.lst (tsV af)]]]) (.cells .own 28 2 [[.lst (mssV b.ms),.lst (adsV b.ads)]]) a v s ([97,100,106,117,115,116,32]++nm) [le,mo,pa] (bdV_ext hbd _) ((lend m).length+1) ((lend m).length+(X.length+3)) 3 rfl (by simp) rfl (by simp) (by simp only [List.length_append,k1];omega) (by omega) (by simp) hv3
      simp only [List.append_assoc,List.cons_append,List.nil_append] at hgr
      refine g_op ?_;refine g_call ?_;refine g_args ?_;refine s_fnA (hgr) ?_
      rintro u mo1 ⟨rfl,X1,a1,v1,rfl,hb1,hk1⟩
      simp only [Option.getD_some]
      clear hgr hbd
      have hx1:X1[X.length]?=some (.cells .own 78 6 [[.str nm,.lst (efsV ef),.int .i64 le,.int .i64 mo,.int .i64 pa,.lst (tsV af)]]):=hk1 X.length _ _ _ _ (by simp) (by decide)
      generalize X.length=p at *
      generalize hug:s++97::100::106::117::115::116::32::(nm++rowT [le,mo,pa])=u at *
      clear hk1 hs1
      have hgp:∀ Y:Mem,(X1++Y)[p]?=some (.cells .own 78 6 [[.str nm,.lst (efsV ef),.int .i64 le,.int .i64 mo,.int .i64 pa,.lst (tsV af)]]):=fun Y=>by rw [List.getElem?_append_left (List.getElem?_eq_some_iff.1 hx1).1];exact hx1
      rw [show X1=X1++[] from(List.append_nil _).symm]
      have hle:=efsV_length (l:=ef)
      clear FX
      (have FX:=And.intro hla (And.intro hfa (And.intro hgp (And.intro hle hxf)));repeat'(first|(refine sx ?_ ?_<;>intro h<;>first|(exfalso;omega)|skip)|refine ny ?_|refine WA_block ?_))
      clear FX hgp
      refine WA_while (σ:=Nat×Mem) [1,5,9,40,41,42,58,59,60] (fun z=>[.ptr (lend m).length 0 0,.ptr ((lend m).length+1) 0 0,.ptr ((lend m).length+(p+1+1)) 0 0,.lst (adsV b.ads),.int .i64 b.ads.length,.int .i64 i,.lst (efsV ef),.int .i64 ef.length,.int .i64 z.1]) (fun z=>z.2) (fun z=>z.1≤ef.length∧∃ X a v,z.2=lend m++(.cells .own 28 2 [[.lst (mssV b.ms),.lst (adsV b.ads)]]:: .cells .own 94 2 [[a,v]]::X)∧bdV (lend m) X (u++effT (ef.take z.1)) a v∧X[p]?=some (.cells .own 78 6 [[.str nm,.lst (efsV ef),.int .i64 le,.int .i64 mo,.int .i64 pa,.lst (tsV af)]])) (fun z=>ef.length - z.1) (0,_) ⟨Nat.zero_le _,X1++[],a1,v1,rfl,by have:=bdV_ext hb1 [];simpa [effT] using this,by rw [List.append_nil];exact hx1⟩ tv_ (by simp) ?_
      clear hx1 hb1
      rintro⟨k,M'⟩ ⟨hk,X,a,v,rfl,hbd,hx1⟩ K3 hK3
      dsimp only at hk hbd hx1
      simp only [zipT]
      rw [show X=X++[] from(List.append_nil _).symm]
      rcases Nat.lt_or_ge k ef.length with hkl|hkg
      · have hgk:=efsV_get hkl
        have hew:=hxe1 (ef.getD k efz) (by rw [List.getD_eq_getElem?_getD,List.getElem?_eq_getElem hkl];exact List.getElem_mem _)
        have hsk:=effT_snoc (ef.take k) (ef.getD k efz)
        rw [←take_snX hkl] at hsk
        have hxk:=hxe k
        generalize ef.getD k efz=e at *
        obtain⟨me,by_⟩:=e
        have l4:me.length≤12:=hew.1.2.1
        have k4:([32,111,110,32]:Txt).length=4:=rfl
        have hby:∀ y∈[by_],y.natAbs≤100000:=by
          intro y hy
          obtain rfl:=List.mem_singleton.1 hy
          have:=hew.2
          dsimp only at this
          omega
        unfold efV at hgk
        dsimp only at hgk hsk
        have hsk2:u++(effT (ef.take k)++32::111::110::32::(me++rowT [by_]))=u++effT (ef.take (k+1)):=by rw [hsk,row1];simp
        have hxk2:(u++effT (ef.take k)).length≤26000:=by rw [List.length_append];omega
        clear hew hsk
        (have FX:=And.intro hle (And.intro hgk (And.intro l4 (And.intro k4 (And.intro hk (And.intro hkl hxf)))));repeat'(first|(refine sx ?_ ?_<;>intro h<;>first|(exfalso;omega)|skip)|refine ny ?_|refine WA_block ?_))
        have hgr:=grow_sl (lend m) (X++[.cells .own 83 2 [[.str me,.int .i64 by_]]]) (.cells .own 28 2 [[.lst (mssV b.ms),.lst (adsV b.ads)]]) a v (u++effT (ef.take k)) ([32,111,110,32]++me) [by_] (bdV_ext hbd _) ((lend m).length+1) ((lend m).length+(X.length+3)) 1 rfl (by simp) rfl (by simp) (by simp only [List.length_append,k4];omega) (by omega) (by simp) hby
        simp only [List.append_assoc,List.cons_append,List.nil_append] at hgr
        rw [hsk2] at hgr
        refine g_op ?_;refine g_call ?_;refine g_args ?_;refine s_fnA (hgr) ?_
        rintro u2 mo2 ⟨rfl,X2,a2,v2,rfl,hb2,hk2⟩
        simp only [Option.getD_some]
        have hx2:=hk2 p _ _ _ _ (by rw [List.getElem?_append_left (List.getElem?_eq_some_iff.1 hx1).1];exact hx1) (by decide)
        (have FX:=And.intro hle (And.intro hgk (And.intro l4 (And.intro k4 (And.intro hk (And.intro hkl hxf)))));repeat'(first|(refine sx ?_ ?_<;>intro h<;>first|(exfalso;omega)|skip)|refine ny ?_|refine WA_block ?_))
        exact next_ hK3 (k+1,_) ⟨hkl,X2,a2,v2,rfl,hb2,hx2⟩ (by dsimp only;omega)
      · obtain rfl:k=ef.length:=by omega
        rw [List.take_of_length_le (Nat.le_refl _)] at hbd
        have hxk:=hxe ef.length
        rw [List.take_of_length_le (Nat.le_refl _)] at hxk
        clear hK3 hxe
        have hvl:(u++effT ef).length≤26000:=by rw [List.length_append];omega
        generalize u++effT ef=w at *
        have hgp:∀ Y:Mem,(X++Y)[p]?=some (.cells .own 78 6 [[.str nm,.lst (efsV ef),.int .i64 le,.int .i64 mo,.int .i64 pa,.lst (tsV af)]]):=fun Y=>by rw [List.getElem?_append_left (List.getElem?_eq_some_iff.1 hx1).1];exact hx1
        have hlf:=tsV_length (l:=af)
        (have FX:=And.intro hle (And.intro hlf (And.intro hgp (And.intro hxf hxg)));repeat'(first|(refine sx ?_ ?_<;>intro h<;>first|(exfalso;omega)|skip)|refine ny ?_|refine WA_block ?_))
        all_goals(try(exfalso;omega))
        clear FX hgp
        refine WA_while (σ:=Nat×Mem) [1,5,40,41,42,73,74,75] (fun z=>[.ptr (lend m).length 0 0,.ptr ((lend m).length+1) 0 0,.lst (adsV b.ads),.int .i64 b.ads.length,.int .i64 i,.lst (tsV af),.int .i64 af.length,.int .i64 z.1]) (fun z=>z.2) (fun z=>z.1≤af.length∧∃ X a v,z.2=lend m++(.cells .own 28 2 [[.lst (mssV b.ms),.lst (adsV b.ads)]]:: .cells .own 94 2 [[a,v]]::X)∧bdV (lend m) X (w++afT (af.take z.1)) a v) (fun z=>af.length - z.1) (0,_) ⟨Nat.zero_le _,X++[],a,v,rfl,by have:=bdV_ext hbd [];simpa [afT] using this⟩ tv_ (by simp) ?_
        clear hbd hx1
        rintro⟨q,M'⟩ ⟨hq,X,a,v,rfl,hbd⟩ K4 hK4
        dsimp only at hq hbd
        simp only [zipT]
        rw [show X=X++[] from(List.append_nil _).symm]
        rcases Nat.lt_or_ge q af.length with hql|hqg
        · have hgq:=tsV_get hql
          have hew:=(hxa1 (af.getD q []) (by rw [List.getD_eq_getElem?_getD,List.getElem?_eq_getElem hql];exact List.getElem_mem _)).2.1
          have hsk:=afT_snoc (af.take q) (af.getD q [])
          rw [←take_snX hql] at hsk
          have hxq:=hxa q
          generalize af.getD q []=tt at *
          have k5:([32,97,102,116,101,114,32]:Txt).length=7:=rfl
          have hsk2:w++(afT (af.take q)++32::97::102::116::101::114::32::tt)=w++afT (af.take (q+1)):=by rw [hsk];simp
          have hxq2:(w++afT (af.take q)).length≤27000:=by rw [List.length_append];omega
          clear hsk
          (have FX:=And.intro hlf (And.intro hgq (And.intro hew (And.intro k5 (And.intro hq (And.intro hql hxg)))));repeat'(first|(refine sx ?_ ?_<;>intro h<;>first|(exfalso;omega)|skip)|refine ny ?_|refine WA_block ?_))
          have hgr:=grow_nil (lend m) (X++[]) (.cells .own 28 2 [[.lst (mssV b.ms),.lst (adsV b.ads)]]) a v (w++afT (af.take q)) ([32,97,102,116,101,114,32]++tt) (bdV_ext hbd _) ((lend m).length+1) rfl (by simp) (by simp only [List.length_append,k5];omega) (by omega)
          simp only [List.append_assoc,List.cons_append,List.nil_append] at hgr
          rw [hsk2] at hgr
          refine g_op ?_;refine g_call ?_;refine g_args ?_;refine s_fnA (hgr) ?_
          rintro u2 mo2 ⟨rfl,X2,a2,v2,rfl,hb2,hk2⟩
          simp only [Option.getD_some]
          (have FX:=And.intro hlf (And.intro hgq (And.intro hew (And.intro k5 (And.intro hq (And.intro hql hxg)))));repeat'(first|(refine sx ?_ ?_<;>intro h<;>first|(exfalso;omega)|skip)|refine ny ?_|refine WA_block ?_))
          exact next_ hK4 (q+1,_) ⟨hql,X2,a2,v2,rfl,hb2⟩ (by dsimp only;omega)
        · obtain rfl:q=af.length:=by omega
          rw [List.take_of_length_le (Nat.le_refl _)] at hbd
          have hxq:=hxa af.length
          rw [List.take_of_length_le (Nat.le_refl _)] at hxq
          clear hK4 hxa
          have hwl:(w++afT af).length≤27000:=by rw [List.length_append];omega
          (have FX:=And.intro hlf (And.intro hxg (And.intro hfa hlt));repeat'(first|(refine sx ?_ ?_<;>intro h<;>first|(exfalso;omega)|skip)|refine ny ?_|refine WA_block ?_))
          all_goals(try(exfalso;omega))
          refine g_op ?_;refine g_call ?_;refine g_args ?_;refine s_fnA (gnl_c (lend m) (X++[]) (.cells .own 28 2 [[.lst (mssV b.ms),.lst (adsV b.ads)]]) a v _ (bdV_ext hbd []) _ rfl (by omega)) ?_
          rintro u2 mo2 ⟨rfl,X2,a2,v2,rfl,hb2,hk2⟩
          simp only [Option.getD_some]
          rw [←hsn2] at hb2
          (have FX:=And.intro hlf (And.intro hxg (And.intro hfa hlt));repeat'(first|(refine sx ?_ ?_<;>intro h<;>first|(exfalso;omega)|skip)|refine ny ?_|refine WA_block ?_))
          exact next_ hK (i+1,_) ⟨hlt,X2,a2,v2,rfl,hb2⟩ (by dsimp only;omega)
    · obtain rfl:i=b.ads.length:=by omega
      rw [List.take_of_length_le (Nat.le_refl _)] at hbd
      clear hK
      (have FX:=And.intro hla hfa;repeat'(first|(refine sx ?_ ?_<;>intro h<;>first|(exfalso;omega)|skip)|refine ny ?_|refine WA_block ?_))
      all_goals(try(exfalso;omega))
      refine g_op ?_;refine g_call ?_;refine g_args ?_;refine s_fnA (zstring_c (lend m++[(.cells .own 28 2 [[.lst (mssV b.ms),.lst (adsV b.ads)]])]) (X++[]) (s0++prA b.ads) _ (bdI_of (bdV_ext hbd [])) _ (by simp)) ?_
      rintro u2 mo2 ⟨rfl,M2,rfl⟩
      simp only [Option.getD_some]
      (have FX:=And.intro hla hfa;repeat'(first|(refine sx ?_ ?_<;>intro h<;>first|(exfalso;omega)|skip)|refine ny ?_|refine WA_block ?_))
      exact r_esA hQ (v':= .tup [.str (s0++prA b.ads),.int .i64 0]) (.inl ⟨rfl,rfl,WkV.refl _⟩)
end Go.Proofs.YtookikhphobnlaaGreatDoor
