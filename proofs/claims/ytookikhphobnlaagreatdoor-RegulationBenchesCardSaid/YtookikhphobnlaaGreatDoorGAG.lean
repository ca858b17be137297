import Derived.Test.YtookikhphobnlaaGreatDoorB4
set_option linter.unusedSimpArgs false
set_option linter.unusedVariables false
/- contracts: the checks of measures and of effects -/
namespace Go.Proofs.YtookikhphobnlaaGreatDoor
open Go.RowKit
attribute [local irreducible] WA WOs WDs WAn qThen qBlock tput
set_option maxHeartbeats 1000000
set_option maxRecDepth 20000
set_option linter.unusedSimpArgs false
set_option linter.unusedVariables false
theorem small_1(most a:Int):decide (smallP most [a])=decide (-most≤a∧a≤most):=by
  refine decide_eq_decide.2 ⟨fun h=>h 0 (by simp),fun h i hi=>?_⟩
  obtain rfl:i=0:=by simp at hi;omega
  exact h
theorem small_3(most a b c:Int):decide (smallP most [a,b,c])=decide ((-most≤a∧a≤most)∧(-most≤b∧b≤most)∧(-most≤c∧c≤most)):=by
  refine decide_eq_decide.2 ⟨fun h=>⟨h 0 (by simp),h 1 (by simp),h 2 (by simp)⟩,fun h i hi=>?_⟩
  rcases i with _|_|_|i
  · exact h.1
  · exact h.2.1
  · exact h.2.2
  · simp at hi;omega
theorem gsmall_1(most:Int)(hb: -1000000000≤most∧most≤1000000000)(a:Int)(m:Mem)(k:Nat){st:Sta}(hk:m[k]?=some (.cells st 3 1 [[.int .i64 a]]):=by first|exact ev_|fail):Gives Tryz.prog 84 [.int .i64 most,.sl k 1] m (.bool (decide (-most≤a∧a≤most))):=by
  rw [←small_1];exact gsmall_s most hb [a] (by simp) m k st hk 1 rfl
theorem gsmall_3(most:Int)(hb: -1000000000≤most∧most≤1000000000)(a b c:Int)(m:Mem)(k:Nat){st:Sta}(hk:m[k]?=some (.cells st 3 1 [[.int .i64 a],[.int .i64 b],[.int .i64 c]]):=by first|exact ev_|fail):Gives Tryz.prog 84 [.int .i64 most,.sl k 3] m (.bool (decide ((-most≤a∧a≤most)∧(-most≤b∧b≤most)∧(-most≤c∧c≤most)))):=by
  rw [←small_3];exact gsmall_s most hb [a,b,c] (by simp) m k st hk 3 rfl
section
variable {P:Program} {N:Nat} {t:List (Nat×V)} {m m':Mem} {Q:List (Nat×V)→Mem→Prop} {ops:Array Oper} {rest:List Oper} {k:Option Nat} {ty:TypeId} {pos:String} {af:Array Edge}
theorem s_mk{T k0:Nat}(h:WOs P N ops rest (tput t k (.mp k0)) m' Q)(hd:dOkB N k=true:=by first|exact rfl|fail)(hk:m.length=k0:=by first|(simp only [ml,List.length_cons,List.length_nil,Nat.add_assoc,Nat.reduceAdd,Nat.zero_add,Nat.add_zero]<;>with_reducible exact rfl)|fail)(hm:m++[MapB []]=m':=by first|exact ev_|fail):WOs P N ops (⟨k,.makeMap T none,ty,pos,af,none⟩::rest) t m Q:=by
  subst hk;subst hm;exact s_mkmap h hd
theorem d_upd{kd:Nat→Kd}{is:List El}{LL:Lim}{i:Nat}{T:TypeId}{x y u:Operand}{b:Nat}{s:List UInt8}{l l':Mp}{KT E:TypeId}{v:V}(hput:mput l s v=l')(h:WDs P N ops kd LL is (tput t k .any) m' Q)(hT:P.underlying T=some (.map KT E))(hK:P.underlying KT=some .string)
    (hi:ops[i]?=some ⟨k,.mapUpdate T x y u,ty,pos,af,none⟩:=by first|exact rfl|fail) (hw:kd i= .w:=by first|exact rfl|fail) (hx:evO t x= .mp b:=by first|exact lk_|fail) (hb:m[b]?=some (MapB l):=by first|exact ev_|fail) (hd:dOkB N k=true:=by first|exact rfl|fail)
    (hk:evO t y= .str s:=by first|exact lk_|fail) (hu:evO t u=v:=by first|exact lk_|fail) (hvo:mvOk v=true:=by first|exact rfl|fail) (hm:m.set b (MapB l')=m':=by first|exact ev_|fail):DG P N ops kd LL i is t m Q:=by
  subst hput;subst hm
  refine WDs_one hi rfl ⟨dOk_b hd,?_⟩
  show kd i= .w∧XOp P t m _ _
  exact⟨hw,x_upd hx hk hu hvo hb hT hK h (.inl rfl)⟩
end
def mNames(l:List MsR):List Txt:=l.map MsR.name
theorem fdx_names(s:Txt)(l:List MsR):fdx (isT s) (mNames l)=fdx (isM s) l:=by unfold mNames;rw [fdx_map];rfl
theorem mNames_succ{l:List MsR}{i:Nat}(h:i<l.length):mNames (l.take (i+1))=mNames (l.take i)++[(l.getD i msz).name]:=by
  rw [List.take_succ_eq_append_getElem h]
  unfold mNames
  rw [List.map_append]
  have:l.getD i msz=l[i]:=by rw [List.getD_eq_getElem?_getD,List.getElem?_eq_getElem h];rfl
  rw [this];rfl
theorem mNames_len(l:List MsR):(mNames l).length=l.length:=by simp [mNames]
theorem msErr_zero {b:List MsR} {x:MsR} (h:msErr b x=0):nameP x.name∧¬ 0≤fdx (isM x.name) b∧(-100000≤x.val∧x.val≤100000)∧(-100000≤x.low∧x.low≤100000)∧(-100000≤x.high∧x.high≤100000)∧x.low≤x.high:=by
  unfold msErr at h
  split at h
  · simp at h
  · split at h
    · simp at h
    · split at h
      · simp at h
      · split at h
        · simp at h
        · rename_i h1 h2 h3 h4
          exact⟨Classical.not_not.1 h1,h2,by omega,by omega,by omega,by omega⟩

theorem gcheckms_ok(l:List MsR)(hz:mssErr l=0)(hn:∀ i,i<l.length→(l.getD i msz).name.length≤1000)(m:Mem):CallA Tryz.prog 47 [.lst (mssV l)] m (fun v mo=>v= .tup [.mp m.length,.int .i64 0]∧mo=some (m++[MapB (nmM (mNames l))])):=by
  have hln:=mssV_length (l:=l)
  have hga:=hln
  have hl12:l.length≤12:=by
    unfold mssErr at hz
    split at hz
    · simp at hz
    · omega
  have hall:∀ i,i<l.length→msErrAt l i=0:=by
    unfold mssErr at hz
    rw [if_neg (by omega)] at hz
    exact fE_zero.1 hz
  have hadd:=hga
  refine CallA_inO Tryz.func47 rfl Tryz.ntmps47 Tryz.results47 (by kernel_rfl) (by simp) fun Q hQ=>?_
  (have FX:=And.intro hln hga;repeat'(first|(refine sx ?_ ?_<;>intro h<;>first|(exfalso;omega)|skip)|(refine g_op ?_;refine g_call ?_;refine g_args ?_;(first|refine s_fn (gsmall_3 100000 (by decide) _ _ _ _ _) ?_|refine s_fnW (hadd _) ?_)<;>try first|omega|assumption)|refine ny ?_|refine WA_block ?_))
  all_goals(try(exfalso;omega))
  refine s_mk ?_
  (have FX:=And.intro hln hga;repeat'(first|(refine sx ?_ ?_<;>intro h<;>first|(exfalso;omega)|skip)|(refine g_op ?_;refine g_call ?_;refine g_args ?_;(first|refine s_fn (gsmall_3 100000 (by decide) _ _ _ _ _) ?_|refine s_fnW (hadd _) ?_)<;>try first|omega|assumption)|refine ny ?_|refine WA_block ?_))
  refine WA_whileK (σ:=Nat) [4,12,13,14] (fun i=>[.mp ((lend m).length),.lst (mssV l),.int .i64 l.length,.int .i64 i]) (fun i=>[MapB (nmM (mNames (l.take i)))]) 1 (fun i=>i≤l.length) (fun i=>l.length - i) 0 (Nat.zero_le _) tv_ rfl (fun _=>rfl) (by intro s s' _ _;simp [conB,conS,V.keeps,V.plain,Blk.flat,flatL,plainL,V.flat]) (by intro s s' _ _;simp [conB,MapB,Blk.flat]) ?_
  rintro i hi1 K hK
  simp only [zipT]
  clear FX hga hadd
  rcases Nat.lt_or_ge i l.length with hi|hi
  · have hga:=mssV_get hi
    obtain⟨z1,z2,z3,z4,z5,z6⟩:=msErr_zero (hall i hi)
    have hnx:=mNames_succ hi
    have hadd:=fun b=>gadd_w (mNames (l.take i)) (l.getD i msz).name (hn i hi) (by rw [mNames_len,List.length_take];omega) b
    have hae:addE (mNames (l.take i)) (l.getD i msz).name=0:=by
      unfold addE
      rw [if_neg (by simpa using z1),fdx_names,if_neg z2]
    rw [hae,if_pos rfl,←hnx] at hadd
    generalize l.getD i msz=x at *
    obtain⟨nm,va,lo,hg⟩:=x
    unfold msV at hga
    dsimp only at z3 z4 z5 z6 hga hadd
    (have FX:=And.intro hln hga;repeat'(first|(refine sx ?_ ?_<;>intro h<;>first|(exfalso;omega)|skip)|(refine g_op ?_;refine g_call ?_;refine g_args ?_;(first|refine s_fn (gsmall_3 100000 (by decide) _ _ _ _ _) ?_|refine s_fnW (hadd _) ?_)<;>try first|omega|assumption)|refine ny ?_|refine WA_block ?_))
    all_goals(try(exfalso;omega))
    all_goals(refine nextL_ hK (i+1) hi (by omega))
  · obtain rfl:i=l.length:=by omega
    have hga:=hln
    have hadd:=hln
    rw [List.take_of_length_le (Nat.le_refl _)]
    (have FX:=And.intro hln hga;repeat'(first|(refine sx ?_ ?_<;>intro h<;>first|(exfalso;omega)|skip)|(refine g_op ?_;refine g_call ?_;refine g_args ?_;(first|refine s_fn (gsmall_3 100000 (by decide) _ _ _ _ _) ?_|refine s_fnW (hadd _) ?_)<;>try first|omega|assumption)|refine ny ?_|refine WA_block ?_))
    all_goals(try(exfalso;omega))
    all_goals(refine hQ _ _ _ (by first|exact .inl rfl|exact .inr rfl) _ rv_ ⟨_,rfl,by rw [lend_len],rfl⟩)
theorem gcheckms_bad (l:List MsR) (hz:mssErr l≠0) (hn:∀ i,i<l.length→(l.getD i msz).name.length≤1000) (m:Mem):Gives Tryz.prog 47 [.lst (mssV l)] m (.tup [.nilmap,.int .i64 (mssErr l)]):=by
  have hln:=mssV_length (l:=l)
  have hga:=hln
  have hadd:=hga
  refine Gives_in Tryz.func47 rfl Tryz.ntmps47 Tryz.results47 (by kernel_rfl) (by simp) rfl fun Q hQ=>?_
  unfold mssErr at *
  (have FX:=And.intro hln hga;repeat'(first|(refine sx ?_ ?_<;>intro h<;>first|(exfalso;omega)|skip)|(refine g_op ?_;refine g_call ?_;refine g_args ?_;(first|refine s_fn (gsmall_3 100000 (by decide) _ _ _ _ _) ?_|refine s_fnW (hadd _) ?_)<;>try first|omega|assumption)|refine ny ?_|refine WA_block ?_))
  all_goals(try(exfalso;omega))
  all_goals try
    (refine r_es hQ ?_
     rw [if_pos (by omega)]
     done)
  have hl12:l.length≤12:=by omega
  rw [if_neg (by omega)] at hz hQ
  refine s_mk ?_
  (have FX:=And.intro hln hga;repeat'(first|(refine sx ?_ ?_<;>intro h<;>first|(exfalso;omega)|skip)|(refine g_op ?_;refine g_call ?_;refine g_args ?_;(first|refine s_fn (gsmall_3 100000 (by decide) _ _ _ _ _) ?_|refine s_fnW (hadd _) ?_)<;>try first|omega|assumption)|refine ny ?_|refine WA_block ?_))
  refine WA_whileK (σ:=Nat) [4,12,13,14] (fun i=>[.mp ((lend m).length),.lst (mssV l),.int .i64 l.length,.int .i64 i]) (fun i=>[MapB (nmM (mNames (l.take i)))]) 1 (fun i=>i≤l.length∧∀ j,j<i→msErrAt l j=0) (fun i=>l.length - i) 0 ⟨Nat.zero_le _,fun j h=>absurd h (Nat.not_lt_zero _)⟩ tv_ rfl (fun _=>rfl) (by intro s s' _ _;simp [conB,conS,V.keeps,V.plain,Blk.flat,flatL,plainL,V.flat]) (by intro s s' _ _;simp [conB,MapB,Blk.flat]) ?_
  rintro i ⟨hi1,hi2⟩ K hK
  simp only [zipT]
  clear FX hga hadd
  rcases Nat.lt_or_ge i l.length with hi|hi
  · have hga:=mssV_get hi
    have hat:msErrAt l i=msErr (l.take i) (l.getD i msz):=rfl
    have hnx:=mNames_succ hi
    have hadd:=fun b=>gadd_w (mNames (l.take i)) (l.getD i msz).name (hn i hi) (by rw [mNames_len,List.length_take];omega) b
    have hae:addE (mNames (l.take i)) (l.getD i msz).name=if ¬ nameP (l.getD i msz).name then 4 else if 0≤fdx (isM (l.getD i msz).name) (l.take i) then 5 else 0:=by
      unfold addE
      rw [fdx_names]
    unfold msErr at hat
    generalize l.getD i msz=x at *
    obtain⟨nm,va,lo,hg⟩:=x
    unfold msV at hga
    dsimp only at hga hadd hat hae hnx
    by_cases h1:nameP nm∧¬ 0≤fdx (isM nm) (l.take i)
    · rw [if_neg (by simpa using h1.1),if_neg h1.2] at hat hae
      rw [hae,if_pos rfl,←hnx] at hadd
      (have FX:=And.intro hln hga;repeat'(first|(refine sx ?_ ?_<;>intro h<;>first|(exfalso;omega)|skip)|(refine g_op ?_;refine g_call ?_;refine g_args ?_;(first|refine s_fn (gsmall_3 100000 (by decide) _ _ _ _ _) ?_|refine s_fnW (hadd _) ?_)<;>try first|omega|assumption)|refine ny ?_|refine WA_block ?_))
      all_goals(try(exfalso;omega))
      all_goals try
        (refine r_es hQ ?_
         have he:=fE_is hi hi2 (hat.trans (show _=(2:Int) by rw [if_pos (by omega)])) (by decide)
         rw [he]
         done)
      all_goals try
        (refine r_es hQ ?_
         have he:=fE_is hi hi2 (hat.trans (show _=(9:Int) by rw [if_neg (by omega),if_pos (by omega)])) (by decide)
         rw [he]
         done)
      all_goals(refine nextL_ hK (i+1) ⟨hi,up_zero hi2 (hat.trans (by rw [if_neg (by omega),if_neg (by omega)]))⟩ (by omega))
    · have he:∃ e:Int,e≠0∧msErrAt l i=e∧addE (mNames (l.take i)) nm=e:=by
        by_cases h2:nameP nm
        · rw [if_neg (by simpa using h2),if_pos (Classical.not_not.1 fun h=>h1 ⟨h2,h⟩)] at hat hae
          exact⟨5,by decide,hat,hae⟩
        · rw [if_pos h2] at hat hae
          exact⟨4,by decide,hat,hae⟩
      obtain⟨e,e0,e1,e2⟩:=he
      rw [e2,if_neg e0] at hadd
      rw [fE_is hi hi2 e1 e0] at hQ
      clear hat hae
      (have FX:=And.intro hln hga;repeat'(first|(refine sx ?_ ?_<;>intro h<;>first|(exfalso;omega)|skip)|(refine g_op ?_;refine g_call ?_;refine g_args ?_;(first|refine s_fn (gsmall_3 100000 (by decide) _ _ _ _ _) ?_|refine s_fnW (hadd _) ?_)<;>try first|omega|assumption)|refine ny ?_|refine WA_block ?_))
      all_goals(try(exfalso;omega))
      all_goals(refine r_es hQ ?_;try with_reducible rfl)
  · obtain rfl:i=l.length:=by omega
    exact absurd (fE_zero.2 hi2) hz
end Go.Proofs.YtookikhphobnlaaGreatDoor
namespace Go.Proofs.YtookikhphobnlaaGreatDoor
open Go.RowKit
attribute [local irreducible] WA WOs WDs WAn qThen qBlock tput
set_option maxHeartbeats 1000000
set_option maxRecDepth 20000
set_option linter.unusedSimpArgs false
set_option linter.unusedVariables false

theorem gce1_c(y x:EfR)(M:Mem)(k:Nat)(st:Sta)(hk:M[k]?=some (.cells st 83 2 [[.str x.meas,.int .i64 x.by_]])):Gives Tryz.prog 87 [.agg (efV y),.ptr k 0 0] M (.bool (isF x.meas y)):=by
  have hk:=lend_get2 hk
  unfold efV isF
  refine Gives_in Tryz.func87 rfl Tryz.ntmps87 Tryz.results87 (by kernel_rfl) (by simp) rfl fun Q hQ=>?_
  (have FX:=hk;repeat'(first|(refine sx ?_ ?_<;>intro h<;>first|(exfalso;omega)|skip)|refine ny ?_|refine WA_block ?_))
  all_goals((refine r_es hQ ?_;try with_reducible rfl))
  all_goals(exact congrArg V.bool (by first|rfl|(rw [decide_eq_true (by assumption)];rfl)|(rw [decide_eq_false (by assumption)];rfl)|exact(decide_eq_true (by assumption)).symm|exact(decide_eq_false (by assumption)).symm|exact(decide_eq_true (by omega)).symm|exact(decide_eq_false (by omega)).symm))
theorem mget_nm_m{l:List MsR}{s:Txt}:(mget (nmM (mNames l)) s).isSome=decide (0≤fdx (isM s) l):=by rw [mget_nm,fdx_names]

theorem gcheckeffects_c (mm:List MsR) (l:List EfR) (M:Mem) (k:Nat) (st:Sta) (hk:M[k]?=some (.obj st [] (mapφ (nmM (mNames mm))))):Gives Tryz.prog 49 [.lst (efsV l),.mp k] M (.int .i64 (efErr mm l)):=by
  have hln:=efsV_length (l:=l)
  have hga:=hln
  have hti:=hln
  have hsl:=hln
  have hal:=hln
  have hko:=lend_obj2 hk
  unfold efErr
  refine Gives_in Tryz.func49 rfl Tryz.ntmps49 Tryz.results49 (by kernel_rfl) (by simp) rfl fun Q hQ=>?_
  (have FX:=And.intro hln (And.intro hga (And.intro hti (And.intro hsl hal)));repeat'(first|(refine sx ?_ ?_<;>intro h<;>first|(exfalso;omega)|skip)|(refine g_op ?_;refine g_call ?_;refine g_args ?_;(first|refine s_fn (hcf _ ?_) ?_|refine s_fn (gsmall_1 1000 (by decide) _ _ _) ?_)<;>try first|omega|assumption)|refine ny ?_|refine WA_block ?_))
  all_goals(try(exfalso;omega))
  all_goals try
    ((refine r_es hQ ?_;try with_reducible rfl)
     refine congrArg (V.int .i64) ?_
     rw [if_pos (by omega)]
     done)
  have hl12:l.length≤12:=by omega
  rw [if_neg (by omega)] at hQ
  refine WA_whileK (σ:=Nat) (L:=M) [0,1,12,13,14] (fun i=>[.lst (efsV l),.mp k,.lst (efsV l),.int .i64 l.length,.int .i64 i]) (fun _=>[]) 0 (fun i=>i≤l.length∧∀ j,j<i→efErrAt mm l j=0) (fun i=>l.length - i) 0 ⟨Nat.zero_le _,fun j h=>absurd h (Nat.not_lt_zero _)⟩ tv_ rfl (fun _=>rfl) (by intro s s' _ _;simp [conB,conS,V.keeps,V.plain,Blk.flat,flatL,plainL,V.flat]) (by intro s s' _ _;simp [conB,conS,V.keeps,V.plain,Blk.flat,flatL,plainL,V.flat]) ?_
  rintro i ⟨hi1,hi2⟩ K hK
  simp only [zipT]
  clear FX hga hti hsl hal
  rcases Nat.lt_or_ge i l.length with hi|hi
  · have hga:=efsV_get hi
    have hti:((i:Int) - ((0:Nat):Int)).toNat=i:=by omega
    have hsl:=efsV_take l i
    have hal:=fun n h=>efsV_all (l:=l) (n:=n) h
    have hat:efErrAt mm l i=if fdx (isM (l.getD i efz).meas) mm<0 then 6 else if 0≤fdx (isF (l.getD i efz).meas) (l.take i) then 5 else
      if ¬ (-1000≤(l.getD i efz).by_∧(l.getD i efz).by_≤1000) then 2 else if (l.getD i efz).by_=0 then 11 else 0:=rfl
    have hlt:(l.take i).length≤100000:=by rw [List.length_take];omega
    have hmg:=mget_nm_m (l:=mm) (s:=(l.getD i efz).meas)
    generalize l.getD i efz=x at *
    obtain⟨nm,by_⟩:=x
    unfold efV at hga
    dsimp only at hga hat hmg
    have hcf:=fun(m:Mem) (k:Nat) (h:∃ st,m[k]?=some (.cells st 83 2 [[.str nm,.int .i64 by_]]))=>cf_efs (l.take i) (isF nm) 87 [.ptr k 0 0] m hlt (fun i hi M hM=>h.elim fun st h=>(hM.at h).elim fun st h=>gce1_c _ ⟨nm,by_⟩ M k st h)
    (have FX:=And.intro hln (And.intro hga (And.intro hti (And.intro hsl hal)));repeat'(first|(refine sx ?_ ?_<;>intro h<;>first|(exfalso;omega)|skip)|(refine g_op ?_;refine g_call ?_;refine g_args ?_;(first|refine s_fn (hcf _ ?_) ?_|refine s_fn (gsmall_1 1000 (by decide) _ _ _) ?_)<;>try first|omega|assumption)|refine ny ?_|refine WA_block ?_))
    all_goals(try(exfalso;omega))
    refine s_look (KT:=9) (E:=3) (z:= .int .i64 0) (hko _) ?_ rfl lk_ lk_ (by kernel_rfl) (by kernel_rfl) (by kernel_rfl) rfl
    by_cases h1:0≤fdx (isM nm) mm
    · rw [decide_eq_true h1] at hmg
      obtain⟨u,hu⟩:=Option.isSome_iff_exists.1 hmg
      rw [hu]
      simp only [lookV,if_true,Option.getD_some,Option.isSome_some]
      rw [if_neg (by omega)] at hat
      (have FX:=And.intro hln (And.intro hga (And.intro hti (And.intro hsl hal)));repeat'(first|(refine sx ?_ ?_<;>intro h<;>first|(exfalso;omega)|skip)|(refine g_op ?_;refine g_call ?_;refine g_args ?_;(first|refine s_fn (hcf _ _ ?_) ?_|refine s_fn (gsmall_1 1000 (by decide) _ _ _) ?_)<;>try first|omega|assumption)|refine ny ?_|refine WA_block ?_))
      all_goals(try(exfalso;omega))
      all_goals try(exact⟨_,ev_⟩)
      all_goals try
        ((refine r_es hQ ?_;try with_reducible rfl)
         refine congrArg (V.int .i64) (fE_is hi hi2 (hat.trans ?_) (by decide)).symm
         first|(rw [if_pos (by omega)];done)|(rw [if_neg (by omega),if_pos (by omega)];done)|(rw [if_neg (by omega),if_neg (by omega),if_pos (by omega)];done))
      all_goals(refine nextL_ hK (i+1) ⟨by omega,up_zero hi2 (hat.trans (by rw [if_neg (by omega),if_neg (by omega),if_neg (by omega)]))⟩ (by omega))
    · rw [decide_eq_false h1] at hmg
      have hu:mget (nmM (mNames mm)) nm=none:=by simpa using hmg
      rw [hu]
      simp only [lookV,if_true,Option.getD_none,Option.isSome_none]
      rw [if_pos (by omega)] at hat
      (have FX:=And.intro hln (And.intro hga (And.intro hti (And.intro hsl hal)));repeat'(first|(refine sx ?_ ?_<;>intro h<;>first|(exfalso;omega)|skip)|(refine g_op ?_;refine g_call ?_;refine g_args ?_;(first|refine s_fn (hcf _ _ ?_) ?_|refine s_fn (gsmall_1 1000 (by decide) _ _ _) ?_)<;>try first|omega|assumption)|refine ny ?_|refine WA_block ?_))
      all_goals(try(exfalso;omega))
      all_goals
        ((refine r_es hQ ?_;try with_reducible rfl)
         exact congrArg (V.int .i64) (fE_is hi hi2 hat (by decide)).symm)
  · obtain rfl:i=l.length:=by omega
    have hga:=hln
    have hti:=hln
    have hsl:=hln
    have hal:=hln
    have hcf:=hln
    (have FX:=And.intro hln (And.intro hga (And.intro hti (And.intro hsl hal)));repeat'(first|(refine sx ?_ ?_<;>intro h<;>first|(exfalso;omega)|skip)|refine ny ?_|refine WA_block ?_))
    all_goals(try(exfalso;omega))
    all_goals((refine r_es hQ ?_;try with_reducible rfl))
    all_goals(exact congrArg (V.int .i64) (fE_zero.2 hi2).symm)
end Go.Proofs.YtookikhphobnlaaGreatDoor
