import Derived.Test.YtookikhphobnlaaGreatDoorGAI
import Derived.Test.YtookikhphobnlaaGreatDoorGAA
import Derived.Test.YtookikhphobnlaaGreatDoorGAD
import Derived.Test.YtookikhphobnlaaGreatDoorGAK
set_option linter.unusedSimpArgs false
set_option linter.unusedVariables false
/- contracts: searches, values, of the reference -/
namespace Go.Proofs.YtookikhphobnlaaGreatDoor
open Go.RowKit
attribute [local irreducible] WA WOs WDs WAn qThen qBlock tput
set_option maxHeartbeats 1000000
set_option maxRecDepth 20000
set_option linter.unusedSimpArgs false
set_option linter.unusedVariables false
/-! the searches -/

theorem rmeasureat_c(l:List MsR)(s:Txt)(hl:l.length≤1000)(m:Mem):Gives Tryz.prog 81 [.lst (mssV l),.str s] m (.int .i64 (fdx (isM s) l)):=by
  have hln:=mssV_length (l:=l)
  have hga:=hln
  refine Gives_in Tryz.func81 rfl Tryz.ntmps81 Tryz.results81 (by kernel_rfl) (by simp) rfl fun Q hQ=>?_
  (have FX:=And.intro hln hga;repeat'(first|(refine sx ?_ ?_<;>intro h<;>first|(exfalso;omega)|skip)|refine ny ?_|refine WA_block ?_))
  refine WA_while (σ:=Nat) [0,1,5] (fun i=>[.lst (mssV l),.str s,.int .i64 i]) (fun _=>lend m++[]) (fun i=>i≤l.length∧∀ j,j<i→isM s (l.getD j msz)=false) (fun i=>l.length - i) 0 ⟨Nat.zero_le _,fun j h=>absurd h (Nat.not_lt_zero _)⟩ tv_ rfl ?_
  rintro i ⟨hi1,hi2⟩ L hL
  simp only [zipT]
  clear FX hga
  rcases Nat.lt_or_ge i l.length with hi|hi
  · have hga:=mssV_get hi
    have hat:isM s (l.getD i msz)=decide ((l.getD i msz).name=s):=rfl
    have hat1:(l.getD i msz).name=s→fdx (isM s) l=i:=fun h=>fdx_at hi hi2 (hat.trans (decide_eq_true h))
    have hat2:¬ (l.getD i msz).name=s→isM s (l.getD i msz)=false:=fun h=>hat.trans (decide_eq_false h)
    have hat3:=fun h=>up_false (f:=fun j=>isM s (l.getD j msz)) hi2 (hat2 h)
    clear hat hat2
    generalize l.getD i msz=x at *
    obtain⟨nm,va,lo,hg⟩:=x
    unfold msV at hga
    dsimp only at hga hat1 hat3
    (have FX:=And.intro hln hga;repeat'(first|(refine sx ?_ ?_<;>intro h<;>first|(exfalso;omega)|skip)|refine ny ?_|refine WA_block ?_))
    all_goals(try(exfalso;omega))
    all_goals try
      ((refine r_es hQ ?_;try with_reducible rfl)
       exact congrArg (V.int .i64) (hat1 (by assumption)).symm)
    all_goals(refine next_ hL (i+1) ⟨hi,hat3 (by assumption)⟩ (by omega))
  · obtain rfl:i=l.length:=by omega
    have hga:=hln
    (have FX:=And.intro hln hga;repeat'(first|(refine sx ?_ ?_<;>intro h<;>first|(exfalso;omega)|skip)|refine ny ?_|refine WA_block ?_))
    all_goals(try(exfalso;omega))
    all_goals((refine r_es hQ ?_;try with_reducible rfl))
    all_goals(exact congrArg (V.int .i64) (fdx_no hi2).symm)

theorem radjustmentat_c(l:List AdR)(s:Txt)(hl:l.length≤1000)(m:Mem):Gives Tryz.prog 53 [.lst (adsV l),.str s] m (.int .i64 (fdx (isA s) l)):=by
  have hln:=adsV_length (l:=l)
  have hga:=hln
  refine Gives_in Tryz.func53 rfl Tryz.ntmps53 Tryz.results53 (by kernel_rfl) (by simp) rfl fun Q hQ=>?_
  (have FX:=And.intro hln hga;repeat'(first|(refine sx ?_ ?_<;>intro h<;>first|(exfalso;omega)|skip)|refine ny ?_|refine WA_block ?_))
  refine WA_while (σ:=Nat) [0,1,5] (fun i=>[.lst (adsV l),.str s,.int .i64 i]) (fun _=>lend m++[]) (fun i=>i≤l.length∧∀ j,j<i→isA s (l.getD j adz)=false) (fun i=>l.length - i) 0 ⟨Nat.zero_le _,fun j h=>absurd h (Nat.not_lt_zero _)⟩ tv_ rfl ?_
  rintro i ⟨hi1,hi2⟩ L hL
  simp only [zipT]
  clear FX hga
  rcases Nat.lt_or_ge i l.length with hi|hi
  · have hga:=adsV_get hi
    have hat:isA s (l.getD i adz)=decide ((l.getD i adz).name=s):=rfl
    have hat1:(l.getD i adz).name=s→fdx (isA s) l=i:=fun h=>fdx_at hi hi2 (hat.trans (decide_eq_true h))
    have hat2:¬ (l.getD i adz).name=s→isA s (l.getD i adz)=false:=fun h=>hat.trans (decide_eq_false h)
    have hat3:=fun h=>up_false (f:=fun j=>isA s (l.getD j adz)) hi2 (hat2 h)
    clear hat hat2
    generalize l.getD i adz=x at *
    obtain⟨nm,ef,le,mo,pa,af⟩:=x
    unfold adV at hga
    dsimp only at hga hat1 hat3
    (have FX:=And.intro hln hga;repeat'(first|(refine sx ?_ ?_<;>intro h<;>first|(exfalso;omega)|skip)|refine ny ?_|refine WA_block ?_))
    all_goals(try(exfalso;omega))
    all_goals try
      ((refine r_es hQ ?_;try with_reducible rfl)
       exact congrArg (V.int .i64) (hat1 (by assumption)).symm)
    all_goals(refine next_ hL (i+1) ⟨hi,hat3 (by assumption)⟩ (by omega))
  · obtain rfl:i=l.length:=by omega
    have hga:=hln
    (have FX:=And.intro hln hga;repeat'(first|(refine sx ?_ ?_<;>intro h<;>first|(exfalso;omega)|skip)|refine ny ?_|refine WA_block ?_))
    all_goals(try(exfalso;omega))
    all_goals((refine r_es hQ ?_;try with_reducible rfl))
    all_goals(exact congrArg (V.int .i64) (fdx_no hi2).symm)

theorem bhastext_c(l:List Txt)(s:Txt)(hl:l.length≤1000)(m:Mem):Gives Tryz.prog 83 [.lst (tsV l),.str s] m (.bool (decide (0≤fdx (isT s) l))):=by
  have hln:=tsV_length (l:=l)
  have hga:=hln
  refine Gives_in Tryz.func83 rfl Tryz.ntmps83 Tryz.results83 (by kernel_rfl) (by simp) rfl fun Q hQ=>?_
  (have FX:=And.intro hln hga;repeat'(first|(refine sx ?_ ?_<;>intro h<;>first|(exfalso;omega)|skip)|refine ny ?_|refine WA_block ?_))
  refine WA_while (σ:=Nat) [0,1,5] (fun i=>[.lst (tsV l),.str s,.int .i64 i]) (fun _=>lend m++[]) (fun i=>i≤l.length∧∀ j,j<i→isT s (l.getD j [])=false) (fun i=>l.length - i) 0 ⟨Nat.zero_le _,fun j h=>absurd h (Nat.not_lt_zero _)⟩ tv_ rfl ?_
  rintro i ⟨hi1,hi2⟩ L hL
  simp only [zipT]
  clear FX hga
  rcases Nat.lt_or_ge i l.length with hi|hi
  · have hga:=tsV_get hi
    have hat:isT s (l.getD i [])=decide (l.getD i []=s):=rfl
    have hat1:l.getD i []=s→fdx (isT s) l=i:=fun h=>fdx_at hi hi2 (hat.trans (decide_eq_true h))
    have hat2:¬ l.getD i []=s→isT s (l.getD i [])=false:=fun h=>hat.trans (decide_eq_false h)
    have hat3:=fun h=>up_false (f:=fun j=>isT s (l.getD j [])) hi2 (hat2 h)
    clear hat hat2
    generalize l.getD i []=x at *
    (have FX:=And.intro hln hga;repeat'(first|(refine sx ?_ ?_<;>intro h<;>first|(exfalso;omega)|skip)|refine ny ?_|refine WA_block ?_))
    all_goals(try(exfalso;omega))
    all_goals try
      ((refine r_es hQ ?_;try with_reducible rfl)
       exact congrArg V.bool (decide_eq_true (by rw [hat1 (by assumption)];omega)).symm)
    all_goals(refine next_ hL (i+1) ⟨hi,hat3 (by assumption)⟩ (by omega))
  · obtain rfl:i=l.length:=by omega
    have hga:=hln
    (have FX:=And.intro hln hga;repeat'(first|(refine sx ?_ ?_<;>intro h<;>first|(exfalso;omega)|skip)|refine ny ?_|refine WA_block ?_))
    all_goals(try(exfalso;omega))
    all_goals((refine r_es hQ ?_;try with_reducible rfl))
    all_goals(exact congrArg V.bool (decide_eq_false (by rw [fdx_no hi2];omega)).symm)
theorem mem_at{l:List Nat}{i:Nat}(h:i<l.length):l.getD i 0∈l:=by
  rw [List.getD_eq_getElem?_getD,List.getElem?_eq_getElem h];exact List.getElem_mem h
theorem mem_no{l:List Nat}{n:Nat}(h:∀ j,j<l.length→l.getD j 0≠n):n ∉ l:=by
  intro hm
  obtain⟨j,hj,rfl⟩:=List.getElem_of_mem hm
  have:=h j hj
  rw [List.getD_eq_getElem?_getD,List.getElem?_eq_getElem hj] at this
  exact this rfl

theorem bhas_c (l:List Nat) (n:Nat) (hl:l.length≤1000) (m:Mem):Gives Tryz.prog 52 [.lst (nuV l),.int .i64 n] m (.bool (decide (n∈l))):=by
  have hln:=nuV_length (l:=l)
  have hga:=hln
  refine Gives_in Tryz.func52 rfl Tryz.ntmps52 Tryz.results52 (by kernel_rfl) (by simp) rfl fun Q hQ=>?_
  (have FX:=And.intro hln hga;repeat'(first|(refine sx ?_ ?_<;>intro h<;>first|(exfalso;omega)|skip)|refine ny ?_|refine WA_block ?_))
  refine WA_while (σ:=Nat) [0,1,5] (fun i=>[.lst (nuV l),.int .i64 n,.int .i64 i]) (fun _=>lend m++[]) (fun i=>i≤l.length∧∀ j,j<i→l.getD j 0≠n) (fun i=>l.length - i) 0 ⟨Nat.zero_le _,fun j h=>absurd h (Nat.not_lt_zero _)⟩ tv_ rfl ?_
  rintro i ⟨hi1,hi2⟩ L hL
  simp only [zipT]
  clear FX hga
  rcases Nat.lt_or_ge i l.length with hi|hi
  · have hga:=nuV_get hi
    have hat1:l.getD i 0=n→n∈l:=fun h=>h ▸ mem_at hi
    have hat3:l.getD i 0≠n→∀ j,j<i+1→l.getD j 0≠n:=fun h j hj=>by
      rcases Nat.lt_or_ge j i with q|q
      · exact hi2 j q
      · obtain rfl:j=i:=by omega
        exact h
    generalize l.getD i 0=x at *
    (have FX:=And.intro hln hga;repeat'(first|(refine sx ?_ ?_<;>intro h<;>first|(exfalso;omega)|skip)|refine ny ?_|refine WA_block ?_))
    all_goals(try(exfalso;omega))
    all_goals try
      ((refine r_es hQ ?_;try with_reducible rfl)
       exact congrArg V.bool (decide_eq_true (hat1 (by omega))).symm)
    all_goals(refine next_ hL (i+1) ⟨hi,hat3 (by omega)⟩ (by omega))
  · obtain rfl:i=l.length:=by omega
    have hga:=hln
    (have FX:=And.intro hln hga;repeat'(first|(refine sx ?_ ?_<;>intro h<;>first|(exfalso;omega)|skip)|refine ny ?_|refine WA_block ?_))
    all_goals(try(exfalso;omega))
    all_goals((refine r_es hQ ?_;try with_reducible rfl))
    all_goals(exact congrArg V.bool (decide_eq_false (mem_no hi2)).symm)

theorem rcheckmeasure_c(bef:List MsR)(x:MsR)(hl:bef.length≤1000)(m:Mem):Gives Tryz.prog 45 [.lst (mssV bef),.agg (msV x)] m (.int .i64 (msErr bef x)):=by
  have hln:=mssV_length (l:=bef)
  obtain⟨nm,va,lo,hg⟩:=x
  unfold msV msErr
  dsimp only
  refine Gives_in Tryz.func45 rfl Tryz.ntmps45 Tryz.results45 (by kernel_rfl) (by simp) rfl fun Q hQ=>?_
  (have FX:=hln;repeat'(first|(refine sx ?_ ?_<;>intro h<;>first|(exfalso;omega)|skip)|(refine g_op ?_;refine g_call ?_;refine g_args ?_;(first|refine s_fn (bisname_c _ _) ?_|refine s_fn (rmeasureat_c bef nm hl _) ?_|refine s_fn (bwithin_c _ _ _ _) ?_)<;>try first|omega|assumption)|refine ny ?_|refine WA_block ?_))
  all_goals(try(exfalso;omega))
  all_goals((refine r_es hQ ?_;try with_reducible rfl))
  all_goals(refine congrArg (V.int .i64) ?_)
  all_goals first
    |(rw [if_pos (by assumption)];done)
    |(rw [if_neg (by simpa using (by assumption:nameP nm)),if_pos (by omega)];done)
    |(rw [if_neg (by simpa using (by assumption:nameP nm)),if_neg (by omega),if_pos (by omega)];done)
    |(rw [if_neg (by simpa using (by assumption:nameP nm)),if_neg (by omega),if_neg (by omega),if_pos (by omega)];done)
    |(rw [if_neg (by simpa using (by assumption:nameP nm)),if_neg (by omega),if_neg (by omega),if_neg (by omega)];done)
theorem getD_take{α:Type}{l:List α}{d:α}{i k:Nat}(h:k<i):(l.take i).getD k d=l.getD k d:=by
  rw [List.getD_eq_getElem?_getD,List.getElem?_take_of_lt h,←List.getD_eq_getElem?_getD]
theorem fdx_in{α:Type}{f:α→Bool}{l:List α}{d:α}{i:Nat}(hi:i<l.length)(h:f (l.getD i d)=true):0≤fdx f l∧fdx f l≤i:=by
  rcases fdx_cases f l d with ⟨_,h1⟩|⟨k,hk,h1,h2,h3⟩
  · rw [h1 i hi] at h;cases h
  · refine⟨by omega,?_⟩
    rcases Nat.lt_or_ge i k with q|q
    · rw [h3 i q] at h;cases h
    · omega
theorem fdx_take{α:Type}{f:α→Bool}{l:List α}{d:α}{i:Nat}(hi:i≤l.length):0≤fdx f (l.take i)↔(0≤fdx f l∧fdx f l<i):=by
  have hg:∀ j,j<i→(l.take i).getD j d=l.getD j d:=fun j hj=>by
    rw [List.getD_eq_getElem?_getD,List.getElem?_take_of_lt hj,←List.getD_eq_getElem?_getD]
  have hl:(l.take i).length=i:=by rw [List.length_take];omega
  rcases fdx_cases f (l.take i) d with ⟨h1,h2⟩|⟨k,hk,h1,h2,h3⟩
  · rw [h1]
    refine⟨fun h=>by omega,fun h=>?_⟩
    rcases fdx_cases f l d with ⟨g1,_⟩|⟨k,hk,g1,g2,_⟩
    · omega
    · have:k<i:=by omega
      have h4:=h2 k (by omega)
      rw [hg k this,g2] at h4
      cases h4
  · rw [hl] at hk
    rw [hg k hk] at h2
    have h3':∀ j,j<k→f (l.getD j d)=false:=fun j hj=>by rw [←hg j (by omega)];exact h3 j hj
    rw [fdx_at (by omega) h3' h2,h1]
    exact⟨fun _=>⟨by omega,by omega⟩,fun _=>by omega⟩
theorem uB12_82_6{N:Nat}{l:List Oper}{t:List (Nat×V)}{m:Mem}{Q:Exit→List (Nat×V)→Mem→Prop}(h:RgN Tryz.prog N l t m Q (fun i=>if i==1 || i==6 || i==7 then .q else .p) [.one 0,.one 1,.one 2,.one 3,.one 4,.one 5,.one 6,.one 7,.one 8]):WA Tryz.prog N (.region 6 l.toArray true) t m Q:=d_rgN h
theorem uB12_82_11{N:Nat}{l:List Oper}{t:List (Nat×V)}{m:Mem}{Q:Exit→List (Nat×V)→Mem→Prop}(h:RgN Tryz.prog N l t m Q (fun i=>if i==4 || i==9 || i==10 then .q else .p) [.one 0,.one 1,.one 2,.one 3,.one 4,.one 5,.one 6,.one 7,.one 8,.one 9,.one 10]):WA Tryz.prog N (.region 11 l.toArray true) t m Q:=d_rgN h
theorem rcheckeffects_c (mm:List MsR) (ads:List AdR) (l:List EfR) (hmm:mm.length≤1000) (hl0:l.length≤1000) (m:Mem):Gives Tryz.prog 82 [.agg [.lst (mssV mm),.lst (adsV ads)],.lst (efsV l)] m (.int .i64 (efErr mm l)):=by
  have hlm:=mssV_length (l:=mm)
  have hln:=efsV_length (l:=l)
  have hga:=hln
  have hgb:=hln
  have hma:=hln
  unfold efErr
  refine Gives_in Tryz.func82 rfl Tryz.ntmps82 Tryz.results82 (by kernel_rfl) (by simp) rfl fun Q hQ=>?_
  (have FX:=And.intro hlm (And.intro hln (And.intro hga hgb));repeat'(first|(refine sx ?_ ?_<;>intro h<;>first|(exfalso;omega)|skip)|(refine g_op ?_;refine g_call ?_;refine g_args ?_;(first|refine s_fn (hma _) ?_|refine s_fn (bwithin_c _ _ _ _) ?_)<;>try first|omega|assumption)|refine ny ?_|refine WA_block ?_|(refine uB12_82_6 ?_;refine⟨by kernel_rfl,?_⟩)|(refine uB12_82_11 ?_;refine⟨by kernel_rfl,?_⟩)|((first|refine grp_cons (fun _=>hma _) ?_|refine grp_cons (fun _=>bwithin_c _ _ _ _) ?_)<;>try first|omega|assumption)|(refine g_d ?_;refine d_args ?_;(first|refine d_fn (hma _) ?_|refine d_fn (bwithin_c _ _ _ _) ?_|refine d_fnQ (fun _=>hma _) ?_|refine d_fnQ (fun _=>bwithin_c _ _ _ _) ?_)<;>try first|omega|assumption)|(refine g_d ?_;(first|refine d_fnY (hma _) ?_|refine d_fnY (bwithin_c _ _ _ _) ?_)<;>try first|omega|assumption)))
  all_goals(try(exfalso;omega))
  all_goals try
    ((refine r_es hQ ?_;try with_reducible rfl)
     refine congrArg (V.int .i64) ?_
     rw [if_pos (by omega)]
     done)
  have hl12:l.length≤12:=by omega
  rw [if_neg (by omega)] at hQ
  refine WA_while (σ:=Nat) [1,2,5] (fun i=>[.lst (efsV l),.ptr (lend m).length 0 0,.int .i64 i]) (fun _=>lend m++[.cells .own 28 2 [[.lst (mssV mm),.lst (adsV ads)]]]) (fun i=>i≤l.length∧∀ j,j<i→efErrAt mm l j=0) (fun i=>l.length - i) 0 ⟨Nat.zero_le _,fun j h=>absurd h (Nat.not_lt_zero _)⟩ tv_ rfl ?_
  rintro i ⟨hi1,hi2⟩ K hK
  simp only [zipT]
  clear FX hga hgb hma
  rcases Nat.lt_or_ge i l.length with hi|hi
  · have hga:=efsV_get hi
    have hgb:=hln
    have hma:=fun m=>rmeasureat_c mm (l.getD i efz).meas hmm m
    have hat:efErrAt mm l i=if fdx (isM (l.getD i efz).meas) mm<0 then 6 else if 0≤fdx (isF (l.getD i efz).meas) (l.take i) then 5 else
      if ¬ (-1000≤(l.getD i efz).by_∧(l.getD i efz).by_≤1000) then 2 else if (l.getD i efz).by_=0 then 11 else 0:=rfl
    have htk:∀ k,k<i→(l.getD k efz).meas=(l.getD i efz).meas→0≤fdx (isF (l.getD i efz).meas) (l.take i):=fun k hk h=>(fdx_in (d:=efz) (i:=k) (by rw [List.length_take];omega) (by rw [getD_take hk];exact decide_eq_true h)).1
    have htn:(∀ k,k<i→(l.getD k efz).meas≠(l.getD i efz).meas)→¬ 0≤fdx (isF (l.getD i efz).meas) (l.take i):=fun h=>by
      rw [fdx_no (d:=efz) fun j hj=>?_]
      · omega
      · rw [List.length_take] at hj
        rw [getD_take (by omega)]
        exact decide_eq_false (h j (by omega))
    generalize hx:l.getD i efz=x at *
    obtain⟨nm,by_⟩:=x
    unfold efV at hga
    dsimp only at hga hat htk htn hma
    (have FX:=And.intro hlm (And.intro hln (And.intro hga hgb));repeat'(first|(refine sx ?_ ?_<;>intro h<;>first|(exfalso;omega)|skip)|(refine g_op ?_;refine g_call ?_;refine g_args ?_;(first|refine s_fn (hma _) ?_|refine s_fn (bwithin_c _ _ _ _) ?_)<;>try first|omega|assumption)|refine ny ?_|refine WA_block ?_|(refine uB12_82_6 ?_;refine⟨by kernel_rfl,?_⟩)|(refine uB12_82_11 ?_;refine⟨by kernel_rfl,?_⟩)|((first|refine grp_cons (fun _=>hma _) ?_|refine grp_cons (fun _=>bwithin_c _ _ _ _) ?_)<;>try first|omega|assumption)|(refine g_d ?_;refine d_args ?_;(first|refine d_fn (hma _) ?_|refine d_fn (bwithin_c _ _ _ _) ?_|refine d_fnQ (fun _=>hma _) ?_|refine d_fnQ (fun _=>bwithin_c _ _ _ _) ?_)<;>try first|omega|assumption)|(refine g_d ?_;(first|refine d_fnY (hma _) ?_|refine d_fnY (bwithin_c _ _ _ _) ?_)<;>try first|omega|assumption)))
    all_goals(try(exfalso;omega))
    all_goals try
      ((refine r_es hQ ?_;try with_reducible rfl)
       refine congrArg (V.int .i64) (fE_is hi hi2 (hat.trans ?_) (by decide)).symm
       rw [if_pos (by omega)]
       done)
    refine WA_while (σ:=Nat) [1,2,5,6] (fun k=>[.lst (efsV l),.ptr (lend m).length 0 0,.int .i64 i,.int .i64 k]) (fun _=>lend m++[.cells .own 28 2 [[.lst (mssV mm),.lst (adsV ads)]]]) (fun k=>k≤i∧∀ j,j<k→(l.getD j efz).meas≠nm) (fun k=>i - k) 0 ⟨Nat.zero_le _,fun j h=>absurd h (Nat.not_lt_zero _)⟩ tv_ rfl ?_
    rintro k ⟨hk1,hk2⟩ K2 hK2
    simp only [zipT]
    clear FX hgb
    rcases Nat.lt_or_ge k i with hk|hk
    · have hgb:=efsV_get (l:=l) (i:=k) (by omega)
      have hky:=htk k hk
      have hkn:¬ (l.getD k efz).meas=nm→∀ j,j<k+1→(l.getD j efz).meas≠nm:=fun h j hj=>by
        rcases Nat.lt_or_ge j k with q|q
        · exact hk2 j q
        · obtain rfl:j=k:=by omega
          exact h
      generalize l.getD k efz=y at *
      obtain⟨ym,yb⟩:=y
      unfold efV at hgb
      dsimp only at hgb hky hkn
      (have FX:=And.intro hlm (And.intro hln (And.intro hga hgb));repeat'(first|(refine sx ?_ ?_<;>intro h<;>first|(exfalso;omega)|skip)|(refine g_op ?_;refine g_call ?_;refine g_args ?_;(first|refine s_fn (hma _) ?_|refine s_fn (bwithin_c _ _ _ _) ?_)<;>try first|omega|assumption)|refine ny ?_|refine WA_block ?_|(refine uB12_82_6 ?_;refine⟨by kernel_rfl,?_⟩)|(refine uB12_82_11 ?_;refine⟨by kernel_rfl,?_⟩)|((first|refine grp_cons (fun _=>hma _) ?_|refine grp_cons (fun _=>bwithin_c _ _ _ _) ?_)<;>try first|omega|assumption)|(refine g_d ?_;refine d_args ?_;(first|refine d_fn (hma _) ?_|refine d_fn (bwithin_c _ _ _ _) ?_|refine d_fnQ (fun _=>hma _) ?_|refine d_fnQ (fun _=>bwithin_c _ _ _ _) ?_)<;>try first|omega|assumption)|(refine g_d ?_;(first|refine d_fnY (hma _) ?_|refine d_fnY (bwithin_c _ _ _ _) ?_)<;>try first|omega|assumption)))
      all_goals(try(exfalso;omega))
      all_goals try
        ((refine r_es hQ ?_;try with_reducible rfl)
         refine congrArg (V.int .i64) (fE_is hi hi2 (hat.trans ?_) (by decide)).symm
         have h5:=hky (by assumption)
         rw [if_neg (by omega),if_pos h5]
         done)
      all_goals(refine next_ hK2 (k+1) ⟨hk,hkn (by assumption)⟩ (by omega))
    · obtain rfl:k=i:=by omega
      have hgb:=hln
      have hnt:=htn hk2
      (have FX:=And.intro hlm (And.intro hln (And.intro hga hgb));repeat'(first|(refine sx ?_ ?_<;>intro h<;>first|(exfalso;omega)|skip)|(refine g_op ?_;refine g_call ?_;refine g_args ?_;(first|refine s_fn (hma _) ?_|refine s_fn (bwithin_c _ _ _ _) ?_)<;>try first|omega|assumption)|refine ny ?_|refine WA_block ?_|(refine uB12_82_6 ?_;refine⟨by kernel_rfl,?_⟩)|(refine uB12_82_11 ?_;refine⟨by kernel_rfl,?_⟩)|((first|refine grp_cons (fun _=>hma _) ?_|refine grp_cons (fun _=>bwithin_c _ _ _ _) ?_)<;>try first|omega|assumption)|(refine g_d ?_;refine d_args ?_;(first|refine d_fn (hma _) ?_|refine d_fn (bwithin_c _ _ _ _) ?_|refine d_fnQ (fun _=>hma _) ?_|refine d_fnQ (fun _=>bwithin_c _ _ _ _) ?_)<;>try first|omega|assumption)|(refine g_d ?_;(first|refine d_fnY (hma _) ?_|refine d_fnY (bwithin_c _ _ _ _) ?_)<;>try first|omega|assumption)))
      all_goals(try(exfalso;omega))
      all_goals try
        ((refine r_es hQ ?_;try with_reducible rfl)
         refine congrArg (V.int .i64) (fE_is hi hi2 (hat.trans ?_) (by decide)).symm
         first|(rw [if_neg (by omega),if_neg (by omega),if_pos (by omega)];done)|(rw [if_neg (by omega),if_neg (by omega),if_neg (by omega),if_pos (by omega)];done))
      all_goals(refine next_ hK (k+1) ⟨by omega,up_zero hi2 (hat.trans (by rw [if_neg (by omega),if_neg (by omega),if_neg (by omega),if_neg (by omega)]))⟩ (by omega))
  · obtain rfl:i=l.length:=by omega
    have hga:=hln
    have hgb:=hln
    have hma:=hln
    (have FX:=And.intro hlm (And.intro hln (And.intro hga hgb));repeat'(first|(refine sx ?_ ?_<;>intro h<;>first|(exfalso;omega)|skip)|(refine g_op ?_;refine g_call ?_;refine g_args ?_;(first|refine s_fn (hma _) ?_|refine s_fn (bwithin_c _ _ _ _) ?_)<;>try first|omega|assumption)|refine ny ?_|refine WA_block ?_|(refine uB12_82_6 ?_;refine⟨by kernel_rfl,?_⟩)|(refine uB12_82_11 ?_;refine⟨by kernel_rfl,?_⟩)|((first|refine grp_cons (fun _=>hma _) ?_|refine grp_cons (fun _=>bwithin_c _ _ _ _) ?_)<;>try first|omega|assumption)|(refine g_d ?_;refine d_args ?_;(first|refine d_fn (hma _) ?_|refine d_fn (bwithin_c _ _ _ _) ?_|refine d_fnQ (fun _=>hma _) ?_|refine d_fnQ (fun _=>bwithin_c _ _ _ _) ?_)<;>try first|omega|assumption)|(refine g_d ?_;(first|refine d_fnY (hma _) ?_|refine d_fnY (bwithin_c _ _ _ _) ?_)<;>try first|omega|assumption)))
    all_goals(try(exfalso;omega))
    all_goals((refine r_es hQ ?_;try with_reducible rfl))
    all_goals(exact congrArg (V.int .i64) (fE_zero.2 hi2).symm)
end Go.Proofs.YtookikhphobnlaaGreatDoor
namespace Go.Proofs.YtookikhphobnlaaGreatDoor
open Go.RowKit
attribute [local irreducible] WA WOs WDs WAn qThen qBlock tput
set_option maxHeartbeats 1000000
set_option maxRecDepth 20000
set_option linter.unusedSimpArgs false
set_option linter.unusedVariables false
set_option maxHeartbeats 4000000
theorem uB22_46_16{N:Nat}{l:List Oper}{t:List (Nat×V)}{m:Mem}{Q:Exit→List (Nat×V)→Mem→Prop}(h:RgN Tryz.prog N l t m Q (fun i=>if i==1 || i==3 || i==6 || i==7 then .q else .p) [.one 0,.one 1,.one 2,.one 3,.one 4,.one 5,.one 6,.one 7,.one 8]):WA Tryz.prog N (.region 16 l.toArray true) t m Q:=d_rgN h
theorem uB22_46_18{N:Nat}{l:List Oper}{t:List (Nat×V)}{m:Mem}{Q:Exit→List (Nat×V)→Mem→Prop}(h:RgN Tryz.prog N l t m Q (fun i=>if i==1 || i==5 || i==8 || i==9 then .q else .p) [.one 0,.one 1,.one 2,.one 3,.one 4,.one 5,.one 6,.one 7,.one 8,.one 9]):WA Tryz.prog N (.region 18 l.toArray true) t m Q:=d_rgN h
theorem rcheckadj_c(mm:List MsR)(ads:List AdR)(hb1:mm.length≤1000)(hb2:ads.length≤1000)(i:Nat)(hi:i<ads.length)(he:(ads.getD i adz).effs.length≤1000)(haf:(ads.getD i adz).after.length≤1000)(m:Mem):Gives Tryz.prog 46 [.agg [.lst (mssV mm),.lst (adsV ads)],.int .i64 i] m (.int .i64 (adErr mm ads i)):=by
  have hla:=adsV_length (l:=ads)
  have hgk:=adsV_get hi
  have hef:=fun m=>rcheckeffects_c mm ads (ads.getD i adz).effs hb1 he m
  have hfi:fdx (isA (ads.getD i adz).name) ads<i↔0≤fdx (isA (ads.getD i adz).name) (ads.take i):=by
    have h1:=(fdx_in (f:=isA (ads.getD i adz).name) (d:=adz) hi (decide_eq_true rfl)).1
    rw [fdx_take (d:=adz) (by omega)]
    omega
  have hlf:=tsV_length (l:=(ads.getD i adz).after)
  have hga:=hla
  have hti:=hla
  have hsl:=hla
  have hal:=hla
  have hht:=hla
  unfold adErr
  generalize ads.getD i adz=x at *
  obtain⟨nm,ef,le,mo,pa,af⟩:=x
  unfold adV at hgk
  dsimp only at hgk hef hfi hlf he haf ⊢
  generalize efErr mm ef=ee at *
  generalize fdx (isA nm) (ads.take i)=ft at *
  refine Gives_in Tryz.func46 rfl Tryz.ntmps46 Tryz.results46 (by kernel_rfl) (by simp) rfl fun Q hQ=>?_
  (have FX:=And.intro hla (And.intro hlf (And.intro hgk (And.intro hga (And.intro hti (And.intro hsl hal)))));repeat'(first|(refine sx ?_ ?_<;>intro h<;>first|(exfalso;omega)|skip)|(refine g_op ?_;refine g_call ?_;refine g_args ?_;(first|refine s_fn (bisname_c _ _) ?_|refine s_fn (radjustmentat_c ads _ hb2 _) ?_|refine s_fn (hef _) ?_|refine s_fn (bwithin_c _ _ _ _) ?_|refine s_fn (hht _) ?_)<;>try first|omega|assumption)|refine ny ?_|refine WA_block ?_|(refine uB22_46_16 ?_;refine⟨by kernel_rfl,?_⟩)|(refine uB22_46_18 ?_;refine⟨by kernel_rfl,?_⟩)|((first|refine grp_cons (fun _=>bisname_c _ _) ?_|refine grp_cons (fun _=>radjustmentat_c ads _ hb2 _) ?_|refine grp_cons (fun _=>hef _) ?_|refine grp_cons (fun _=>bwithin_c _ _ _ _) ?_|refine grp_cons (fun _=>hht _) ?_)<;>try first|omega|assumption)|(refine g_d ?_;refine d_args ?_;(first|refine d_fn (bisname_c _ _) ?_|refine d_fn (radjustmentat_c ads _ hb2 _) ?_|refine d_fn (hef _) ?_|refine d_fn (bwithin_c _ _ _ _) ?_|refine d_fn (hht _) ?_|refine d_fnQ (fun _=>bisname_c _ _) ?_|refine d_fnQ (fun _=>radjustmentat_c ads _ hb2 _) ?_|refine d_fnQ (fun _=>hef _) ?_|refine d_fnQ (fun _=>bwithin_c _ _ _ _) ?_|refine d_fnQ (fun _=>hht _) ?_)<;>try first|omega|assumption)|(refine g_d ?_;(first|refine d_fnY (bisname_c _ _) ?_|refine d_fnY (radjustmentat_c ads _ hb2 _) ?_|refine d_fnY (hef _) ?_|refine d_fnY (bwithin_c _ _ _ _) ?_|refine d_fnY (hht _) ?_)<;>try first|omega|assumption)))
  all_goals(try(exfalso;omega))
  all_goals try
    ((refine r_es hQ ?_;try with_reducible rfl)
     refine congrArg (V.int .i64) ?_
     first
       |(rw [if_pos (by assumption)];done)
       |(rw [if_neg (by simpa using (by assumption:nameP nm)),if_pos (by omega)];done)
       |(rw [if_neg (by simpa using (by assumption:nameP nm)),if_neg (by omega),if_pos (by omega)];done)
       |(rw [if_neg (by simpa using (by assumption:nameP nm)),if_neg (by omega),if_neg (by omega),if_pos (by omega)];done)
       |(rw [if_neg (by simpa using (by assumption:nameP nm)),if_neg (by omega),if_neg (by omega),if_neg (by omega)];unfold afErr;rw [if_pos (by omega)];done))
  have hl12:af.length≤12:=by omega
  rw [if_neg (by simpa using (by assumption:nameP nm)),if_neg (by omega),if_neg (by omega),if_neg (by omega)] at hQ
  unfold afErr at hQ
  rw [if_neg (by omega)] at hQ
  refine WA_while (σ:=Nat) [2,5,7] (fun k=>[.ptr (lend m).length 0 0,.ptr ((lend m).length+1) 0 0,.int .i64 k]) (fun _=>lend m++[.cells .own 28 2 [[.lst (mssV mm),.lst (adsV ads)]],.cells .own 78 6 [[.str nm,.lst (efsV ef),.int .i64 le,.int .i64 mo,.int .i64 pa,.lst (tsV af)]]]) (fun k=>k≤af.length∧∀ j,j<k→afErrAt ads af j=0) (fun k=>af.length - k) 0 ⟨Nat.zero_le _,fun j h=>absurd h (Nat.not_lt_zero _)⟩ tv_ rfl ?_
  rintro k ⟨hk1,hk2⟩ K hK
  simp only [zipT]
  clear FX hgk hga hti hsl hal hht hef hfi
  have hgk:=hla
  have hef:=hla
  rcases Nat.lt_or_ge k af.length with hk|hk
  · have hga:=tsV_get hk
    have hti:((k:Int) - ((0:Nat):Int)).toNat=k:=by omega
    have hsl:=tsV_take af k
    have hal:=fun n h=>tsV_all (l:=af) (n:=n) h
    have hht:=fun m=>bhastext_c (af.take k) (af.getD k []) (by rw [List.length_take];omega) m
    have hat:afErrAt ads af k=if fdx (isA (af.getD k [])) ads<0 then 6 else if 0≤fdx (isT (af.getD k [])) (af.take k) then 5 else 0:=rfl
    generalize af.getD k []=s at *
    (have FX:=And.intro hla (And.intro hlf (And.intro hgk (And.intro hga (And.intro hti (And.intro hsl hal)))));repeat'(first|(refine sx ?_ ?_<;>intro h<;>first|(exfalso;omega)|skip)|(refine g_op ?_;refine g_call ?_;refine g_args ?_;(first|refine s_fn (bisname_c _ _) ?_|refine s_fn (radjustmentat_c ads _ hb2 _) ?_|refine s_fn (hef _) ?_|refine s_fn (bwithin_c _ _ _ _) ?_|refine s_fn (hht _) ?_)<;>try first|omega|assumption)|refine ny ?_|refine WA_block ?_|(refine uB22_46_16 ?_;refine⟨by kernel_rfl,?_⟩)|(refine uB22_46_18 ?_;refine⟨by kernel_rfl,?_⟩)|((first|refine grp_cons (fun _=>bisname_c _ _) ?_|refine grp_cons (fun _=>radjustmentat_c ads _ hb2 _) ?_|refine grp_cons (fun _=>hef _) ?_|refine grp_cons (fun _=>bwithin_c _ _ _ _) ?_|refine grp_cons (fun _=>hht _) ?_)<;>try first|omega|assumption)|(refine g_d ?_;refine d_args ?_;(first|refine d_fn (bisname_c _ _) ?_|refine d_fn (radjustmentat_c ads _ hb2 _) ?_|refine d_fn (hef _) ?_|refine d_fn (bwithin_c _ _ _ _) ?_|refine d_fn (hht _) ?_|refine d_fnQ (fun _=>bisname_c _ _) ?_|refine d_fnQ (fun _=>radjustmentat_c ads _ hb2 _) ?_|refine d_fnQ (fun _=>hef _) ?_|refine d_fnQ (fun _=>bwithin_c _ _ _ _) ?_|refine d_fnQ (fun _=>hht _) ?_)<;>try first|omega|assumption)|(refine g_d ?_;(first|refine d_fnY (bisname_c _ _) ?_|refine d_fnY (radjustmentat_c ads _ hb2 _) ?_|refine d_fnY (hef _) ?_|refine d_fnY (bwithin_c _ _ _ _) ?_|refine d_fnY (hht _) ?_)<;>try first|omega|assumption)))
    all_goals(try(exfalso;omega))
    all_goals try
      ((refine r_es hQ ?_;try with_reducible rfl)
       refine congrArg (V.int .i64) (fE_is hk hk2 (hat.trans ?_) (by decide)).symm
       first|(rw [if_pos (by omega)];done)|(rw [if_neg (by omega),if_pos (by assumption)];done))
    all_goals(refine next_ hK (k+1) ⟨hk,up_zero hk2 (hat.trans (by rw [if_neg (by omega),if_neg (by assumption)]))⟩ (by omega))
  · obtain rfl:k=af.length:=by omega
    have hga:=hla
    have hti:=hla
    have hsl:=hla
    have hal:=hla
    have hht:=hla
    (have FX:=And.intro hla (And.intro hlf (And.intro hgk (And.intro hga (And.intro hti (And.intro hsl hal)))));repeat'(first|(refine sx ?_ ?_<;>intro h<;>first|(exfalso;omega)|skip)|(refine g_op ?_;refine g_call ?_;refine g_args ?_;(first|refine s_fn (bisname_c _ _) ?_|refine s_fn (radjustmentat_c ads _ hb2 _) ?_|refine s_fn (hef _) ?_|refine s_fn (bwithin_c _ _ _ _) ?_|refine s_fn (hht _) ?_)<;>try first|omega|assumption)|refine ny ?_|refine WA_block ?_|(refine uB22_46_16 ?_;refine⟨by kernel_rfl,?_⟩)|(refine uB22_46_18 ?_;refine⟨by kernel_rfl,?_⟩)|((first|refine grp_cons (fun _=>bisname_c _ _) ?_|refine grp_cons (fun _=>radjustmentat_c ads _ hb2 _) ?_|refine grp_cons (fun _=>hef _) ?_|refine grp_cons (fun _=>bwithin_c _ _ _ _) ?_|refine grp_cons (fun _=>hht _) ?_)<;>try first|omega|assumption)|(refine g_d ?_;refine d_args ?_;(first|refine d_fn (bisname_c _ _) ?_|refine d_fn (radjustmentat_c ads _ hb2 _) ?_|refine d_fn (hef _) ?_|refine d_fn (bwithin_c _ _ _ _) ?_|refine d_fn (hht _) ?_|refine d_fnQ (fun _=>bisname_c _ _) ?_|refine d_fnQ (fun _=>radjustmentat_c ads _ hb2 _) ?_|refine d_fnQ (fun _=>hef _) ?_|refine d_fnQ (fun _=>bwithin_c _ _ _ _) ?_|refine d_fnQ (fun _=>hht _) ?_)<;>try first|omega|assumption)|(refine g_d ?_;(first|refine d_fnY (bisname_c _ _) ?_|refine d_fnY (radjustmentat_c ads _ hb2 _) ?_|refine d_fnY (hef _) ?_|refine d_fnY (bwithin_c _ _ _ _) ?_|refine d_fnY (hht _) ?_)<;>try first|omega|assumption)))
    all_goals(try(exfalso;omega))
    all_goals((refine r_es hQ ?_;try with_reducible rfl))
    all_goals(exact congrArg (V.int .i64) (fE_zero.2 hk2).symm)
end Go.Proofs.YtookikhphobnlaaGreatDoor
namespace Go.Proofs.YtookikhphobnlaaGreatDoor
open Go.RowKit
theorem getD_set(l:List Int)(k i:Nat)(v:Int):(l.set k v).getD i 0=if i=k∧k<l.length then v else l.getD i 0:=by
  rw [List.getD_eq_getElem?_getD,List.getElem?_set,List.getD_eq_getElem?_getD]
  by_cases h:k=i
  · subst h
    by_cases h2:k<l.length
    · rw [if_pos rfl,if_pos h2,if_pos ⟨rfl,h2⟩];rfl
    · rw [if_pos rfl,if_neg h2,if_neg (fun h=>h2 h.2),List.getElem?_eq_none (by omega)]
  · rw [if_neg h,if_neg (fun h2=>h h2.1.symm)]
/-- back from a place, as long as the most steps are there: the least ones instead -/
def crL(ads:List AdR):Nat→List Int→List Int×Option Nat
  |0,l=>(l,none)
  |k+1,l=>if l.getD k 0=(ads.getD k adz).most then crL ads k (l.set k (ads.getD k adz).least) else (l,some k)
theorem crL_succ(ads:List AdR)(k:Nat)(l:List Int):crL ads (k+1) l=if l.getD k 0=(ads.getD k adz).most then crL ads k (l.set k (ads.getD k adz).least) else (l,some k):=rfl
/-- the next steps -/
def nxA(ads:List AdR)(l:List Int):Option (List Int):=match crL ads ads.length l with
  |(l',some k)=>some (l'.set k (l'.getD k 0+1))
  |(_,none)=>none
def stOk(ads:List AdR)(l:List Int):Prop:=l.length=ads.length∧∀ i,i<ads.length→(ads.getD i adz).least≤l.getD i 0∧l.getD i 0≤(ads.getD i adz).most
theorem crL_some {ads:List AdR}:∀ {k:Nat} {l l':List Int} {j:Nat},k≤l.length→crL ads k l=(l',some j)→j<k∧l'.length=l.length∧l.getD j 0≠(ads.getD j adz).most∧(∀ i,i≤j→l'.getD i 0=l.getD i 0)∧(∀ i,j<i→i<k→l.getD i 0=(ads.getD i adz).most∧l'.getD i 0=(ads.getD i adz).least)∧∀ i,k≤i→l'.getD i 0=l.getD i 0
  |0,l,l',j,_,h=>by simp [crL] at h
  | k + 1,l,l',j,hk,h=>by
    unfold crL at h
    split at h
    · rename_i hm
      obtain⟨h1,h2,h3,h4,h5,h6⟩:=crL_some (by simp;omega) h
      have hs:=fun i=>getD_set l k i (ads.getD k adz).least
      refine⟨by omega,by rw [h2];simp,?_,fun i hi=>?_,fun i hi hik=>?_,fun i hi=>?_⟩
      · rw [hs,if_neg (by omega)] at h3;exact h3
      · rw [h4 i hi,hs,if_neg (by omega)]
      · rcases Nat.lt_or_ge i k with q|q
        · obtain⟨g1,g2⟩:=h5 i hi q
          rw [hs,if_neg (by omega)] at g1
          exact⟨g1,g2⟩
        · obtain rfl:i=k:=by omega
          refine⟨hm,?_⟩
          rw [h6 i (Nat.le_refl _),hs,if_pos ⟨rfl,by omega⟩]
      · rw [h6 i (by omega),hs,if_neg (by omega)]
    · rename_i hm
      injection h with e1 e2
      injection e2 with e2
      subst e1;subst e2
      exact⟨by omega,rfl,hm,fun _ _=>rfl,fun i h1 h2=>by omega,fun _ _=>rfl⟩
theorem nxA_ok{ads:List AdR}{l l2:List Int}(hl:stOk ads l)(hw:∀ i,i<ads.length→(ads.getD i adz).least≤(ads.getD i adz).most)(h:nxA ads l=some l2):stOk ads l2:=by
  unfold nxA at h
  split at h
  · rename_i l' k he
    injection h with h
    subst h
    obtain⟨h1,h2,h3,h4,h5,h6⟩:=crL_some (by rw [hl.1];exact Nat.le_refl _) he
    refine⟨by simp [h2,hl.1],fun i hi=>?_⟩
    rw [getD_set]
    have hb:=hl.2 i hi
    have hbw:=hw i hi
    split
    · rename_i hc
      obtain⟨rfl,_⟩:=hc
      rw [h4 i (Nat.le_refl _)]
      omega
    · rename_i hc
      rcases Nat.lt_trichotomy i k with q|q|q
      · rw [h4 i (by omega)];exact hb
      · exact absurd ⟨q,by rw [h2,hl.1];omega⟩ hc
      · rw [(h5 i q hi).2];omega
  · cases h
/-- how many steps are still to come -/
def rkK(ads:List AdR)(l:List Int):Nat→Nat
  |0=>0
  |k+1=>rkK ads l k * (((ads.getD k adz).most - (ads.getD k adz).least).toNat+1)+((ads.getD k adz).most - l.getD k 0).toNat
theorem rkK_same{ads:List AdR}{l l2:List Int}:∀ {k:Nat},(∀ i,i<k→l2.getD i 0=l.getD i 0)→rkK ads l2 k=rkK ads l k
  |0,_=>rfl
  |k+1,h=>by simp only [rkK];rw [rkK_same (k:=k) fun i hi=>h i (by omega),h k (by omega)]
theorem nxA_rank {ads:List AdR} {l l2:List Int} (hl:stOk ads l) (hw:∀ i,i<ads.length→(ads.getD i adz).least≤(ads.getD i adz).most) (h:nxA ads l=some l2):rkK ads l2 ads.length<rkK ads l ads.length:=by
  unfold nxA at h
  split at h
  · rename_i l' k he
    injection h with h
    subst h
    obtain⟨h1,h2,h3,h4,h5,h6⟩:=crL_some (by rw [hl.1];exact Nat.le_refl _) he
    have hg:∀ i,(l'.set k (l'.getD k 0+1)).getD i 0=if i=k then l.getD k 0+1 else l'.getD i 0:=fun i=>by
      rw [getD_set]
      by_cases hc:i=k
      · rw [if_pos ⟨hc,by rw [h2,hl.1];exact h1⟩,if_pos hc,h4 k (Nat.le_refl _)]
      · rw [if_neg (fun h=>hc h.1),if_neg hc]
    have key:∀ d,k+1+d≤ads.length→rkK ads (l'.set k (l'.getD k 0+1)) (k+1+d)+1≤rkK ads l (k+1+d):=by
      intro d
      induction d with
      | zero=>
        intro _
        have hb:=hl.2 k h1
        show rkK ads _ (k+1)+1≤rkK ads l (k+1)
        simp only [rkK]
        rw [rkK_same (l:=l) (k:=k) fun i hi=>by rw [hg,if_neg (by omega),h4 i (by omega)],hg,if_pos rfl]
        omega
      | succ d ih=>
        intro hd
        have ih:=ih (by omega)
        obtain⟨g1,g2⟩:=h5 (k+1+d) (by omega) (by omega)
        have hwk:=hw (k+1+d) (by omega)
        show rkK ads _ (k+1+d+1)+1≤rkK ads l (k+1+d+1)
        simp only [rkK]
        rw [hg (k+1+d),if_neg (by omega),g2,g1]
        generalize rkK ads (l'.set k (l'.getD k 0+1)) (k+1+d)=A at *
        generalize rkK ads l (k+1+d)=B at *
        generalize ((ads.getD (k+1+d) adz).most - (ads.getD (k+1+d) adz).least).toNat=w at *
        have:=Nat.mul_le_mul_right (w+1) ih
        rw [Nat.add_mul] at this
        omega
    have:=key (ads.length - (k+1)) (by omega)
    rw [show k+1+(ads.length - (k+1))=ads.length by omega] at this
    omega
  · cases h
def lstL(ads:List AdR):List Int:=ads.map AdR.least
theorem lstL_get{ads:List AdR}{i:Nat}(h:i<ads.length):(lstL ads).getD i 0=(ads.getD i adz).least:=by
  unfold lstL
  rw [List.getD_eq_getElem?_getD,List.getElem?_map,lst_get (d:=adz) h];rfl
theorem lstL_ok{ads:List AdR}(hw:∀ i,i<ads.length→(ads.getD i adz).least≤(ads.getD i adz).most):stOk ads (lstL ads):=
  ⟨by simp [lstL],fun i hi=>by rw [lstL_get hi];exact⟨Int.le_refl _,hw i hi⟩⟩
/-- .. of which the first ones are there, 0 behind them -/
def filL(ads:List AdR)(i:Nat):List Int:=(List.range ads.length).map fun k=>if k<i then (ads.getD k adz).least else 0
theorem filL_length(ads:List AdR)(i:Nat):(filL ads i).length=ads.length:=by simp [filL]
theorem filL_zero(ads:List AdR):nsV (filL ads 0)=List.replicate ads.length [V.int .i64 0]:=by
  unfold nsV filL
  rw [List.map_map]
  refine List.ext_getElem (by simp) fun i h1 h2=>?_
  simp
theorem filL_all(ads:List AdR):filL ads ads.length=lstL ads:=by
  unfold filL lstL
  refine List.ext_getElem (by simp) fun i h1 h2=>?_
  have hi:i<ads.length:=by simpa using h1
  simp only [List.getElem_map,List.getElem_range,if_pos hi]
  rw [List.getD_eq_getElem?_getD,List.getElem?_eq_getElem hi];rfl
theorem filL_succ{ads:List AdR}{i:Nat}(hi:i<ads.length):filL ads (i+1)=(filL ads i).set i (ads.getD i adz).least:=by
  refine List.ext_getElem (by simp [filL]) fun j h1 h2=>?_
  rw [List.getElem_set]
  simp only [filL,List.getElem_map,List.getElem_range]
  by_cases h:i=j
  · subst h;rw [if_pos rfl,if_pos (by omega)]
  · rw [if_neg h]
    by_cases h3:j<i
    · rw [if_pos (by omega),if_pos h3]
    · rw [if_neg (by omega),if_neg h3]
/-- the best steps up to now -/
structure Bst where
  f:Bool
  l:List Int
  p:Int
  q:Int
def orI(a b:Int):Int:=if a≠0 then a else b
def updB(b:BnR)(l:List Int)(s:Bst):Bst:=if (s.f=true∧0≤orI (cmpI (pasK b.ads l b.ads.length) s.p) (cmpI (sumA l b.ads.length) s.q))∨brkP b l b.ms.length≠[] then s else ⟨true,l,pasK b.ads l b.ads.length,sumA l b.ads.length⟩
def fwF (b:BnR):Nat→List Int→Bst→Bst
  |0,_,s=>s
  | n+1,l,s=>match nxA b.ads l with
    |none=>updB b l s
    |some l'=>fwF b n l' (updB b l s)
/-- .. of all -/
def fwB(b:BnR):Bst:=fwF b (rkK b.ads (lstL b.ads) b.ads.length+1) (lstL b.ads) ⟨false,[],0,0⟩
def trK(ads:List AdR):Nat→Int
  |0=>1
  |k+1=>trK ads k * ((ads.getD k adz).most - (ads.getD k adz).least+1)
end Go.Proofs.YtookikhphobnlaaGreatDoor
