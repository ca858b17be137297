/- contracts: where a girder is bent most, in the reference -/
import Derived.Test.YtppbjbfilkileaaGAI
import Derived.Test.YtppbjbfilkileaaW1
set_option linter.unusedSimpArgs false
set_option linter.unusedVariables false
namespace Go.Proofs.Ytppbjbfilkileaa
open Go.RowKit
attribute [local irreducible] WA WOs WDs WAn qThen qBlock tput
set_option maxHeartbeats 1000000
set_option maxRecDepth 20000
set_option linter.unusedSimpArgs false
set_option linter.unusedVariables false
set_option maxHeartbeats 4000000
theorem rben_c(a b w:Int)(ls:List Ld)(h:BeamOk a b ls)(x:Int)(hx:a≤x∧x≤b)(m:Mem):Gives Try.prog 27 [.agg [.int .i64 a,.int .i64 b,.int .i64 w],.lst (ldsV ls),.int .i64 x] m (.int .i64 (benA a b ls x)):=rbend0_c a b w ls h x hx _ rfl m
theorem uW4_11_10{N:Nat}{l:List Oper}{t:List (Nat×V)}{m:Mem}{Q:Exit→List (Nat×V)→Mem→Prop}(h:RgN Try.prog N l t m Q (fun i=>if i==2 || i==5 || i==6 || i==7 || i==10 || i==11 then .q else .p) [.one 0,.one 1,.one 2,.one 3,.one 4,.one 5,.one 6,.one 7,.one 8,.one 9,.one 10,.one 11,.one 12,.one 13]):WA Try.prog N (.region 10 l.toArray true) t m Q:=d_rgN h
theorem rworst_c (a b w:Int) (ls:List Ld) (hB:BeamOk a b ls) (at0:Int) (hat:IsW a b ls at0) (m:Mem):Gives Try.prog 11 [.agg [.int .i64 a,.int .i64 b,.int .i64 w],.lst (ldsV ls)] m (.tup [.int .i64 at0,.agg [.int .i64 (lowF (benA a b ls at0) (b - a)).1,.int .i64 (lowF (benA a b ls at0) (b - a)).2]]):=by
  have hla:(ldsV ls).length=ls.length:=ldsV_length
  have hl100:=hB.hl
  have ha:=hB.ha
  have hb:=hB.hb
  have hab:=hB.hab
  have hga:=hla
  have hlo:=hla
  have hrb:=hla
  have hry:=hla
  have hain:=isW_in hB hat
  have hbd:=fun x hx=>benA_bd hB (x:=x) hx
  have hfin:=fun m=>rbend_c a b w ls hB at0 hain (benA a b ls at0) rfl m
  generalize hR:lowF (benA a b ls at0) (b - a)=R at *
  obtain⟨R1,R2⟩:=R
  dsimp only at hfin ⊢
  refine Gives_in Try.func11 rfl Try.ntmps11 Try.results11 (by kernel_rfl) (by simp) rfl fun Q hQ=>?_
  (have FX:=And.intro hla (And.intro hga hlo);repeat'(first|(refine sx ?_ ?_<;>intro h<;>first|(exfalso;omega)|skip)|(refine g_op ?_;refine g_call ?_;refine g_args ?_;(first|refine s_fn (abs_c _ ?_ ?_ _) ?_|refine s_fn (hrb _) ?_|refine s_fn (hry _) ?_|refine s_fn (hfin _) ?_)<;>try first|omega|assumption)|refine ny ?_|refine WA_block ?_|(refine uW4_11_10 ?_;refine⟨by kernel_rfl,?_⟩)|((first|refine grp_cons (fun _=>abs_c _ ?_ ?_ _) ?_|refine grp_cons (fun _=>hrb _) ?_|refine grp_cons (fun _=>hry _) ?_|refine grp_cons (fun _=>hfin _) ?_)<;>try first|omega|assumption)|(refine g_d ?_;refine d_args ?_;(first|refine d_fn (abs_c _ ?_ ?_ _) ?_|refine d_fn (hrb _) ?_|refine d_fn (hry _) ?_|refine d_fn (hfin _) ?_|refine d_fnQ (fun _=>abs_c _ ?_ ?_ _) ?_|refine d_fnQ (fun _=>hrb _) ?_|refine d_fnQ (fun _=>hry _) ?_|refine d_fnQ (fun _=>hfin _) ?_)<;>try first|omega|assumption)|(refine g_d ?_;(first|refine d_fnY (abs_c _ ?_ ?_ _) ?_|refine d_fnY (hrb _) ?_|refine d_fnY (hry _) ?_|refine d_fnY (hfin _) ?_)<;>try first|omega|assumption)))
  refine WA_whileK (σ:=Nat×Int) [1,2,5,6,7] (fun s=>[.lst (ldsV ls),.ptr (lend m).length 0 0,.ptr ((lend m).length+1) 0 0,.int .i64 s.2,.int .i64 (a+s.1)]) (fun _=>[.cells .own 23 3 [[.int .i64 a,.int .i64 b,.int .i64 w]],.cells .own 29 2 [[.int .i64 0,.int .i64 0]]]) 2 (fun s=>(s.1:Int)≤b - a+1∧rWI a b ls (a+s.1) s.2) (fun s=>(b - a+1).toNat - s.1) (0,a) ⟨by dsimp only;omega,by simpa using rWI_start hB⟩ (by simp only [Int.natCast_zero,Int.add_zero];exact tv_) rfl (fun _=>rfl) (by intro s s' _ _;simp [conS,V.keeps,V.plain,V.flat,flatL]) (by intro s s' _ _;simp [conB,Blk.flat,flatL,V.flat,plainL,V.plain]) ?_
  rintro⟨k,at_⟩ ⟨hk1,hw⟩ K hK
  dsimp only at hk1 hw
  simp only [zipT]
  clear FX
  have hai:=hw.1
  by_cases hkb:(k:Int)≤b - a
  · have hxin:a≤a+(k:Int)∧a+(k:Int)≤b:=by omega
    (have FX:=And.intro hla (And.intro hga hlo);repeat'(first|(refine sx ?_ ?_<;>intro h<;>first|(exfalso;omega)|skip)|(refine g_op ?_;refine g_call ?_;refine g_args ?_;(first|refine s_fn (abs_c _ ?_ ?_ _) ?_|refine s_fn (hrb _) ?_|refine s_fn (hry _) ?_|refine s_fn (hfin _) ?_)<;>try first|omega|assumption)|refine ny ?_|refine WA_block ?_|(refine uW4_11_10 ?_;refine⟨by kernel_rfl,?_⟩)|((first|refine grp_cons (fun _=>abs_c _ ?_ ?_ _) ?_|refine grp_cons (fun _=>hrb _) ?_|refine grp_cons (fun _=>hry _) ?_|refine grp_cons (fun _=>hfin _) ?_)<;>try first|omega|assumption)|(refine g_d ?_;refine d_args ?_;(first|refine d_fn (abs_c _ ?_ ?_ _) ?_|refine d_fn (hrb _) ?_|refine d_fn (hry _) ?_|refine d_fn (hfin _) ?_|refine d_fnQ (fun _=>abs_c _ ?_ ?_ _) ?_|refine d_fnQ (fun _=>hrb _) ?_|refine d_fnQ (fun _=>hry _) ?_|refine d_fnQ (fun _=>hfin _) ?_)<;>try first|omega|assumption)|(refine g_d ?_;(first|refine d_fnY (abs_c _ ?_ ?_ _) ?_|refine d_fnY (hrb _) ?_|refine d_fnY (hry _) ?_|refine d_fnY (hfin _) ?_)<;>try first|omega|assumption)))
    all_goals(try(exfalso;omega))
    clear FX
    refine WA_whileK (σ:=Nat) [1,2,5,6,7,8,9] (fun i=>[.lst (ldsV ls),.ptr (lend m).length 0 0,.ptr ((lend m).length+1) 0 0,.int .i64 at_,.int .i64 (a+k),.bool (lde ls (a+k) i),.int .i64 i]) (fun _=>[.cells .own 23 3 [[.int .i64 a,.int .i64 b,.int .i64 w]],.cells .own 29 2 [[.int .i64 0,.int .i64 0]]]) 2 (fun i=>i≤ls.length) (fun i=>ls.length - i) 0 (Nat.zero_le _) tv_ rfl (fun _=>rfl) (by intro s s' _ _;simp [conS,V.keeps,V.plain,V.flat,flatL]) (by intro s s' _ _;simp [conB,Blk.flat,flatL,V.flat,plainL,V.plain]) ?_
    rintro i hi1 K2 hK2
    simp only [zipT]
    rcases Nat.lt_or_ge i ls.length with hi|hi
    · have hga:=lds_get hi
      have hde:lde ls (a+k) (i+1)=(lde ls (a+k) i || decide ((ls.getD i ld0).1=a+k)):=rfl
      have hnx:=hK2 (i+1)
      rw [hde] at hnx
      have hny:=fun(_:Unit)=>hnx
      clear hK2 hnx hde
      generalize ls.getD i ld0=x at *
      obtain⟨px,pw⟩:=x
      unfold ldV at hga
      dsimp only at hga hny
      generalize lde ls (a+k) i=d at *
      cases d with
      | true=>
        (have FX:=And.intro hla (And.intro hga hlo);repeat'(first|(refine sx ?_ ?_<;>intro h<;>first|(exfalso;omega)|skip)|(refine g_op ?_;refine g_call ?_;refine g_args ?_;(first|refine s_fn (abs_c _ ?_ ?_ _) ?_|refine s_fn (hrb _) ?_|refine s_fn (hry _) ?_|refine s_fn (hfin _) ?_)<;>try first|omega|assumption)|refine ny ?_|refine WA_block ?_|(refine uW4_11_10 ?_;refine⟨by kernel_rfl,?_⟩)|((first|refine grp_cons (fun _=>abs_c _ ?_ ?_ _) ?_|refine grp_cons (fun _=>hrb _) ?_|refine grp_cons (fun _=>hry _) ?_|refine grp_cons (fun _=>hfin _) ?_)<;>try first|omega|assumption)|(refine g_d ?_;refine d_args ?_;(first|refine d_fn (abs_c _ ?_ ?_ _) ?_|refine d_fn (hrb _) ?_|refine d_fn (hry _) ?_|refine d_fn (hfin _) ?_|refine d_fnQ (fun _=>abs_c _ ?_ ?_ _) ?_|refine d_fnQ (fun _=>hrb _) ?_|refine d_fnQ (fun _=>hry _) ?_|refine d_fnQ (fun _=>hfin _) ?_)<;>try first|omega|assumption)|(refine g_d ?_;(first|refine d_fnY (abs_c _ ?_ ?_ _) ?_|refine d_fnY (hrb _) ?_|refine d_fnY (hry _) ?_|refine d_fnY (hfin _) ?_)<;>try first|omega|assumption)))
        all_goals(try(exfalso;omega))
        all_goals(refine nextL_ hny () hi (by omega))
      | false=>
        (have FX:=And.intro hla (And.intro hga hlo);repeat'(first|(refine sx ?_ ?_<;>intro h<;>first|(exfalso;omega)|skip)|(refine g_op ?_;refine g_call ?_;refine g_args ?_;(first|refine s_fn (abs_c _ ?_ ?_ _) ?_|refine s_fn (hrb _) ?_|refine s_fn (hry _) ?_|refine s_fn (hfin _) ?_)<;>try first|omega|assumption)|refine ny ?_|refine WA_block ?_|(refine uW4_11_10 ?_;refine⟨by kernel_rfl,?_⟩)|((first|refine grp_cons (fun _=>abs_c _ ?_ ?_ _) ?_|refine grp_cons (fun _=>hrb _) ?_|refine grp_cons (fun _=>hry _) ?_|refine grp_cons (fun _=>hfin _) ?_)<;>try first|omega|assumption)|(refine g_d ?_;refine d_args ?_;(first|refine d_fn (abs_c _ ?_ ?_ _) ?_|refine d_fn (hrb _) ?_|refine d_fn (hry _) ?_|refine d_fn (hfin _) ?_|refine d_fnQ (fun _=>abs_c _ ?_ ?_ _) ?_|refine d_fnQ (fun _=>hrb _) ?_|refine d_fnQ (fun _=>hry _) ?_|refine d_fnQ (fun _=>hfin _) ?_)<;>try first|omega|assumption)|(refine g_d ?_;(first|refine d_fnY (abs_c _ ?_ ?_ _) ?_|refine d_fnY (hrb _) ?_|refine d_fnY (hry _) ?_|refine d_fnY (hfin _) ?_)<;>try first|omega|assumption)))
        all_goals(try(exfalso;omega))
        all_goals(refine nextL_ hny () hi (by omega) (ht:=?_))
        all_goals first
          |(rw [decide_eq_true (show px=a+(k:Int) by assumption),Bool.false_or];exact tv_)
          |(rw [decide_eq_false (show ¬ px=a+(k:Int) by assumption),Bool.false_or];exact tv_)
    · obtain rfl:i=ls.length:=by omega
      have hga:=hla
      clear hK2
      have hcs:a+((k+1:Nat):Int)=a+(k:Int)+1:=by omega
      have hyes:=rWI_yes hw hxin
      have hno:=rWI_no hw
      have hb1:=hbd _ hxin
      have hb2:=hbd _ hai
      have hrb:=fun m=>rben_c a b w ls hB (a+k) hxin m
      have hry:=fun m=>rben_c a b w ls hB at_ hai m
      generalize benA a b ls (a+k)=bx at *
      generalize benA a b ls at_=ba at *
      cases hd:lde ls (a+k) ls.length with
      | true =>
        have hyes:=hyes hd
        have hno:=fun q=>hno (fun _=>q)
        (have FX:=And.intro hla (And.intro hga hlo);repeat'(first|(refine sx ?_ ?_<;>intro h<;>first|(exfalso;omega)|skip)|(refine g_op ?_;refine g_call ?_;refine g_args ?_;(first|refine s_fn (abs_c _ ?_ ?_ _) ?_|refine s_fn (hrb _) ?_|refine s_fn (hry _) ?_|refine s_fn (hfin _) ?_)<;>try first|omega|assumption)|refine ny ?_|refine WA_block ?_|(refine uW4_11_10 ?_;refine⟨by kernel_rfl,?_⟩)|((first|refine grp_cons (fun _=>abs_c _ ?_ ?_ _) ?_|refine grp_cons (fun _=>hrb _) ?_|refine grp_cons (fun _=>hry _) ?_|refine grp_cons (fun _=>hfin _) ?_)<;>try first|omega|assumption)|(refine g_d ?_;refine d_args ?_;(first|refine d_fn (abs_c _ ?_ ?_ _) ?_|refine d_fn (hrb _) ?_|refine d_fn (hry _) ?_|refine d_fn (hfin _) ?_|refine d_fnQ (fun _=>abs_c _ ?_ ?_ _) ?_|refine d_fnQ (fun _=>hrb _) ?_|refine d_fnQ (fun _=>hry _) ?_|refine d_fnQ (fun _=>hfin _) ?_)<;>try first|omega|assumption)|(refine g_d ?_;(first|refine d_fnY (abs_c _ ?_ ?_ _) ?_|refine d_fnY (hrb _) ?_|refine d_fnY (hry _) ?_|refine d_fnY (hfin _) ?_)<;>try first|omega|assumption)))
        all_goals(try(exfalso;omega))
        all_goals first
          | (refine nextL_ hK (k+1,a+(k:Int)) ⟨by dsimp only;omega,by dsimp only;rw [hcs];exact hyes (by omega)⟩ (by dsimp only;omega) (ht:=?_)
             simp only [hcs]
             exact tv_)
          | (refine nextL_ hK (k+1,at_) ⟨by dsimp only;omega,by dsimp only;rw [hcs];exact hno (by omega)⟩ (by dsimp only;omega) (ht:=?_)
             simp only [hcs]
             exact tv_)
      | false=>
        have hno:=hno (fun q=>by rw [hd] at q;cases q)
        (have FX:=And.intro hla (And.intro hga hlo);repeat'(first|(refine sx ?_ ?_<;>intro h<;>first|(exfalso;omega)|skip)|(refine g_op ?_;refine g_call ?_;refine g_args ?_;(first|refine s_fn (abs_c _ ?_ ?_ _) ?_|refine s_fn (hrb _) ?_|refine s_fn (hry _) ?_|refine s_fn (hfin _) ?_)<;>try first|omega|assumption)|refine ny ?_|refine WA_block ?_|(refine uW4_11_10 ?_;refine⟨by kernel_rfl,?_⟩)|((first|refine grp_cons (fun _=>abs_c _ ?_ ?_ _) ?_|refine grp_cons (fun _=>hrb _) ?_|refine grp_cons (fun _=>hry _) ?_|refine grp_cons (fun _=>hfin _) ?_)<;>try first|omega|assumption)|(refine g_d ?_;refine d_args ?_;(first|refine d_fn (abs_c _ ?_ ?_ _) ?_|refine d_fn (hrb _) ?_|refine d_fn (hry _) ?_|refine d_fn (hfin _) ?_|refine d_fnQ (fun _=>abs_c _ ?_ ?_ _) ?_|refine d_fnQ (fun _=>hrb _) ?_|refine d_fnQ (fun _=>hry _) ?_|refine d_fnQ (fun _=>hfin _) ?_)<;>try first|omega|assumption)|(refine g_d ?_;(first|refine d_fnY (abs_c _ ?_ ?_ _) ?_|refine d_fnY (hrb _) ?_|refine d_fnY (hry _) ?_|refine d_fnY (hfin _) ?_)<;>try first|omega|assumption)))
        all_goals(try(exfalso;omega))
        all_goals(refine nextL_ hK (k+1,at_) ⟨by dsimp only;omega,by dsimp only;rw [hcs];exact hno⟩ (by dsimp only;omega) (ht:=?_))
        all_goals(simp only [hcs];exact tv_)
  · have hke:a+(k:Int)=b+1:=by omega
    rw [hke] at hw
    clear hK
    have hsome:=rWI_some hB hw
    have hnone:=rWI_none hB hw
    have hb2:=hbd _ hai
    have hry:=fun m=>rben_c a b w ls hB at_ hai m
    generalize hba:benA a b ls at_=ba at *
    by_cases hz:ls=[]∨ba≠0
    · have he:=isW_uniq (hsome hz) hat
      subst he
      have hz2:ls.length=0∨ba≠0:=hz.imp (fun q=>by rw [q];rfl) id
      (have FX:=And.intro hla (And.intro hga hlo);repeat'(first|(refine sx ?_ ?_<;>intro h<;>first|(exfalso;omega)|skip)|(refine g_op ?_;refine g_call ?_;refine g_args ?_;(first|refine s_fn (abs_c _ ?_ ?_ _) ?_|refine s_fn (hrb _) ?_|refine s_fn (hry _) ?_|refine s_fn (hfin _) ?_)<;>try first|omega|assumption)|refine ny ?_|refine WA_block ?_|(refine uW4_11_10 ?_;refine⟨by kernel_rfl,?_⟩)|((first|refine grp_cons (fun _=>abs_c _ ?_ ?_ _) ?_|refine grp_cons (fun _=>hrb _) ?_|refine grp_cons (fun _=>hry _) ?_|refine grp_cons (fun _=>hfin _) ?_)<;>try first|omega|assumption)|(refine g_d ?_;refine d_args ?_;(first|refine d_fn (abs_c _ ?_ ?_ _) ?_|refine d_fn (hrb _) ?_|refine d_fn (hry _) ?_|refine d_fn (hfin _) ?_|refine d_fnQ (fun _=>abs_c _ ?_ ?_ _) ?_|refine d_fnQ (fun _=>hrb _) ?_|refine d_fnQ (fun _=>hry _) ?_|refine d_fnQ (fun _=>hfin _) ?_)<;>try first|omega|assumption)|(refine g_d ?_;(first|refine d_fnY (abs_c _ ?_ ?_ _) ?_|refine d_fnY (hrb _) ?_|refine d_fnY (hry _) ?_|refine d_fnY (hfin _) ?_)<;>try first|omega|assumption)))
      all_goals(try(exfalso;omega))
      all_goals(refine r_es hQ ?_;try with_reducible rfl)
    · have hne:ls≠[]:=fun q=>hz (.inl q)
      have hl1:1≤ls.length:=List.length_pos_iff.2 hne
      have hz0:ba=0:=Classical.byContradiction fun q=>hz (.inr q)
      have he:=isW_uniq (hnone hne hz0) hat
      (have FX:=And.intro hla (And.intro hga hlo);repeat'(first|(refine sx ?_ ?_<;>intro h<;>first|(exfalso;omega)|skip)|(refine g_op ?_;refine g_call ?_;refine g_args ?_;(first|refine s_fn (abs_c _ ?_ ?_ _) ?_|refine s_fn (hrb _) ?_|refine s_fn (hry _) ?_|refine s_fn (hfin _) ?_)<;>try first|omega|assumption)|refine ny ?_|refine WA_block ?_|(refine uW4_11_10 ?_;refine⟨by kernel_rfl,?_⟩)|((first|refine grp_cons (fun _=>abs_c _ ?_ ?_ _) ?_|refine grp_cons (fun _=>hrb _) ?_|refine grp_cons (fun _=>hry _) ?_|refine grp_cons (fun _=>hfin _) ?_)<;>try first|omega|assumption)|(refine g_d ?_;refine d_args ?_;(first|refine d_fn (abs_c _ ?_ ?_ _) ?_|refine d_fn (hrb _) ?_|refine d_fn (hry _) ?_|refine d_fn (hfin _) ?_|refine d_fnQ (fun _=>abs_c _ ?_ ?_ _) ?_|refine d_fnQ (fun _=>hrb _) ?_|refine d_fnQ (fun _=>hry _) ?_|refine d_fnQ (fun _=>hfin _) ?_)<;>try first|omega|assumption)|(refine g_d ?_;(first|refine d_fnY (abs_c _ ?_ ?_ _) ?_|refine d_fnY (hrb _) ?_|refine d_fnY (hry _) ?_|refine d_fnY (hfin _) ?_)<;>try first|omega|assumption)))
      all_goals(try(exfalso;omega))
      clear FX
      refine WA_whileK (σ:=Nat) [1,2,5,6,10] (fun i=>[.lst (ldsV ls),.ptr (lend m).length 0 0,.ptr ((lend m).length+1) 0 0,.int .i64 (mnL b ls i),.int .i64 i]) (fun _=>[.cells .own 23 3 [[.int .i64 a,.int .i64 b,.int .i64 w]],.cells .own 29 2 [[.int .i64 0,.int .i64 0]]]) 2 (fun i=>i≤ls.length) (fun i=>ls.length - i) 0 (Nat.zero_le _) tv_ rfl (fun _=>rfl) (by intro s s' _ _;simp [conS,V.keeps,V.plain,V.flat,flatL]) (by intro s s' _ _;simp [conB,Blk.flat,flatL,V.flat,plainL,V.plain]) ?_
      rintro i hi1 K2 hK2
      simp only [zipT]
      rcases Nat.lt_or_ge i ls.length with hi|hi
      · have hga:=lds_get hi
        have hde:mnL b ls (i+1)=if (ls.getD i ld0).1<mnL b ls i then (ls.getD i ld0).1 else mnL b ls i:=rfl
        have hnx:=hK2 (i+1)
        rw [hde] at hnx
        have hny:=fun(_:Unit)=>hnx
        clear hK2 hnx hde
        generalize ls.getD i ld0=x at *
        generalize mnL b ls i=mi at *
        obtain⟨px,pw⟩:=x
        unfold ldV at hga
        dsimp only at hga hny
        (have FX:=And.intro hla (And.intro hga hlo);repeat'(first|(refine sx ?_ ?_<;>intro h<;>first|(exfalso;omega)|skip)|(refine g_op ?_;refine g_call ?_;refine g_args ?_;(first|refine s_fn (abs_c _ ?_ ?_ _) ?_|refine s_fn (hrb _) ?_|refine s_fn (hry _) ?_|refine s_fn (hfin _) ?_)<;>try first|omega|assumption)|refine ny ?_|refine WA_block ?_|(refine uW4_11_10 ?_;refine⟨by kernel_rfl,?_⟩)|((first|refine grp_cons (fun _=>abs_c _ ?_ ?_ _) ?_|refine grp_cons (fun _=>hrb _) ?_|refine grp_cons (fun _=>hry _) ?_|refine grp_cons (fun _=>hfin _) ?_)<;>try first|omega|assumption)|(refine g_d ?_;refine d_args ?_;(first|refine d_fn (abs_c _ ?_ ?_ _) ?_|refine d_fn (hrb _) ?_|refine d_fn (hry _) ?_|refine d_fn (hfin _) ?_|refine d_fnQ (fun _=>abs_c _ ?_ ?_ _) ?_|refine d_fnQ (fun _=>hrb _) ?_|refine d_fnQ (fun _=>hry _) ?_|refine d_fnQ (fun _=>hfin _) ?_)<;>try first|omega|assumption)|(refine g_d ?_;(first|refine d_fnY (abs_c _ ?_ ?_ _) ?_|refine d_fnY (hrb _) ?_|refine d_fnY (hry _) ?_|refine d_fnY (hfin _) ?_)<;>try first|omega|assumption)))
        all_goals(try(exfalso;omega))
        all_goals(refine nextL_ hny () hi (by omega))
      · obtain rfl:i=ls.length:=by omega
        have hga:=hla
        rw [he]
        (have FX:=And.intro hla (And.intro hga hlo);repeat'(first|(refine sx ?_ ?_<;>intro h<;>first|(exfalso;omega)|skip)|(refine g_op ?_;refine g_call ?_;refine g_args ?_;(first|refine s_fn (abs_c _ ?_ ?_ _) ?_|refine s_fn (hrb _) ?_|refine s_fn (hry _) ?_|refine s_fn (hfin _) ?_)<;>try first|omega|assumption)|refine ny ?_|refine WA_block ?_|(refine uW4_11_10 ?_;refine⟨by kernel_rfl,?_⟩)|((first|refine grp_cons (fun _=>abs_c _ ?_ ?_ _) ?_|refine grp_cons (fun _=>hrb _) ?_|refine grp_cons (fun _=>hry _) ?_|refine grp_cons (fun _=>hfin _) ?_)<;>try first|omega|assumption)|(refine g_d ?_;refine d_args ?_;(first|refine d_fn (abs_c _ ?_ ?_ _) ?_|refine d_fn (hrb _) ?_|refine d_fn (hry _) ?_|refine d_fn (hfin _) ?_|refine d_fnQ (fun _=>abs_c _ ?_ ?_ _) ?_|refine d_fnQ (fun _=>hrb _) ?_|refine d_fnQ (fun _=>hry _) ?_|refine d_fnQ (fun _=>hfin _) ?_)<;>try first|omega|assumption)|(refine g_d ?_;(first|refine d_fnY (abs_c _ ?_ ?_ _) ?_|refine d_fnY (hrb _) ?_|refine d_fnY (hry _) ?_|refine d_fnY (hfin _) ?_)<;>try first|omega|assumption)))
        all_goals(try(exfalso;omega))
        all_goals(refine r_es hQ ?_;try with_reducible rfl)
end Go.Proofs.Ytppbjbfilkileaa
