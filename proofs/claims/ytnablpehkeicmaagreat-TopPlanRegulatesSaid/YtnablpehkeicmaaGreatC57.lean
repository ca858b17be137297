/- contracts: orders of events -/
import Derived.Test.YtnablpehkeicmaaGreatGAV
import Derived.Test.YtnablpehkeicmaaGreatGAU
set_option linter.unusedSimpArgs false
set_option linter.unusedVariables false
namespace Go.Proofs.YtnablpehkeicmaaGreat
open Go.RowKit
attribute [local irreducible] WA WOs WDs WAn qThen qBlock tput
set_option maxHeartbeats 1000000
set_option maxRecDepth 20000
set_option linter.unusedSimpArgs false
set_option linter.unusedVariables false
attribute [local irreducible] smB cut sm
theorem odE_some{a:ActR}{o:Nms}{g:Int}{i:Nat}{x:Rat}{e:Int}(h:evtP a (enN a (nmAt o i))=(some x,e)):odErrAt a o g i=(if 0<i∧tn x (odDip a o (i - 1)) g=true then 9 else 0)∧odDip a o i=x:=by
  unfold odErrAt odDip
  rw [h]
  exact⟨rfl,rfl⟩
theorem odE_none{a:ActR}{o:Nms}{g:Int}{i:Nat}{e:Int}(h:evtP a (enN a (nmAt o i))=(none,e)):odErrAt a o g i=e:=by
  unfold odErrAt
  rw [h]
theorem odE_prev{a:ActR}{o:Nms}{g:Int}{i:Nat}(h:odErrAt a o g i=0):evtP a (enN a (nmAt o i))=(some (odDip a o i),0):=by
  rcases evtP_code a (enN a (nmAt o i)) with ⟨x,hx⟩|hx|hx
  · rw [hx,(odE_some (g:=g) hx).2]
  · rw [odE_none hx] at h;cases h
  · rw [odE_none hx] at h;cases h
def bfV(a:ActR)(o:Nms):Nat→List V
  |0=>[.int .i64 0,.int .i64 0]
  |k+1=>[.int .i64 (odDip a o k).num,.int .i64 ((odDip a o k).den:Int)]
theorem txV_take(o:Nms)(n:Nat):(txV o).take n=txV (o.take n):=by unfold txV;rw [List.map_take]
theorem txV_o1{o:Nms}{n:Nat}(h:n=1):(txV o).all (fun e=>e.length==n)=true:=by subst h;simp [txV]
def odV(a:ActR)(o:Nms)(g:Int):V:= .tup [.int .i64 (odErr a o g).1,.int .i64 (odErr a o g).2]
theorem odV_big{a:ActR}{o:Nms}{g:Int}(h:20<o.length):odV a o g= .tup [.int .i64 0,.int .i64 8]:=by unfold odV odErr;rw [if_pos h]
theorem odV_on{a:ActR}{o:Nms}{g:Int}(h:¬ 20<o.length){i:Nat}{e:Int}(hi:i<o.length)(h0:∀ j,j<i→onErrAt a o j=0)(h1:onErrAt a o i=e)(he:e≠0):odV a o g= .tup [.int .i64 (i:Int),.int .i64 e]:=by
  have hf:=firstP_at h0 h1 he hi
  unfold odV odErr
  rw [if_neg h,if_pos (by rw [hf];exact he),hf]
theorem odV_gap{a:ActR}{o:Nms}{g:Int}(h:¬ 20<o.length)(h0:∀ j,j<o.length→onErrAt a o j=0)(hg:¬ (0≤g∧g≤2000)):odV a o g= .tup [.int .i64 0,.int .i64 2]:=by
  have hf:=firstP_zero h0
  unfold odV odErr
  rw [if_neg h,if_neg (by rw [hf];simp),if_pos hg]
theorem odV_od{a:ActR}{o:Nms}{g:Int}(h:¬ 20<o.length)(h0:∀ j,j<o.length→onErrAt a o j=0)(hg:0≤g∧g≤2000){i:Nat}{e:Int}(hi:i<o.length)(h1:∀ j,j<i→odErrAt a o g j=0)(h2:odErrAt a o g i=e)(he:e≠0):odV a o g= .tup [.int .i64 (i:Int),.int .i64 e]:=by
  have hf:=firstP_zero h0
  have hf2:=firstP_at h1 h2 he hi
  unfold odV odErr
  rw [if_neg h,if_neg (by rw [hf];simp),if_neg (by omega),hf2]
theorem odV_ok{a:ActR}{o:Nms}{g:Int}(h:¬ 20<o.length)(h0:∀ j,j<o.length→onErrAt a o j=0)(hg:0≤g∧g≤2000)(h1:∀ j,j<o.length→odErrAt a o g j=0):odV a o g= .tup [.int .i64 0,.int .i64 0]:=by
  have hf:=firstP_zero h0
  have hf2:=firstP_zero h1
  unfold odV odErr
  rw [if_neg h,if_neg (by rw [hf];simp),if_neg (by omega),hf2]
theorem onE_zero{a:ActR}{o:Nms}{i:Nat}(h:onErrAt a o i=0):¬ enI a (nmAt o i)<0:=by
  unfold onErrAt at h
  intro h1
  rw [if_pos h1] at h;cases h
theorem uC57_31_20{N:Nat}{l:List Oper}{t:List (Nat×V)}{m:Mem}{Q:Exit→List (Nat×V)→Mem→Prop}(h:RgN Tryz.prog N l t m Q (fun i=>if i==10 then .f else if i==9 then .a else if i==0 || i==2 || i==4 || i==5 then .q else .p) [.one 0,.one 1,.one 2,.one 3,.one 4,.one 5,.one 6,.one 7,.one 8,.one 9,.one 10,.one 11]):WA Tryz.prog N (.region 20 l.toArray true) t m Q:=d_rgN h
theorem acheckorder_c (a:ActR) (ha:Lt a) (o:Nms) (g:Int) (hol:o.length≤1000) (m:Mem):Gives Tryz.prog 31 [.agg (actV a),.lst (txV o),.int .i64 g] m (if acErr a≠0 then .tup [.int .i64 0,.int .i64 (acErr a)] else odV a o g):=by
  have hlo:=txV_length (o:=o)
  have hgo:=hlo
  have hal:=hlo
  by_cases hac:acErr a=0
  · rw [if_neg (by omega)]
    have hx0:=hac
    unfold actV
    by_cases h20:20<o.length
    · rw [odV_big h20]
      have hgo:=h20
      refine Gives_in Tryz.func31 rfl Tryz.ntmps31 Tryz.results31 (by kernel_rfl) (by simp) rfl fun Q hQ=>?_
      (have FX:=fx4 hlo hx0 hgo hal;repeat'(first|(refine sx ?_ ?_<;>intro h<;>first|(exfalso;omega)|skip)|(refine na ?_;(first|refine nb (acheckaction_c a ha) ?_)<;>try first|omega|assumption)|refine ny ?_|refine WA_block ?_|(refine uC57_31_20 ?_;refine⟨by kernel_rfl,?_⟩)|(refine g_d ?_;(first|refine d_fnY (acheckaction_c a ha _) ?_)<;>try first|omega|assumption)))
      all_goals(try(exfalso;omega))
      all_goals(refine r_es hQ ?_;try with_reducible rfl)
    · refine Gives_in Tryz.func31 rfl Tryz.ntmps31 Tryz.results31 (by kernel_rfl) (by simp) rfl fun Q hQ=>?_
      (have FX:=fx4 hlo hx0 hgo hal;repeat'(first|(refine sx ?_ ?_<;>intro h<;>first|(exfalso;omega)|skip)|(refine na ?_;(first|refine nb (acheckaction_c a ha) ?_)<;>try first|omega|assumption)|refine ny ?_|refine WA_block ?_|(refine uC57_31_20 ?_;refine⟨by kernel_rfl,?_⟩)|(refine g_d ?_;(first|refine d_fnY (acheckaction_c a ha _) ?_)<;>try first|omega|assumption)))
      all_goals(try(exfalso;omega))
      refine WA_whileK (σ:=Nat) [1,2,3,24,25,26] (fun i=>[.lst (txV o),.int .i64 g,.ptr (lend m).length 0 0,.lst (txV o),.int .i64 o.length,.int .i64 i]) (fun _=>[actB a]) 1 (fun i=>i≤o.length∧∀ j,j<i→onErrAt a o j=0) (fun i=>o.length - i) 0 ⟨Nat.zero_le _,fun j h=>absurd h (Nat.not_lt_zero _)⟩ tv_ rfl (fun _=>rfl) (by intro s s' _ _;simp [conB,conS,V.keeps,V.plain,Blk.flat,flatL,plainL,V.flat]) (by intro s s' _ _;simp [conB,conS,V.keeps,V.plain,Blk.flat,flatL,plainL,V.flat]) ?_
      rintro i ⟨hi1,hi2⟩ K hK
      simp only [zipT]
      clear FX hgo hal
      rcases Nat.lt_or_ge i o.length with hi|hi
      · have hgo:=And.intro (txV_get hi) (show((i:Int) - ((0:Nat):Int)).toNat=i by omega)
        have hal:=And.intro (fun n h=>txV_o1 (o:=o) (n:=n) h) (txV_take o i)
        have hfe:=fun m=>afindev_c a.evs (nmAt o i) m ha.ne
        have hco:=fun m=>scontains_c (o.take i) (nmAt o i) (by rw [List.length_take];omega) m
        have hat:onErrAt a o i=if fidx (isE (nmAt o i)) a.evs<0 then 6 else if nmAt o i∈o.take i then 5 else 0:=rfl
        have hfd:=fun e h1 he=>odV_on (g:=g) h20 hi hi2 (e:=e) h1 he
        generalize fidx (isE (nmAt o i)) a.evs=fi at*
        (have FX:=fx4 hlo hx0 hgo hal;repeat'(first|(refine sx ?_ ?_<;>intro h<;>first|(exfalso;omega)|skip)|(refine na ?_;(first|refine nb hfe ?_|refine nb hco ?_)<;>try first|omega|assumption)|refine ny ?_|refine WA_block ?_|(refine uC57_31_20 ?_;refine⟨by kernel_rfl,?_⟩)|(refine g_d ?_;(first|refine d_fnY (hfe _) ?_|refine d_fnY (hco _) ?_)<;>try first|omega|assumption)))
        all_goals(try(exfalso;omega))
        all_goals try
          ((refine r_es hQ ?_;try with_reducible rfl)
           exact(hfd _ (by rw [hat];(repeat (first|rw [if_pos (by first|assumption|omega|grind)]|rw [if_neg (by first|assumption|omega|grind)]))) (by decide)).symm)
        all_goals(refine nextL_ hK (i+1) ⟨hi,ext_zero hi2 (by rw [hat];(repeat (first|rw [if_pos (by first|assumption|omega|grind)]|rw [if_neg (by first|assumption|omega|grind)])))⟩ (by omega))
      · have hie:i=o.length:=by omega
        subst hie
        have hgo:=hlo
        have hal:=hlo
        by_cases hg:0≤g∧g≤2000
        · have hx0:=And.intro hac hg
          (have FX:=fx4 hlo hx0 hgo hal;repeat'(first|(refine sx ?_ ?_<;>intro h<;>first|(exfalso;omega)|skip)|(refine na ?_;(first|refine nb (awithin_c _ _ _) ?_)<;>try first|omega|assumption)|refine ny ?_|refine WA_block ?_|(refine uC57_31_20 ?_;refine⟨by kernel_rfl,?_⟩)|(refine g_d ?_;(first|refine d_fnY (awithin_c _ _ _ _) ?_)<;>try first|omega|assumption)))
          all_goals(try(exfalso;omega))
          clear FX hK
          refine WA_whileK (σ:=Nat) [2,3,11,49,50,51] (fun i=>[.int .i64 g,.ptr (lend m).length 0 0,.ptr ((lend m).length+1) 0 0,.lst (txV o),.int .i64 o.length,.int .i64 i]) (fun i=>[actB a,.cells .own 104 2 [bfV a o i]]) 2 (fun i=>i≤o.length∧∀ j,j<i→odErrAt a o g j=0) (fun i=>o.length - i) 0 ⟨Nat.zero_le _,fun j h=>absurd h (Nat.not_lt_zero _)⟩ tv_ rfl (fun _=>rfl) (by intro s s' _ _;simp [conB,conS,V.keeps,V.plain,Blk.flat,flatL,plainL,V.flat]) (by intro s s' _ _;simp only [conB];refine⟨.inr trivial,.inl ?_,trivial⟩;cases s'<;>simp [bfV,Blk.flat,flatL,V.flat,plainL,V.plain]) ?_
          rintro i ⟨hj1,hj2⟩ K hK
          simp only [zipT]
          clear hgo hal
          rcases Nat.lt_or_ge i o.length with hi|hi
          · have hgo:=txV_get hi
            have hen:=onE_zero (hi2 i hi)
            obtain⟨w1,w2,_⟩:=enI_ok hen
            have hfe:∀ m,Gives Tryz.prog 51 [.lst (evsV a.evs),.str (nmAt o i)] m (.int .i64 (enI a (nmAt o i))):=fun m=>afindev_c a.evs (nmAt o i) m ha.ne
            rw [w1] at hfe
            have hdo:=fun m=>adipof_c a ha hac (enN a (nmAt o i)) w2 m
            have hfd:=fun e h1 he=>odV_od h20 hi2 hg hi hj2 (e:=e) h1 he
            have hnx:=hK (i+1)
            have hal:=hx0
            unfold actV at hdo
            rcases evtP_code a (enN a (nmAt o i)) with ⟨x,hx⟩|hx|hx
            · obtain⟨u1,u2⟩:=odE_some (g:=g) hx
              obtain⟨y1,_,y2,_⟩:=evtP_sm hac w2 hx
              rw [hx] at hdo
              simp only [rchV,frO] at hdo
              have e0:bfV a o (i+1)=[.int .i64 x.num,.int .i64 (x.den:Int)]:=by simp only [bfV];rw [u2]
              rw [e0] at hnx
              have hny:=fun(_:Unit)=>hnx
              cases i with
              | zero=>
                simp only [bfV]
                (have FX:=fx4 hlo hx0 hgo hal;repeat'(first|(refine sx ?_ ?_<;>intro h<;>first|(exfalso;omega)|skip)|(refine na ?_;(first|refine nb hfe ?_|refine nb hdo ?_)<;>try first|omega|assumption)|refine ny ?_|refine WA_block ?_|(refine uC57_31_20 ?_;refine⟨by kernel_rfl,?_⟩)|(refine g_d ?_;(first|refine d_fnY (hfe _) ?_|refine d_fnY (hdo _) ?_)<;>try first|omega|assumption)))
                all_goals(try(exfalso;omega))
                all_goals(refine nextL_ hny () ⟨hi,ext_zero hj2 (by rw [u1,if_neg (by omega)])⟩ (by omega))
              | succ k=>
                have hpv:=odE_prev (hj2 k (by omega))
                obtain⟨z1,_,z2,_⟩:=evtP_sm hac (enI_ok (onE_zero (hi2 k (by omega)))).2.1 hpv
                have htn:=fun m=>atoonear_c x (odDip a o k) g y1 z1 y2 z2 hg m
                simp only [bfV]
                rw [Nat.add_sub_cancel] at u1
                cases ht:tn x (odDip a o k) g with
                | true=>
                  rw [ht] at htn
                  have hd9:=hfd 9 (by rw [u1,if_pos ⟨by omega,ht⟩]) (by decide)
                  (have FX:=fx4 hlo hx0 hgo hal;repeat'(first|(refine sx ?_ ?_<;>intro h<;>first|(exfalso;omega)|skip)|(refine na ?_;(first|refine nb hfe ?_|refine nb hdo ?_|refine nb htn ?_)<;>try first|omega|assumption)|refine ny ?_|refine WA_block ?_|(refine uC57_31_20 ?_;refine⟨by kernel_rfl,?_⟩)|(refine g_d ?_;(first|refine d_fnY (hfe _) ?_|refine d_fnY (hdo _) ?_|refine d_fnY (htn _) ?_)<;>try first|omega|assumption)))
                  all_goals(try(exfalso;omega))
                  all_goals((refine r_es hQ ?_;try with_reducible rfl))
                  all_goals exact hd9.symm
                | false=>
                  rw [ht] at htn
                  (have FX:=fx4 hlo hx0 hgo hal;repeat'(first|(refine sx ?_ ?_<;>intro h<;>first|(exfalso;omega)|skip)|(refine na ?_;(first|refine nb hfe ?_|refine nb hdo ?_|refine nb htn ?_)<;>try first|omega|assumption)|refine ny ?_|refine WA_block ?_|(refine uC57_31_20 ?_;refine⟨by kernel_rfl,?_⟩)|(refine g_d ?_;(first|refine d_fnY (hfe _) ?_|refine d_fnY (hdo _) ?_|refine d_fnY (htn _) ?_)<;>try first|omega|assumption)))
                  all_goals(try(exfalso;omega))
                  all_goals(refine nextL_ hny () ⟨hi,ext_zero hj2 (by rw [u1,if_neg (by rw [ht];simp)])⟩ (by omega))
            · have hd9:=hfd 8 (odE_none hx) (by decide)
              rw [hx] at hdo
              simp only [rchV,frO] at hdo
              (have FX:=fx4 hlo hx0 hgo hal;repeat'(first|(refine sx ?_ ?_<;>intro h<;>first|(exfalso;omega)|skip)|(refine na ?_;(first|refine nb hfe ?_|refine nb hdo ?_)<;>try first|omega|assumption)|refine ny ?_|refine WA_block ?_|(refine uC57_31_20 ?_;refine⟨by kernel_rfl,?_⟩)|(refine g_d ?_;(first|refine d_fnY (hfe _) ?_|refine d_fnY (hdo _) ?_)<;>try first|omega|assumption)))
              all_goals(try(exfalso;omega))
              all_goals((refine r_es hQ ?_;try with_reducible rfl))
              all_goals exact hd9.symm
            · have hd9:=hfd 12 (odE_none hx) (by decide)
              rw [hx] at hdo
              simp only [rchV,frO] at hdo
              (have FX:=fx4 hlo hx0 hgo hal;repeat'(first|(refine sx ?_ ?_<;>intro h<;>first|(exfalso;omega)|skip)|(refine na ?_;(first|refine nb hfe ?_|refine nb hdo ?_)<;>try first|omega|assumption)|refine ny ?_|refine WA_block ?_|(refine uC57_31_20 ?_;refine⟨by kernel_rfl,?_⟩)|(refine g_d ?_;(first|refine d_fnY (hfe _) ?_|refine d_fnY (hdo _) ?_)<;>try first|omega|assumption)))
              all_goals(try(exfalso;omega))
              all_goals((refine r_es hQ ?_;try with_reducible rfl))
              all_goals exact hd9.symm
          · have hie:i=o.length:=by omega
            subst hie
            have hgo:=hlo
            have hal:=hlo
            have hd9:=odV_ok h20 hi2 hg hj2
            (have FX:=fx4 hlo hx0 hgo hal;repeat'(first|(refine sx ?_ ?_<;>intro h<;>first|(exfalso;omega)|skip)|refine ny ?_|refine WA_block ?_|(refine uC57_31_20 ?_;refine⟨by kernel_rfl,?_⟩)))
            all_goals(try(exfalso;omega))
            all_goals((refine r_es hQ ?_;try with_reducible rfl))
            all_goals exact hd9.symm
        · have hd9:=odV_gap h20 hi2 hg
          have hx0:=And.intro hac hg
          (have FX:=fx4 hlo hx0 hgo hal;repeat'(first|(refine sx ?_ ?_<;>intro h<;>first|(exfalso;omega)|skip)|(refine na ?_;(first|refine nb (awithin_c _ _ _) ?_)<;>try first|omega|assumption)|refine ny ?_|refine WA_block ?_|(refine uC57_31_20 ?_;refine⟨by kernel_rfl,?_⟩)|(refine g_d ?_;(first|refine d_fnY (awithin_c _ _ _ _) ?_)<;>try first|omega|assumption)))
          all_goals(try(exfalso;omega))
          all_goals((refine r_es hQ ?_;try with_reducible rfl))
          all_goals exact hd9.symm
  · rw [if_pos hac]
    have hx0:=hac
    unfold actV
    refine Gives_in Tryz.func31 rfl Tryz.ntmps31 Tryz.results31 (by kernel_rfl) (by simp) rfl fun Q hQ=>?_
    (have FX:=fx4 hlo hx0 hgo hal;repeat'(first|(refine sx ?_ ?_<;>intro h<;>first|(exfalso;omega)|skip)|(refine na ?_;(first|refine nb (acheckaction_c a ha) ?_)<;>try first|omega|assumption)|refine ny ?_|refine WA_block ?_|(refine uC57_31_20 ?_;refine⟨by kernel_rfl,?_⟩)|(refine g_d ?_;(first|refine d_fnY (acheckaction_c a ha _) ?_)<;>try first|omega|assumption)))
    all_goals(try(exfalso;omega))
    all_goals(refine r_es hQ ?_;try with_reducible rfl)
end Go.Proofs.YtnablpehkeicmaaGreat
