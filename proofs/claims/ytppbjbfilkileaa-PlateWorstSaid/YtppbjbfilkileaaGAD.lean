import Derived.Test.YtppbjbfilkileaaProg
import Derived.Test.YtppbjbfilkileaaYC
import Derived.Test.YtppbjbfilkileaaGAB
import Derived.Test.YtppbjbfilkileaaG13
set_option linter.unusedSimpArgs false
set_option linter.unusedVariables false
namespace Go.Proofs.Ytppbjbfilkileaa
open Go.RowKit
attribute [local irreducible] WA WOs WDs WAn qThen qBlock tput
set_option maxHeartbeats 1000000
set_option maxRecDepth 20000
set_option linter.unusedSimpArgs false
set_option linter.unusedVariables false
theorem uG5_51_2{N:Nat}{l:List Oper}{t:List (Nat×V)}{m:Mem}{Q:Exit→List (Nat×V)→Mem→Prop}(h:RgN Try.prog N l t m Q (fun _=> .p) [.one 0,.one 1,.one 2,.one 3,.one 4,.one 5]):WA Try.prog N (.region 2 l.toArray true) t m Q:=d_rgN h
theorem bgcd_c(a b:Int)(h1: -9223372036854775807≤a)(h2:a≤9223372036854775807)(h3: -9223372036854775807≤b)(h4:b≤9223372036854775807)(m:Mem):Gives Try.prog 51 [.int .i64 a,.int .i64 b] m (.int .i64 (Int.gcd a b)):=by
  refine Gives_in Try.func51 rfl Try.ntmps51 Try.results51 (by kernel_rfl) (by simp) rfl fun Q hQ=>?_
  (repeat'(first|(refine sx ?_ ?_<;>intro h<;>first|(exfalso;omega)|skip)|(refine g_op ?_;refine g_call ?_;refine g_args ?_;(first|refine s_fn (abs_c _ ?_ ?_ _) ?_)<;>try first|omega|assumption)|refine ny ?_|refine WA_block ?_|(refine uG5_51_2 ?_;refine⟨by kernel_rfl,?_⟩)|((first|refine grp_cons (fun _=>abs_c _ ?_ ?_ _) ?_)<;>try first|omega|assumption)|(refine g_d ?_;refine d_args ?_;(first|refine d_fn (abs_c _ ?_ ?_ _) ?_|refine d_fnQ (fun _=>abs_c _ ?_ ?_ _) ?_)<;>try first|omega|assumption)|(refine g_d ?_;(first|refine d_fnY (abs_c _ ?_ ?_ _) ?_)<;>try first|omega|assumption)))
  refine WA_while (σ:=Int×Int) [0,1] (fun s=>[.int .i64 s.1,.int .i64 s.2]) (fun _=>lend m++[]) (fun s=>(-9223372036854775807≤s.1∧s.1≤9223372036854775807)∧(-9223372036854775807≤s.2∧s.2≤9223372036854775807)∧Int.gcd s.1 s.2=Int.gcd a b) (fun s=>s.2.natAbs) (a,b) ⟨⟨h1,h2⟩,⟨h3,h4⟩,rfl⟩ tv_ rfl ?_
  rintro⟨p,q⟩ ⟨⟨hp1,hp2⟩,⟨hq1,hq2⟩,hg⟩ L hL
  dsimp only at hp1 hp2 hq1 hq2 hg
  simp only [zipT]
  (repeat'(first|(refine sx ?_ ?_<;>intro h<;>first|(exfalso;omega)|skip)|(refine g_op ?_;refine g_call ?_;refine g_args ?_;(first|refine s_fn (abs_c _ ?_ ?_ _) ?_)<;>try first|omega|assumption)|refine ny ?_|refine WA_block ?_|(refine uG5_51_2 ?_;refine⟨by kernel_rfl,?_⟩)|((first|refine grp_cons (fun _=>abs_c _ ?_ ?_ _) ?_)<;>try first|omega|assumption)|(refine g_d ?_;refine d_args ?_;(first|refine d_fn (abs_c _ ?_ ?_ _) ?_|refine d_fnQ (fun _=>abs_c _ ?_ ?_ _) ?_)<;>try first|omega|assumption)|(refine g_d ?_;(first|refine d_fnY (abs_c _ ?_ ?_ _) ?_)<;>try first|omega|assumption)))
  · skip
    (repeat'(first|(refine sx ?_ ?_<;>intro h<;>first|(exfalso;omega)|skip)|(refine g_op ?_;refine g_call ?_;refine g_args ?_;(first|refine s_fn (abs_c _ ?_ ?_ _) ?_)<;>try first|omega|assumption)|refine ny ?_|refine WA_block ?_|(refine uG5_51_2 ?_;refine⟨by kernel_rfl,?_⟩)|((first|refine grp_cons (fun _=>abs_c _ ?_ ?_ _) ?_)<;>try first|omega|assumption)|(refine g_d ?_;refine d_args ?_;(first|refine d_fn (abs_c _ ?_ ?_ _) ?_|refine d_fnQ (fun _=>abs_c _ ?_ ?_ _) ?_)<;>try first|omega|assumption)|(refine g_d ?_;(first|refine d_fnY (abs_c _ ?_ ?_ _) ?_)<;>try first|omega|assumption)))
    have hm:=tmod_bd p q ⟨hp1,hp2⟩ (by assumption)
    refine next_ hL (q,p.tmod q) ⟨⟨hq1,hq2⟩,?_,?_⟩ ?_
    · have:=hm.1;dsimp only;omega
    · exact(gcd_tmod p q).trans hg
    · exact hm.2
  · (refine r_es hQ ?_;try with_reducible rfl)
    have hq0:q=0:=by omega
    subst hq0
    rw [←hg];simp
theorem uG5_30_4{N:Nat}{l:List Oper}{t:List (Nat×V)}{m:Mem}{Q:Exit→List (Nat×V)→Mem→Prop}(h:RgN Try.prog N l t m Q (fun i=>if i==7 then .w else .p) [.one 0,.one 1,.one 2,.one 3,.one 4,.one 5,.one 6,.one 7]):WA Try.prog N (.region 4 l.toArray true) t m Q:=d_rgN h
theorem blowest_c(a b:Int)(h1: -9223372036854775807≤a)(h2:a≤9223372036854775807)(h3:1≤b)(h4:b≤9223372036854775807)(m:Mem):Gives Try.prog 30 [.int .i64 a,.int .i64 b] m (.agg [.int .i64 (a.tdiv (Int.gcd a b)),.int .i64 (b / (Int.gcd a b:Int))]):=by
  have hg:(Int.gcd a b:Int)≠0:=by
    have:=Int.gcd_pos_iff.2 (Or.inr (show b≠0 by omega):a≠0∨b≠0)
    omega
  have q1:=tdiv_bd a (Int.gcd a b)
  have q2:0≤b / (Int.gcd a b:Int):=Int.ediv_nonneg (by omega) (by omega)
  have q3:b / (Int.gcd a b:Int)≤b:=Int.ediv_le_self _ (by omega)
  refine Gives_in Try.func30 rfl Try.ntmps30 Try.results30 (by kernel_rfl) (by simp) rfl fun Q hQ=>?_
  (repeat'(first|(refine sx ?_ ?_<;>intro h<;>first|(exfalso;omega)|skip)|(refine g_op ?_;refine g_call ?_;refine g_args ?_;(first|refine s_fn (bgcd_c _ _ ?_ ?_ ?_ ?_ _) ?_)<;>try first|omega|assumption)|refine ny ?_|refine WA_block ?_|(refine uG5_30_4 ?_;refine⟨by kernel_rfl,?_⟩)|((first|refine grp_cons (fun _=>bgcd_c _ _ ?_ ?_ ?_ ?_ _) ?_)<;>try first|omega|assumption)|(refine g_d ?_;refine d_args ?_;(first|refine d_fn (bgcd_c _ _ ?_ ?_ ?_ ?_ _) ?_|refine d_fnQ (fun _=>bgcd_c _ _ ?_ ?_ ?_ ?_ _) ?_)<;>try first|omega|assumption)|(refine g_d ?_;(first|refine d_fnY (bgcd_c _ _ ?_ ?_ ?_ ?_ _) ?_)<;>try first|omega|assumption)))
  (repeat'(first|(refine sx ?_ ?_<;>intro h<;>first|(exfalso;omega)|skip)|(refine g_op ?_;refine g_call ?_;refine g_args ?_;(first|refine s_fn (bgcd_c _ _ ?_ ?_ ?_ ?_ _) ?_)<;>try first|omega|assumption)|refine ny ?_|refine WA_block ?_|(refine uG5_30_4 ?_;refine⟨by kernel_rfl,?_⟩)|((first|refine grp_cons (fun _=>bgcd_c _ _ ?_ ?_ ?_ ?_ _) ?_)<;>try first|omega|assumption)|(refine g_d ?_;refine d_args ?_;(first|refine d_fn (bgcd_c _ _ ?_ ?_ ?_ ?_ _) ?_|refine d_fnQ (fun _=>bgcd_c _ _ ?_ ?_ ?_ ?_ _) ?_)<;>try first|omega|assumption)|(refine g_d ?_;(first|refine d_fnY (bgcd_c _ _ ?_ ?_ ?_ ?_ _) ?_)<;>try first|omega|assumption)))
  (refine r_es hQ ?_;try with_reducible rfl)
theorem frsV_get{l:List (Int×Int)}{i:Nat}(h:i<l.length):(frsV l)[i]?=some [.int .i64 l[i].1,.int .i64 l[i].2]:=by simp [frsV,h]
theorem frsV_length{l:List (Int×Int)}:(frsV l).length=l.length:=by simp [frsV]
theorem uG14_19_6{N:Nat}{l:List Oper}{t:List (Nat×V)}{m:Mem}{Q:Exit→List (Nat×V)→Mem→Prop}(h:RgN Try.prog N l t m Q (fun i=>if i==3 || i==7 || i==8 then .q else .p) [.one 0,.one 1,.one 2,.one 3,.one 4,.one 5,.one 6,.one 7,.one 8]):WA Try.prog N (.region 6 l.toArray true) t m Q:=d_rgN h
theorem fracs_c (a b:List (Int×Int)) (h1:a.length≤1000000) (h2:b.length≤1000000) (m:Mem):Gives Try.prog 19 [.lst (frsV a),.lst (frsV b)] m (.bool (decide (a=b))):=by
  have hla:=frsV_length (l:=a)
  have hlb:=frsV_length (l:=b)
  have hga:=hla
  have hgb:=hlb
  by_cases hl:a.length=b.length
  · generalize hE:decide (a=b)=E
    refine Gives_in Try.func19 rfl Try.ntmps19 Try.results19 (by kernel_rfl) (by simp) rfl fun Q hQ=>?_
    (have FX:=And.intro hla (And.intro hlb (And.intro hga hgb));repeat'(first|(refine sx ?_ ?_<;>intro h<;>first|(exfalso;omega)|skip)|refine ny ?_|refine WA_block ?_|(refine uG14_19_6 ?_;refine⟨by kernel_rfl,?_⟩)))
    refine WA_while (σ:=Nat) [0,1,5] (fun i=>[.lst (frsV a),.lst (frsV b),.int .i64 i]) (fun _=>lend m++[]) (fun i=>i≤a.length∧∀ j (h:j<a.length) (h':j<b.length),j<i→a[j]=b[j]) (fun i=>a.length - i) 0 ⟨Nat.zero_le _,fun j h1 h2 h3=>absurd h3 (Nat.not_lt_zero _)⟩ tv_ rfl ?_
    rintro i ⟨hi1,hi2⟩ K hK
    rcases Nat.lt_or_ge i a.length with hi|hi
    · have hga:=frsV_get hi
      have hgb:=frsV_get (l:=b) (i:=i) (by omega)
      simp only [zipT]
      clear FX
      (have FX:=And.intro hla (And.intro hlb (And.intro hga hgb));repeat'(first|(refine sx ?_ ?_<;>intro h<;>first|(exfalso;omega)|skip)|refine ny ?_|refine WA_block ?_|(refine uG14_19_6 ?_;refine⟨by kernel_rfl,?_⟩)))
      · (refine r_es hQ ?_;try with_reducible rfl)
        rename_i hne
        rw [←hE]
        simp only [V.bool.injEq]
        symm
        rw [decide_eq_false_iff_not]
        intro e
        subst e
        simp at h
      · refine next_ hK (i+1) ⟨hi,fun j h1 h2 h3=>?_⟩ (by omega)
        rcases Nat.lt_or_ge j i with q|q
        · exact hi2 j h1 h2 q
        · have:j=i:=by omega
          subst this
          have hb:j<b.length:=h2
          exact Prod.ext (by omega) (by omega)
    · simp only [zipT]
      clear FX
      (have FX:=And.intro hla (And.intro hlb (And.intro hga hgb));repeat'(first|(refine sx ?_ ?_<;>intro h<;>first|(exfalso;omega)|skip)|refine ny ?_|refine WA_block ?_|(refine uG14_19_6 ?_;refine⟨by kernel_rfl,?_⟩)))
      (refine r_es hQ ?_;try with_reducible rfl)
      rw [←hE]
      simp only [V.bool.injEq]
      symm
      rw [decide_eq_true_iff]
      apply List.ext_getElem hl
      intro j h1 h2
      exact hi2 j h1 h2 (by omega)
  · have hne:¬ a=b:=fun e=>hl (by rw [e])
    simp only [hne,decide_false]
    refine Gives_in Try.func19 rfl Try.ntmps19 Try.results19 (by kernel_rfl) (by simp) rfl fun Q hQ=>?_
    (have FX:=And.intro hla (And.intro hlb (And.intro hga hgb));repeat'(first|(refine sx ?_ ?_<;>intro h<;>first|(exfalso;omega)|skip)|refine ny ?_|refine WA_block ?_|(refine uG14_19_6 ?_;refine⟨by kernel_rfl,?_⟩)))
    (refine r_es hQ ?_;try with_reducible rfl)
theorem uG14_42_1{N:Nat}{l:List Oper}{t:List (Nat×V)}{m:Mem}{Q:Exit→List (Nat×V)→Mem→Prop}(h:RgN Try.prog N l t m Q (fun i=>if i==1 || i==3 || i==6 || i==9 || i==11 || i==14 || i==18 || i==20 then .q else .p) [.one 0,.one 1,.one 2,.one 3,.one 4,.one 5,.one 6,.one 7,.one 8,.one 9,.one 10,.one 11,.one 12,.one 13,.one 14,.one 15,.one 16,.one 17,.one 18,.one 19,.one 20,.one 21,.one 22,.one 23]):WA Try.prog N (.region 1 l.toArray true) t m Q:=d_rgN h
theorem bend_c(a b c d e:Int)(h:bearOk a b c d e)(m:Mem):Gives Try.prog 42 [.agg [.int .i64 a,.int .i64 b,.int .i64 c,.int .i64 d,.int .i64 e]] m (.tup [.int .i64 ((b - a) * e+(b - c) * d),.int .i64 (d * e)]):=by
  unfold bearOk at h
  obtain⟨h1,h2,h3,h4,h5⟩:=h
  have m1:=mulT (x:=b - a) (y:=e) (by omega) (by omega)
  have m2:=mulT (x:=b - c) (y:=d) (by omega) (by omega)
  have m3:=mulT3 h4 h5
  refine Gives_in Try.func42 rfl Try.ntmps42 Try.results42 (by kernel_rfl) (by simp) rfl fun Q hQ=>?_
  (repeat'(first|(refine sx ?_ ?_<;>intro h<;>first|(exfalso;omega)|skip)|refine ny ?_|refine WA_block ?_|(refine uG14_42_1 ?_;refine⟨by kernel_rfl,?_⟩)))
  (refine r_es hQ ?_;try with_reducible rfl)

theorem downbearing_ok(a b c d e t:Int)(hk:bearOk a b c d e)(ht:0≤t∧t≤10000000)(m:Mem):Gives Try.prog 18 [.agg [.int .i64 a,.int .i64 b,.int .i64 c,.int .i64 d,.int .i64 e],.int .i64 t] m (.tup [.agg [.int .i64 (lowF (t * ((b - a) * e+(b - c) * d)) (d * e)).1,.int .i64 (lowF (t * ((b - a) * e+(b - c) * d)) (d * e)).2],.int .i64 0]):=by
  have hif:(if bearOk a b c d e then (0:Int) else 2)=0:=if_pos hk
  have hk':=hk
  unfold bearOk at hk'
  obtain⟨h1,h2,h3,h4,h5⟩:=hk'
  have m1:=mulT (x:=b - a) (y:=e) (by omega) (by omega)
  have m2:=mulT (x:=b - c) (y:=d) (by omega) (by omega)
  have m3:=mulT3 h4 h5
  have m4:=mulT4 (x:=t) (y:=(b - a) * e+(b - c) * d) ht (by omega)
  unfold lowF
  refine Gives_in Try.func18 rfl Try.ntmps18 Try.results18 (by kernel_rfl) (by simp) rfl fun Q hQ=>?_
  (have FX:=hif;repeat'(first|(refine sx ?_ ?_<;>intro h<;>first|(exfalso;omega)|skip)|(refine g_op ?_;refine g_call ?_;refine g_args ?_;(first|refine s_fn (checkbearing_c _ _ _ _ _ _) ?_|refine s_fn (bend_c _ _ _ _ _ hk _) ?_|refine s_fn (lowest_c _ _ ?_ ?_ ?_ ?_ _) ?_)<;>try first|omega|assumption)|refine ny ?_|refine WA_block ?_))
  all_goals(refine r_es hQ ?_;try with_reducible rfl)

theorem some_c(ls:List (Int×Int))(hl:ls.length≤1000000)(m:Mem):Gives Try.prog 5 [.lst (ldsV ls)] m (.bool (decide (ls.length≤12∨(100<ls.length∧ls.length≤105)))):=by
  have hla:=ldsV_length (ls:=ls)
  by_cases h0:ls.length≤12∨(100<ls.length∧ls.length≤105)
  all_goals
    simp only [h0,decide_true,decide_false]
    refine Gives_in Try.func5 rfl Try.ntmps5 Try.results5 (by kernel_rfl) (by simp) rfl fun Q hQ=>?_
    (have FX:=hla;repeat'(first|(refine sx ?_ ?_<;>intro h<;>first|(exfalso;omega)|skip)|refine ny ?_|refine WA_block ?_))
    all_goals(refine r_es hQ ?_;try with_reducible rfl)

theorem rcheckloads_c(ls:List (Int×Int))(lo hi:Int)(hl:ls.length≤1000000)(m:Mem):Gives Try.prog 26 [.lst (ldsV ls),.int .i64 lo,.int .i64 hi] m (.int .i64 (loadsErr lo hi ls)):=by
  have hla:=ldsV_length (ls:=ls)
  have hga:=hla
  unfold loadsErr
  by_cases hb:100<ls.length
  · rw [if_pos hb]
    refine Gives_in Try.func26 rfl Try.ntmps26 Try.results26 (by kernel_rfl) (by simp) rfl fun Q hQ=>?_
    (have FX:=And.intro hla hga;repeat'(first|(refine sx ?_ ?_<;>intro h<;>first|(exfalso;omega)|skip)|(refine g_op ?_;refine g_call ?_;refine g_args ?_;(first|refine s_fn (bwithin_c _ _ _ _) ?_)<;>try first|omega|assumption)|refine ny ?_|refine WA_block ?_))
    all_goals(refine r_es hQ ?_;try with_reducible rfl)
  rw [if_neg hb]
  generalize hE:(if ∀ p∈ls,loadOk lo hi p then (0:Int) else 2)=E
  refine Gives_in Try.func26 rfl Try.ntmps26 Try.results26 (by kernel_rfl) (by simp) rfl fun Q hQ=>?_
  (have FX:=And.intro hla hga;repeat'(first|(refine sx ?_ ?_<;>intro h<;>first|(exfalso;omega)|skip)|(refine g_op ?_;refine g_call ?_;refine g_args ?_;(first|refine s_fn (bwithin_c _ _ _ _) ?_)<;>try first|omega|assumption)|refine ny ?_|refine WA_block ?_))
  refine WA_while (σ:=Nat) [0,1,2,7] (fun i=>[.lst (ldsV ls),.int .i64 lo,.int .i64 hi,.int .i64 i]) (fun _=>lend m++[]) (fun i=>i≤ls.length∧∀ j (h:j<ls.length),j<i→loadOk lo hi ls[j]) (fun i=>ls.length - i) 0 ⟨Nat.zero_le _,fun j h1 h2=>absurd h2 (Nat.not_lt_zero _)⟩ tv_ rfl ?_
  rintro i ⟨hi1,hi2⟩ K2 hL
  rcases Nat.lt_or_ge i ls.length with hi'|hi'
  · have hga:=ldsV_get hi'
    simp only [zipT]
    clear FX
    (have FX:=And.intro hla hga;repeat'(first|(refine sx ?_ ?_<;>intro h<;>first|(exfalso;omega)|skip)|(refine g_op ?_;refine g_call ?_;refine g_args ?_;(first|refine s_fn (bwithin_c _ _ _ _) ?_)<;>try first|omega|assumption)|refine ny ?_|refine WA_block ?_))
    all_goals first
      |((refine r_es hQ ?_;try with_reducible rfl);rw [←hE,if_neg];intro h0;have h1:=h0 _ (List.getElem_mem hi');unfold loadOk at h1;omega)
      |(refine next_ hL (i+1) ⟨hi',fun j h1 h2=>?_⟩ (by omega);rcases Nat.lt_or_ge j i with q|q;exact hi2 j h1 q;(have:j=i:=by omega);subst this;unfold loadOk;omega)
  · simp only [zipT]
    clear FX
    (have FX:=And.intro hla hga;repeat'(first|(refine sx ?_ ?_<;>intro h<;>first|(exfalso;omega)|skip)|(refine g_op ?_;refine g_call ?_;refine g_args ?_;(first|refine s_fn (bwithin_c _ _ _ _) ?_)<;>try first|omega|assumption)|refine ny ?_|refine WA_block ?_))
    (refine r_es hQ ?_;try with_reducible rfl)
    rw [←hE,if_pos]
    intro p hp
    obtain⟨j,hj,rfl⟩:=List.getElem_of_mem hp
    exact hi2 j hj (by omega)
def girdErr(a b w:Int):Int:=if ¬ ((-20000≤a∧a≤20000)∧(-20000≤b∧b≤20000)∧(0≤w∧w≤1000000000000)) then 2 else if b≤a then 9 else 0

theorem checkgirder_c(a b w:Int)(m:Mem):Gives Try.prog 43 [.agg [.int .i64 a,.int .i64 b,.int .i64 w]] m (.int .i64 (girdErr a b w)):=by
  unfold girdErr
  by_cases h0:(-20000≤a∧a≤20000)∧(-20000≤b∧b≤20000)∧(0≤w∧w≤1000000000000)
  · by_cases h1:b≤a
    all_goals
      simp only [h0,h1,not_true_eq_false,if_true,if_false,and_self]
      refine Gives_in Try.func43 rfl Try.ntmps43 Try.results43 (by kernel_rfl) (by simp) rfl fun Q hQ=>?_
      (repeat'(first|(refine sx ?_ ?_<;>intro h<;>first|(exfalso;omega)|skip)|(refine g_op ?_;refine g_call ?_;refine g_args ?_;(first|refine s_fn (pwithin_c _ _ ?_ ?_ _) ?_)<;>try first|omega|assumption)|refine ny ?_|refine WA_block ?_))
      all_goals(refine r_es hQ ?_;try with_reducible rfl)
  · rw [if_pos h0]
    refine Gives_in Try.func43 rfl Try.ntmps43 Try.results43 (by kernel_rfl) (by simp) rfl fun Q hQ=>?_
    (repeat'(first|(refine sx ?_ ?_<;>intro h<;>first|(exfalso;omega)|skip)|(refine g_op ?_;refine g_call ?_;refine g_args ?_;(first|refine s_fn (pwithin_c _ _ ?_ ?_ _) ?_)<;>try first|omega|assumption)|refine ny ?_|refine WA_block ?_))
    all_goals(refine r_es hQ ?_;try with_reducible rfl)

theorem rcheckgirder_c(a b w:Int)(m:Mem):Gives Try.prog 25 [.agg [.int .i64 a,.int .i64 b,.int .i64 w]] m (.int .i64 (girdErr a b w)):=by
  unfold girdErr
  by_cases h0:(-20000≤a∧a≤20000)∧(-20000≤b∧b≤20000)∧(0≤w∧w≤1000000000000)
  · by_cases h1:b≤a
    all_goals
      simp only [h0,h1,not_true_eq_false,if_true,if_false,and_self]
      refine Gives_in Try.func25 rfl Try.ntmps25 Try.results25 (by kernel_rfl) (by simp) rfl fun Q hQ=>?_
      (repeat'(first|(refine sx ?_ ?_<;>intro h<;>first|(exfalso;omega)|skip)|(refine g_op ?_;refine g_call ?_;refine g_args ?_;(first|refine s_fn (bwithin_c _ _ _ _) ?_)<;>try first|omega|assumption)|refine ny ?_|refine WA_block ?_))
      all_goals(refine r_es hQ ?_;try with_reducible rfl)
  · rw [if_pos h0]
    refine Gives_in Try.func25 rfl Try.ntmps25 Try.results25 (by kernel_rfl) (by simp) rfl fun Q hQ=>?_
    (repeat'(first|(refine sx ?_ ?_<;>intro h<;>first|(exfalso;omega)|skip)|(refine g_op ?_;refine g_call ?_;refine g_args ?_;(first|refine s_fn (bwithin_c _ _ _ _) ?_)<;>try first|omega|assumption)|refine ny ?_|refine WA_block ?_))
    all_goals(refine r_es hQ ?_;try with_reducible rfl)

theorem lawcheck_c(a b w:Int)(ls:List (Int×Int))(hl:ls.length≤1000000)(m:Mem):Gives Try.prog 10 [.agg [.int .i64 a,.int .i64 b,.int .i64 w],.lst (ldsV ls)] m (.int .i64 (if girdErr a b w≠0 then girdErr a b w else loadsErr a b ls)):=by
  by_cases h:girdErr a b w=0
  all_goals
    simp only [h,ne_eq,not_true_eq_false,not_false_eq_true,if_true,if_false]
    refine Gives_in Try.func10 rfl Try.ntmps10 Try.results10 (by kernel_rfl) (by simp) rfl fun Q hQ=>?_
    (repeat'(first|(refine sx ?_ ?_<;>intro h<;>first|(exfalso;omega)|skip)|(refine g_op ?_;refine g_call ?_;refine g_args ?_;(first|refine s_fn (rcheckgirder_c _ _ _ _) ?_|refine s_fn (rcheckloads_c _ _ _ hl _) ?_)<;>try first|omega|assumption)|refine ny ?_|refine WA_block ?_))
    all_goals((refine r_es hQ ?_;try with_reducible rfl);try(simp [*]))
def sumF(f:Int×Int→Int)(ls:List (Int×Int))(k:Nat):Int:=((ls.take k).map f).sum
theorem sumF_succ{f:Int×Int→Int}{ls:List (Int×Int)}{k:Nat}(h:k<ls.length):sumF f ls (k+1)=sumF f ls k+f ls[k]:=by
  unfold sumF
  rw [List.take_succ_eq_append_getElem h,List.map_append,List.sum_append]
  simp
theorem sumF_bd{f:Int×Int→Int}{ls:List (Int×Int)}{M:Int}(hM:0≤M)(hf:∀ p∈ls, -M≤f p∧f p≤M):∀ k,k≤ls.length→ -(k * M)≤sumF f ls k∧sumF f ls k≤k * M
  |0,_=>by simp [sumF]
  | k+1,h=>by
    have:=sumF_bd hM hf k (by omega)
    have q:=hf _ (List.getElem_mem (by omega:k<ls.length))
    rw [sumF_succ (by omega)]
    have e:((k+1:Nat):Int) * M=k * M+M:=by rw [Int.natCast_add,Int.add_mul];simp
    rw [e]
    omega
theorem uG26_49_5{N:Nat}{l:List Oper}{t:List (Nat×V)}{m:Mem}{Q:Exit→List (Nat×V)→Mem→Prop}(h:RgN Try.prog N l t m Q (fun i=>if i==5 || i==7 || i==12 then .q else .p) [.one 0,.one 1,.one 2,.one 3,.one 4,.one 5,.one 6,.one 7,.one 8,.one 9,.one 10,.one 11,.one 12,.one 13,.one 14,.one 15,.one 16]):WA Try.prog N (.region 5 l.toArray true) t m Q:=d_rgN h
theorem rfirst_c(a b w:Int)(ls:List (Int×Int))(hl:ls.length≤100)(hb: -20000≤b∧b≤20000)(hok:∀ p∈ls,(-20000≤p.1∧p.1≤20000)∧(-1000000≤p.2∧p.2≤1000000))(m:Mem):Gives Try.prog 49 [.agg [.int .i64 a,.int .i64 b,.int .i64 w],.lst (ldsV ls)] m (.int .i64 (sumF (fun p=>p.2 * (b - p.1)) ls ls.length)):=by
  have hla:=ldsV_length (ls:=ls)
  have hga:=hla
  have hbd:=sumF_bd (f:=fun p=>p.2 * (b - p.1)) (ls:=ls) (M:=40000000000) (by omega) (fun p hp=>mulW (hok p hp).2 (by have:=(hok p hp).1;omega))
  refine Gives_in Try.func49 rfl Try.ntmps49 Try.results49 (by kernel_rfl) (by simp) rfl fun Q hQ=>?_
  (have FX:=And.intro hla hga;repeat'(first|(refine sx ?_ ?_<;>intro h<;>first|(exfalso;omega)|skip)|refine ny ?_|refine WA_block ?_|(refine uG26_49_5 ?_;refine⟨by kernel_rfl,?_⟩)))
  refine WA_while (σ:=Nat) [1,2,5,6] (fun i=>[.lst (ldsV ls),.ptr (lend m).length 0 0,.int .i64 (sumF (fun p=>p.2 * (b - p.1)) ls i),.int .i64 i]) (fun _=>lend m++[.cells .own 23 3 [[.int .i64 a,.int .i64 b,.int .i64 w]]]) (fun i=>i≤ls.length) (fun i=>ls.length - i) 0 (Nat.zero_le _) tv_ rfl ?_
  intro i hi1 K2 hL
  rcases Nat.lt_or_ge i ls.length with hi'|hi'
  · have hga:=ldsV_get hi'
    have h1:=hbd i (by omega)
    have h2:=hbd (i+1) (by omega)
    have h3:=mulW (hok _ (List.getElem_mem hi')).2 (d:=b - ls[i].1) (by have:=(hok _ (List.getElem_mem hi')).1;omega)
    have h4:=(hok _ (List.getElem_mem hi')).1
    have e:=sumF_succ (f:=fun p=>p.2 * (b - p.1)) hi'
    try dsimp only at e
    simp only [zipT]
    clear FX
    (have FX:=And.intro hla hga;repeat'(first|(refine sx ?_ ?_<;>intro h<;>first|(exfalso;omega)|skip)|refine ny ?_|refine WA_block ?_|(refine uG26_49_5 ?_;refine⟨by kernel_rfl,?_⟩)))
    all_goals(rw [←e];refine next_ hL (i+1) hi' (by omega))
  · have e:i=ls.length:=by omega
    subst e
    simp only [zipT]
    clear FX
    (have FX:=And.intro hla hga;repeat'(first|(refine sx ?_ ?_<;>intro h<;>first|(exfalso;omega)|skip)|refine ny ?_|refine WA_block ?_|(refine uG26_49_5 ?_;refine⟨by kernel_rfl,?_⟩)))
    all_goals(refine r_es hQ ?_;try with_reducible rfl)

theorem pcheck_c(a b w:Int)(ls:List (Int×Int))(hl:ls.length≤1000000)(m:Mem):Gives Try.prog 20 [.agg [.int .i64 a,.int .i64 b,.int .i64 w],.lst (ldsV ls)] m (.int .i64 (if girdErr a b w≠0 then girdErr a b w else loadsErr a b ls)):=by
  by_cases h:girdErr a b w=0
  all_goals
    simp only [h,ne_eq,not_true_eq_false,not_false_eq_true,if_true,if_false]
    refine Gives_in Try.func20 rfl Try.ntmps20 Try.results20 (by kernel_rfl) (by simp) rfl fun Q hQ=>?_
    (repeat'(first|(refine sx ?_ ?_<;>intro h<;>first|(exfalso;omega)|skip)|(refine g_op ?_;refine g_call ?_;refine g_args ?_;(first|refine s_fn (checkgirder_c _ _ _ _) ?_|refine s_fn (checkloads_c _ _ _ hl _) ?_)<;>try first|omega|assumption)|refine ny ?_|refine WA_block ?_))
    all_goals((refine r_es hQ ?_;try with_reducible rfl);try(simp [*]))
end Go.Proofs.Ytppbjbfilkileaa
namespace Go.Proofs.Ytppbjbfilkileaa
end Go.Proofs.Ytppbjbfilkileaa
namespace Go.Proofs.Ytppbjbfilkileaa
open Go.RowKit
attribute [local irreducible] WA WOs WDs WAn qThen qBlock tput
set_option maxHeartbeats 1000000
set_option maxRecDepth 20000
set_option linter.unusedSimpArgs false
set_option linter.unusedVariables false
theorem cdiv_bd{n d:Int}(h0:0<d)(h1:0≤n):0≤cdiv n d∧cdiv n d≤n:=by
  unfold cdiv
  have a1: -n≤ -n / d:=(Int.le_ediv_iff_mul_le h0).2 (by
    have:n * 1≤n * d:=Int.mul_le_mul_of_nonneg_left (show(1:Int)≤d from h0) h1
    rw [Int.neg_mul];omega)
  have a2: -n / d≤0:=Int.le_of_lt_add_one (by
    have:=Int.ediv_lt_of_lt_mul h0 (show -n<(0+1) * d by omega)
    omega)
  omega
def compLo(lo hi c slo shi:Int):Int:=if c<0 then -(cdiv (100 * hi * (-c)) slo) else 100 * lo * c / shi
def compHi(lo hi c slo shi:Int):Int:=if c<0 then -(100 * lo * (-c) / shi) else cdiv (100 * hi * c) slo
theorem mul_bd{x c:Int}(h0:0≤x)(h1:x≤10000000000)(k0:0≤c)(k1:c≤1000000):0≤100 * x * c∧100 * x * c≤1000000000000000000:=by
  refine⟨Int.mul_nonneg (by omega) k0,?_⟩
  calc 100 * x * c≤1000000000000 * c:=Int.mul_le_mul_of_nonneg_right (by omega) k0
    _≤1000000000000 * 1000000:=Int.mul_le_mul_of_nonneg_left k1 (by omega)
    _≤_:=by omega
end Go.Proofs.Ytppbjbfilkileaa
namespace Go.Proofs.Ytppbjbfilkileaa
open Go.RowKit
attribute [local irreducible] WA WOs WDs WAn qThen qBlock tput
set_option maxHeartbeats 1000000
set_option maxRecDepth 20000
set_option linter.unusedSimpArgs false
set_option linter.unusedVariables false
open Classical in
theorem root_hundred{n r:Int}(h:10000≤n)(hr:IsRoot n r):100≤r:=by
  obtain⟨h1,h2,h3⟩:=hr
  rcases Int.lt_or_le r 100 with q|q
  · have:(r+1) * (r+1)≤100 * 100:=Int.mul_le_mul (by omega) (by omega) (by omega) (by omega)
    omega
  · exact q
theorem root_le{n r:Int}(hr:IsRoot n r):r≤n:=by
  obtain⟨h1,h2,h3⟩:=hr
  rcases Int.lt_or_le 0 r with q|q
  · have:=Int.mul_le_mul_of_nonneg_left (show(1:Int)≤r from q) h1
    omega
  · have:r=0:=by omega
    subst this;omega
def Plc(a b c:Int):Prop:=(-1000000≤a∧a≤1000000)∧(-1000000≤b∧b≤1000000)∧(-1000000≤c∧c≤1000000)
theorem sq_bd{d:Int}(h: -1000000≤d∧d≤1000000):0≤d * d∧d * d≤1000000000000∧(d * d=0→d=0):=by
  have h1:((d.natAbs:Int)) * (d.natAbs:Int)=d * d:=by
    rw [←Int.natCast_mul,Int.natAbs_mul_self]
  have h2:(d.natAbs:Int) * (d.natAbs:Int)≤1000000 * 1000000:=Int.mul_le_mul (by omega) (by omega) (by omega) (by omega)
  refine⟨by rw [←h1];exact Int.mul_nonneg (by omega) (by omega),by omega,fun h=>?_⟩
  rcases Int.mul_eq_zero.1 h with h|h<;>exact h
end Go.Proofs.Ytppbjbfilkileaa
