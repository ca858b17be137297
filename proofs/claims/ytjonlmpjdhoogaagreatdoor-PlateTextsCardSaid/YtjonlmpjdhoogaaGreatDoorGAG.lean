import Derived.Test.YtjonlmpjdhoogaaGreatDoorProg
import Derived.Test.YtjonlmpjdhoogaaGreatDoorYC
import Derived.Test.YtjonlmpjdhoogaaGreatDoorGAE
import Derived.Test.YtjonlmpjdhoogaaGreatDoorG13
set_option linter.unusedSimpArgs false
set_option linter.unusedVariables false
namespace Go.Proofs.YtjonlmpjdhoogaaGreatDoor
open Go.RowKit
attribute [local irreducible] WA WOs WDs WAn qThen qBlock tput
set_option maxHeartbeats 1000000
set_option maxRecDepth 20000
set_option linter.unusedSimpArgs false
set_option linter.unusedVariables false

theorem isplace_c(a b c:Int)(m:Mem):Gives Tryz.prog 23 [.agg [.int .i64 (a),.int .i64 (b),.int .i64 (c)]] m (.bool (decide ((-1000000≤a∧a≤1000000)∧(-1000000≤b∧b≤1000000)∧(-1000000≤c∧c≤1000000)))):=by
  refine Gives_in Tryz.func23 rfl Tryz.ntmps23 Tryz.results23 (by kernel_rfl) (by simp) rfl fun Q hQ=>?_
  (repeat'(first|(refine sx ?_ ?_<;>intro h<;>first|(exfalso;omega)|skip)|(refine g_op ?_;refine g_call ?_;refine g_args ?_;(first|refine s_fn (size_c _ _ _ _ ?_ ?_ _) ?_)<;>try first|omega|assumption)|refine ny ?_|refine WA_block ?_))
  all_goals((refine r_es hQ ?_;try with_reducible rfl);simp [*])
theorem frsV_get{l:List (Int×Int)}{i:Nat}(h:i<l.length):(frsV l)[i]?=some [.int .i64 l[i].1,.int .i64 l[i].2]:=by simp [frsV,h]
theorem frsV_length{l:List (Int×Int)}:(frsV l).length=l.length:=by simp [frsV]
theorem uG14_16_6{N:Nat}{l:List Oper}{t:List (Nat×V)}{m:Mem}{Q:Exit→List (Nat×V)→Mem→Prop}(h:RgN Tryz.prog N l t m Q (fun i=>if i==3 || i==7 || i==8 then .q else .p) [.one 0,.one 1,.one 2,.one 3,.one 4,.one 5,.one 6,.one 7,.one 8]):WA Tryz.prog N (.region 6 l.toArray true) t m Q:=d_rgN h
theorem fracs_c (a b:List (Int×Int)) (h1:a.length≤1000000) (h2:b.length≤1000000) (m:Mem):Gives Tryz.prog 16 [.lst (frsV a),.lst (frsV b)] m (.bool (decide (a=b))):=by
  have hla:=frsV_length (l:=a)
  have hlb:=frsV_length (l:=b)
  have hga:=hla
  have hgb:=hlb
  by_cases hl:a.length=b.length
  · generalize hE:decide (a=b)=E
    refine Gives_in Tryz.func16 rfl Tryz.ntmps16 Tryz.results16 (by kernel_rfl) (by simp) rfl fun Q hQ=>?_
    (have FX:=And.intro hla (And.intro hlb (And.intro hga hgb));repeat'(first|(refine sx ?_ ?_<;>intro h<;>first|(exfalso;omega)|skip)|refine ny ?_|refine WA_block ?_|(refine uG14_16_6 ?_;refine⟨by kernel_rfl,?_⟩)))
    refine WA_while (σ:=Nat) [0,1,5] (fun i=>[.lst (frsV a),.lst (frsV b),.int .i64 i]) (fun _=>lend m++[]) (fun i=>i≤a.length∧∀ j (h:j<a.length) (h':j<b.length),j<i→a[j]=b[j]) (fun i=>a.length - i) 0 ⟨Nat.zero_le _,fun j h1 h2 h3=>absurd h3 (Nat.not_lt_zero _)⟩ tv_ rfl ?_
    rintro i ⟨hi1,hi2⟩ K hK
    rcases Nat.lt_or_ge i a.length with hi|hi
    · have hga:=frsV_get hi
      have hgb:=frsV_get (l:=b) (i:=i) (by omega)
      simp only [zipT]
      clear FX
      (have FX:=And.intro hla (And.intro hlb (And.intro hga hgb));repeat'(first|(refine sx ?_ ?_<;>intro h<;>first|(exfalso;omega)|skip)|refine ny ?_|refine WA_block ?_|(refine uG14_16_6 ?_;refine⟨by kernel_rfl,?_⟩)))
      · (refine r_es hQ ?_;try with_reducible rfl)
        rename_i hne
        rw [←hE]
        simp only [V.bool.injEq]
        symm
        rw [decide_eq_false_iff_not]
        intro e
        subst e
        simp at h
      · refine next_ hK (i+1) ⟨hi,fun j h1 h2 h3=>?_⟩ (by omega)
        rcases Nat.lt_or_ge j i with q|q
        · exact hi2 j h1 h2 q
        · have:j=i:=by omega
          subst this
          have hb:j<b.length:=h2
          exact Prod.ext (by omega) (by omega)
    · simp only [zipT]
      clear FX
      (have FX:=And.intro hla (And.intro hlb (And.intro hga hgb));repeat'(first|(refine sx ?_ ?_<;>intro h<;>first|(exfalso;omega)|skip)|refine ny ?_|refine WA_block ?_|(refine uG14_16_6 ?_;refine⟨by kernel_rfl,?_⟩)))
      (refine r_es hQ ?_;try with_reducible rfl)
      rw [←hE]
      simp only [V.bool.injEq]
      symm
      rw [decide_eq_true_iff]
      apply List.ext_getElem hl
      intro j h1 h2
      exact hi2 j h1 h2 (by omega)
  · have hne:¬ a=b:=fun e=>hl (by rw [e])
    simp only [hne,decide_false]
    refine Gives_in Tryz.func16 rfl Tryz.ntmps16 Tryz.results16 (by kernel_rfl) (by simp) rfl fun Q hQ=>?_
    (have FX:=And.intro hla (And.intro hlb (And.intro hga hgb));repeat'(first|(refine sx ?_ ?_<;>intro h<;>first|(exfalso;omega)|skip)|refine ny ?_|refine WA_block ?_|(refine uG14_16_6 ?_;refine⟨by kernel_rfl,?_⟩)))
    (refine r_es hQ ?_;try with_reducible rfl)
theorem uG14_44_1{N:Nat}{l:List Oper}{t:List (Nat×V)}{m:Mem}{Q:Exit→List (Nat×V)→Mem→Prop}(h:RgN Tryz.prog N l t m Q (fun i=>if i==1 || i==3 || i==6 || i==9 || i==11 || i==14 || i==18 || i==20 then .q else .p) [.one 0,.one 1,.one 2,.one 3,.one 4,.one 5,.one 6,.one 7,.one 8,.one 9,.one 10,.one 11,.one 12,.one 13,.one 14,.one 15,.one 16,.one 17,.one 18,.one 19,.one 20,.one 21,.one 22,.one 23]):WA Tryz.prog N (.region 1 l.toArray true) t m Q:=d_rgN h
theorem bend_c(a b c d e:Int)(h:bearOk a b c d e)(m:Mem):Gives Tryz.prog 44 [.agg [.int .i64 a,.int .i64 b,.int .i64 c,.int .i64 d,.int .i64 e]] m (.tup [.int .i64 ((b - a) * e+(b - c) * d),.int .i64 (d * e)]):=by
  unfold bearOk at h
  obtain⟨h1,h2,h3,h4,h5⟩:=h
  have m1:=mulT (x:=b - a) (y:=e) (by omega) (by omega)
  have m2:=mulT (x:=b - c) (y:=d) (by omega) (by omega)
  have m3:=mulT3 h4 h5
  refine Gives_in Tryz.func44 rfl Tryz.ntmps44 Tryz.results44 (by kernel_rfl) (by simp) rfl fun Q hQ=>?_
  (repeat'(first|(refine sx ?_ ?_<;>intro h<;>first|(exfalso;omega)|skip)|refine ny ?_|refine WA_block ?_|(refine uG14_44_1 ?_;refine⟨by kernel_rfl,?_⟩)))
  (refine r_es hQ ?_;try with_reducible rfl)

theorem downbearing_ok(a b c d e t:Int)(hk:bearOk a b c d e)(ht:0≤t∧t≤10000000)(m:Mem):Gives Tryz.prog 15 [.agg [.int .i64 a,.int .i64 b,.int .i64 c,.int .i64 d,.int .i64 e],.int .i64 t] m (.tup [.agg [.int .i64 (lowF (t * ((b - a) * e+(b - c) * d)) (d * e)).1,.int .i64 (lowF (t * ((b - a) * e+(b - c) * d)) (d * e)).2],.int .i64 0]):=by
  have hif:(if bearOk a b c d e then (0:Int) else 2)=0:=if_pos hk
  have hk':=hk
  unfold bearOk at hk'
  obtain⟨h1,h2,h3,h4,h5⟩:=hk'
  have m1:=mulT (x:=b - a) (y:=e) (by omega) (by omega)
  have m2:=mulT (x:=b - c) (y:=d) (by omega) (by omega)
  have m3:=mulT3 h4 h5
  have m4:=mulT4 (x:=t) (y:=(b - a) * e+(b - c) * d) ht (by omega)
  unfold lowF
  refine Gives_in Tryz.func15 rfl Tryz.ntmps15 Tryz.results15 (by kernel_rfl) (by simp) rfl fun Q hQ=>?_
  (have FX:=hif;repeat'(first|(refine sx ?_ ?_<;>intro h<;>first|(exfalso;omega)|skip)|(refine g_op ?_;refine g_call ?_;refine g_args ?_;(first|refine s_fn (checkbearing_c _ _ _ _ _ _) ?_|refine s_fn (bend_c _ _ _ _ _ hk _) ?_|refine s_fn (lowest_c _ _ ?_ ?_ ?_ ?_ _) ?_)<;>try first|omega|assumption)|refine ny ?_|refine WA_block ?_))
  all_goals(refine r_es hQ ?_;try with_reducible rfl)
theorem cdiv_bd{n d:Int}(h0:0<d)(h1:0≤n):0≤cdiv n d∧cdiv n d≤n:=by
  unfold cdiv
  have a1: -n≤ -n / d:=(Int.le_ediv_iff_mul_le h0).2 (by
    have:n * 1≤n * d:=Int.mul_le_mul_of_nonneg_left (show(1:Int)≤d from h0) h1
    rw [Int.neg_mul];omega)
  have a2: -n / d≤0:=Int.le_of_lt_add_one (by
    have:=Int.ediv_lt_of_lt_mul h0 (show -n<(0+1) * d by omega)
    omega)
  omega
def compLo(lo hi c slo shi:Int):Int:=if c<0 then -(cdiv (100 * hi * (-c)) slo) else 100 * lo * c / shi
def compHi(lo hi c slo shi:Int):Int:=if c<0 then -(100 * lo * (-c) / shi) else cdiv (100 * hi * c) slo
theorem mul_bd{x c:Int}(h0:0≤x)(h1:x≤10000000000)(k0:0≤c)(k1:c≤1000000):0≤100 * x * c∧100 * x * c≤1000000000000000000:=by
  refine⟨Int.mul_nonneg (by omega) k0,?_⟩
  calc 100 * x * c≤1000000000000 * c:=Int.mul_le_mul_of_nonneg_right (by omega) k0
    _≤1000000000000 * 1000000:=Int.mul_le_mul_of_nonneg_left k1 (by omega)
    _≤_:=by omega
end Go.Proofs.YtjonlmpjdhoogaaGreatDoor
namespace Go.Proofs.YtjonlmpjdhoogaaGreatDoor
open Go.RowKit
attribute [local irreducible] WA WOs WDs WAn qThen qBlock tput
set_option maxHeartbeats 1000000
set_option maxRecDepth 20000
set_option linter.unusedSimpArgs false
set_option linter.unusedVariables false
open Classical in
theorem root_hundred{n r:Int}(h:10000≤n)(hr:IsRoot n r):100≤r:=by
  obtain⟨h1,h2,h3⟩:=hr
  rcases Int.lt_or_le r 100 with q|q
  · have:(r+1) * (r+1)≤100 * 100:=Int.mul_le_mul (by omega) (by omega) (by omega) (by omega)
    omega
  · exact q
theorem root_le{n r:Int}(hr:IsRoot n r):r≤n:=by
  obtain⟨h1,h2,h3⟩:=hr
  rcases Int.lt_or_le 0 r with q|q
  · have:=Int.mul_le_mul_of_nonneg_left (show(1:Int)≤r from q) h1
    omega
  · have:r=0:=by omega
    subst this;omega
def Plc(a b c:Int):Prop:=(-1000000≤a∧a≤1000000)∧(-1000000≤b∧b≤1000000)∧(-1000000≤c∧c≤1000000)
theorem sq_bd{d:Int}(h: -1000000≤d∧d≤1000000):0≤d * d∧d * d≤1000000000000∧(d * d=0→d=0):=by
  have h1:((d.natAbs:Int)) * (d.natAbs:Int)=d * d:=by
    rw [←Int.natCast_mul,Int.natAbs_mul_self]
  have h2:(d.natAbs:Int) * (d.natAbs:Int)≤1000000 * 1000000:=Int.mul_le_mul (by omega) (by omega) (by omega) (by omega)
  refine⟨by rw [←h1];exact Int.mul_nonneg (by omega) (by omega),by omega,fun h=>?_⟩
  rcases Int.mul_eq_zero.1 h with h|h<;>exact h
end Go.Proofs.YtjonlmpjdhoogaaGreatDoor
