import Derived.Test.YtomkbpoicjabfaaGreatDoorGAA
set_option linter.unusedSimpArgs false
set_option linter.unusedVariables false
/- contracts: names -/
namespace Go.Proofs.YtomkbpoicjabfaaGreatDoor
open Go.RowKit
attribute [local irreducible] WA WOs WDs WAn qThen qBlock tput
set_option maxHeartbeats 1000000
set_option maxRecDepth 20000
set_option linter.unusedSimpArgs false
set_option linter.unusedVariables false
def byt(s:List UInt8)(i:Nat):Int:=((s.getD i 0).toNat:Int)
def bytB(s:List UInt8):List (List V):=s.map fun b=>[V.int .u8 (b.toNat:Int)]
theorem bytB_length{s:List UInt8}:(bytB s).length=s.length:=by simp [bytB]
theorem byt_get{s:List UInt8}{i:Nat}(h:i<s.length):s[i]?=some (s.getD i 0):=by
  rw [List.getD_eq_getElem?_getD,List.getElem?_eq_getElem h];rfl
theorem bytB_get{s:List UInt8}{i:Nat}(h:i<s.length):(bytB s)[i]?=some [V.int .u8 (byt s i)]:=by
  unfold bytB byt;rw [List.getElem?_map,byt_get h];rfl
def letP(c:Int):Prop:=(97≤c∧c≤122)∨(65≤c∧c≤90)
def digP(c:Int):Prop:=48≤c∧c≤57
instance(c:Int):Decidable (letP c):=inferInstanceAs (Decidable (_∨_))
instance(c:Int):Decidable (digP c):=inferInstanceAs (Decidable (_∧_))
def okC(s:List UInt8)(i:Nat):Prop:=letP (byt s i)∨(i≠0∧(digP (byt s i)∨byt s i=45))
instance(s:List UInt8)(i:Nat):Decidable (okC s i):=inferInstanceAs (Decidable (_∨_))
/-- is a text a name -/
def nameP(s:List UInt8):Prop:=1≤s.length∧s.length≤12∧∀ i,i<s.length→okC s i
instance(s:List UInt8):Decidable (nameP s):=inferInstanceAs (Decidable (_∧_∧_))
theorem nameP_bad{s:List UInt8}{i:Nat}(h:i<s.length)(hn:¬ okC s i):decide (nameP s)=false:=decide_eq_false fun h1=>hn (h1.2.2 i h)
theorem str_eq_nil{s:List UInt8}:(s=[])↔s.length=0:=by simp

theorem aisname_c(s:List UInt8)(hs:s.length≤1000)(m:Mem):Gives Tryz.prog 41 [.str s] m (.bool (decide (nameP s))):=by
  have hln:=bytB_length (s:=s)
  have hgi:=hln
  refine Gives_in Tryz.func41 rfl Tryz.ntmps41 Tryz.results41 (by kernel_rfl) (by simp) rfl fun Q hQ=>?_
  (have FX:=And.intro hln hgi;repeat'(first|(refine sx ?_ ?_<;>intro h<;>first|(exfalso;omega)|skip)|refine ny ?_|refine WA_block ?_))
  refine s_cv ?_ (by first|exact lk_|fail) (Nat.le_trans hs (by decide))
  change WOs _ _ _ _ ((7,.lst (bytB s))::_) _ _
  (have FX:=And.intro hln hgi;repeat'(first|(refine sx ?_ ?_<;>intro h<;>first|(exfalso;omega)|skip)|refine ny ?_|refine WA_block ?_))
  refine WA_while (σ:=Nat) [0,2,7,8,9] (fun i=>[.str s,.bool false,.lst (bytB s),.int .i64 s.length,.int .i64 i]) (fun _=>lend m++[]) (fun i=>i≤s.length∧∀ j,j<i→okC s j) (fun i=>s.length - i) 0 ⟨Nat.zero_le _,fun j h=>absurd h (Nat.not_lt_zero _)⟩ tv_ rfl ?_
  rintro i ⟨hi,hj⟩ L hL
  simp only [zipT]
  clear FX
  rcases Nat.lt_or_ge i s.length with hlt|hge
  · have hgi:=bytB_get hlt
    have hok:okC s i↔(letP (byt s i)∨(i≠0∧(digP (byt s i)∨byt s i=45))):=Iff.rfl
    unfold letP digP at hok
    (have FX:=And.intro hln hgi;repeat'(first|(refine sx ?_ ?_<;>intro h<;>first|(exfalso;omega)|skip)|refine ny ?_|refine WA_block ?_))
    all_goals(try(exfalso;omega))
    all_goals try
      ((refine r_es hQ ?_;try with_reducible rfl)
       exact congrArg V.bool (nameP_bad hlt (fun h=>by have:=hok.1 h;omega)).symm)
    all_goals(refine next_ hL (i+1) ⟨by omega,fun j h=>?_⟩ (by omega))
    all_goals(rcases Nat.lt_or_ge j i with h2|h2)
    all_goals first
      |exact hj j h2
      | (obtain rfl:j=i:=by omega
         exact hok.2 (by omega))
  · have e:i=s.length:=by omega
    subst e
    have hgi:=hln
    have hnm:nameP s↔(1≤s.length∧s.length≤12):=⟨fun h=>⟨h.1,h.2.1⟩,fun h=>⟨h.1,h.2,hj⟩⟩
    have hne:s=[]↔s.length=0:=str_eq_nil
    (have FX:=And.intro hln hgi;repeat'(first|(refine sx ?_ ?_<;>intro h<;>first|(exfalso;omega)|skip)|refine ny ?_|refine WA_block ?_))
    all_goals(try(exfalso;omega))
    all_goals((refine r_es hQ ?_;try with_reducible rfl))
    all_goals(clear hQ hL;simp only [hne] at *)
    all_goals first
      |exact congrArg V.bool (decide_eq_true (hnm.2 (by omega))).symm
      |exact congrArg V.bool (decide_eq_false (fun h=>by have:=hnm.1 h;omega)).symm

theorem bisletter_c(c:Int)(m:Mem):Gives Tryz.prog 68 [.int .u8 c] m (.bool (decide (letP c))):=by
  refine Gives_in Tryz.func68 rfl Tryz.ntmps68 Tryz.results68 (by kernel_rfl) (by simp) rfl fun Q hQ=>?_
  (repeat'(first|(refine sx ?_ ?_<;>intro h<;>first|(exfalso;omega)|skip)|refine ny ?_|refine WA_block ?_))
  all_goals((refine r_es hQ ?_;try with_reducible rfl);unfold letP)
  all_goals(first|exact congrArg V.bool (decide_eq_true (by first|omega|simp_all)).symm|exact congrArg V.bool (decide_eq_false (by first|omega|simp_all)).symm|exact congrArg V.bool (decide_eq_decide.2 (by omega)))

theorem bisdigit_c(c:Int)(m:Mem):Gives Tryz.prog 69 [.int .u8 c] m (.bool (decide (digP c))):=by
  refine Gives_in Tryz.func69 rfl Tryz.ntmps69 Tryz.results69 (by kernel_rfl) (by simp) rfl fun Q hQ=>?_
  (repeat'(first|(refine sx ?_ ?_<;>intro h<;>first|(exfalso;omega)|skip)|refine ny ?_|refine WA_block ?_))
  all_goals((refine r_es hQ ?_;try with_reducible rfl);unfold digP)
  all_goals(first|exact congrArg V.bool (decide_eq_true (by first|omega|simp_all)).symm|exact congrArg V.bool (decide_eq_false (by first|omega|simp_all)).symm|exact congrArg V.bool (decide_eq_decide.2 (by omega)))

theorem bisname_c (s:List UInt8) (m:Mem):Gives Tryz.prog 35 [.str s] m (.bool (decide (nameP s))):=by
  rcases Nat.eq_zero_or_pos s.length with hz|hz
  · have hgi:=hz
    refine Gives_in Tryz.func35 rfl Tryz.ntmps35 Tryz.results35 (by kernel_rfl) (by simp) rfl fun Q hQ=>?_
    (have FX:=hgi;repeat'(first|(refine sx ?_ ?_<;>intro h<;>first|(exfalso;omega)|skip)|(refine g_op ?_;refine g_call ?_;refine g_args ?_;(first|refine s_fn (bisletter_c _ _) ?_|refine s_fn (bisdigit_c _ _) ?_)<;>try first|omega|assumption)|refine ny ?_|refine WA_block ?_))
    all_goals(try(exfalso;omega))
    all_goals((refine r_es hQ ?_;try with_reducible rfl))
    all_goals(exact congrArg V.bool (decide_eq_false (fun h=>by have:=h.1;omega)).symm)
  · have hgi:s[0]?=some (s.getD 0 0):=byt_get hz
    have hbd:byt s 0=((s.getD 0 0).toNat:Int):=rfl
    have hn0:nameP s→letP ((s.getD 0 0).toNat:Int):=fun hn=>by
      rcases hn.2.2 0 hz with h2|h2
      · exact h2
      · exact absurd rfl h2.1
    refine Gives_in Tryz.func35 rfl Tryz.ntmps35 Tryz.results35 (by kernel_rfl) (by simp) rfl fun Q hQ=>?_
    (have FX:=hgi;repeat'(first|(refine sx ?_ ?_<;>intro h<;>first|(exfalso;omega)|skip)|(refine g_op ?_;refine g_call ?_;refine g_args ?_;(first|refine s_fn (bisletter_c _ _) ?_|refine s_fn (bisdigit_c _ _) ?_)<;>try first|omega|assumption)|refine ny ?_|refine WA_block ?_))
    all_goals try
      ((refine r_es hQ ?_;try with_reducible rfl)
       exact congrArg V.bool (decide_eq_false (fun hn=>by first|(have h1:=hn.2.1;omega)|exact absurd (hn0 hn) (by assumption))).symm)
    have h0:letP ((s.getD 0 0).toNat:Int):=by assumption
    have h12:s.length≤12:=by omega
    refine WA_while (σ:=Nat) [0,2,3] (fun i=>[.str s,.bool false,.int .i64 i]) (fun _=>lend m++[]) (fun i=>i≤s.length∧∀ j,j<i→okC s j) (fun i=>s.length - i) 0 ⟨Nat.zero_le _,fun j h=>absurd h (Nat.not_lt_zero _)⟩ tv_ rfl ?_
    rintro i ⟨hi,hj⟩ L hL
    simp only [zipT]
    clear FX hgi
    rcases Nat.lt_or_ge i s.length with hlt|hge
    · have hgi:=byt_get hlt
      have hbi:byt s i=((s.getD i 0).toNat:Int):=rfl
      have hok:okC s i↔(letP ((s.getD i 0).toNat:Int)∨(i≠0∧(digP ((s.getD i 0).toNat:Int)∨((s.getD i 0).toNat:Int)=45))):=Iff.rfl
      have hz0:i=0→letP ((s.getD i 0).toNat:Int):=fun h=>by subst h;exact h0
      (have FX:=hgi;repeat'(first|(refine sx ?_ ?_<;>intro h<;>first|(exfalso;omega)|skip)|(refine g_op ?_;refine g_call ?_;refine g_args ?_;(first|refine s_fn (bisletter_c _ _) ?_|refine s_fn (bisdigit_c _ _) ?_)<;>try first|omega|assumption)|refine ny ?_|refine WA_block ?_))
      all_goals(try(exfalso;omega))
      all_goals try
        ((refine r_es hQ ?_;try with_reducible rfl)
         exact congrArg V.bool (nameP_bad hlt (fun h=>by have:=hok.1 h;grind)).symm)
      all_goals(refine next_ hL (i+1) ⟨by omega,fun j h=>?_⟩ (by omega))
      all_goals(rcases Nat.lt_or_ge j i with h2|h2)
      all_goals first
        |exact hj j h2
        | (obtain rfl:j=i:=by omega
           exact hok.2 (by grind))
    · have e:i=s.length:=by omega
      subst e
      have hgi:=hbd
      (have FX:=hgi;repeat'(first|(refine sx ?_ ?_<;>intro h<;>first|(exfalso;omega)|skip)|(refine g_op ?_;refine g_call ?_;refine g_args ?_;(first|refine s_fn (bisletter_c _ _) ?_|refine s_fn (bisdigit_c _ _) ?_)<;>try first|omega|assumption)|refine ny ?_|refine WA_block ?_))
      all_goals(try(exfalso;omega))
      all_goals((refine r_es hQ ?_;try with_reducible rfl))
      all_goals(exact congrArg V.bool (decide_eq_true ⟨hz,h12,hj⟩).symm)
abbrev B64(n:Int):Prop:= -9223372036854775807≤n∧n≤9223372036854775807

theorem acheck_c(n d:Int)(h1:B64 n)(h2:B64 d)(m:Mem):Gives Tryz.prog 78 [.agg [.int .i64 n,.int .i64 d]] m (.int .i64 (frErr n d)):=by
  refine Gives_in Tryz.func78 rfl Tryz.ntmps78 Tryz.results78 (by kernel_rfl) (by simp) rfl fun Q hQ=>?_
  (repeat'(first|(refine sx ?_ ?_<;>intro h<;>first|(exfalso;omega)|skip)|(refine g_op ?_;refine g_call ?_;refine g_args ?_;(first|refine s_fn (agcd_c _ _ ?_ ?_ ?_ ?_ _) ?_|refine s_fn (awithin_c _ _ _ _) ?_)<;>try first|omega|assumption)|refine ny ?_|refine WA_block ?_))
  all_goals((refine r_es hQ ?_;try with_reducible rfl))
  all_goals(unfold frErr;simp only [V.int.injEq,true_and])
  all_goals first
    |(rw [if_pos (by omega)];done)
    |(rw [if_neg (by omega)];first|(rw [if_pos (by omega)];done)|(rw [if_neg (by omega)];done))
    |skip

theorem acompare_r(a b c d:Int)(h1: -1000000000000000000≤a * d∧a * d≤1000000000000000000)(h2: -1000000000000000000≤c * b∧c * b≤1000000000000000000)(m:Mem):Gives Tryz.prog 80 [.agg [.int .i64 a,.int .i64 b],.agg [.int .i64 c,.int .i64 d]] m (.int .i64 (cmpI (a * d) (c * b))):=by
  refine Gives_in Tryz.func80 rfl Tryz.ntmps80 Tryz.results80 (by kernel_rfl) (by simp) rfl fun Q hQ=>?_
  (repeat'(first|(refine sx ?_ ?_<;>intro h<;>first|(exfalso;omega)|skip)|(refine g_op ?_;refine g_call ?_;refine g_args ?_;(first|refine s_fn (ccompare_c _ _ _) ?_)<;>try first|omega|assumption)|refine ny ?_|refine WA_block ?_))
  all_goals(refine r_es hQ ?_;try with_reducible rfl)
def cmpQ(p q:Rat):Int:=if p<q then -1 else if q<p then 1 else 0
theorem cmpQ_int(p q:Rat):cmpI (p.num * q.den) (q.num * p.den)=cmpQ p q:=by
  unfold cmpI cmpQ
  by_cases h1:p<q
  · rw [if_pos h1,if_pos ((cmp_lt p q).2 h1)]
  · rw [if_neg h1,if_neg (fun h=>h1 ((cmp_lt p q).1 h))]
    by_cases h2:q<p
    · rw [if_pos h2,if_pos ((cmp_lt q p).2 h2)]
    · rw [if_neg h2,if_neg (fun h=>h2 ((cmp_lt q p).1 h))]
theorem sm_prod{p q:Rat}(hp:sm p)(hq:sm q): -1000000000000000000≤p.num * (q.den:Int)∧p.num * (q.den:Int)≤1000000000000000000:=by
  obtain⟨a1,a2,a3⟩:=hp
  obtain⟨b1,b2,b3⟩:=hq
  have:=den_pos' q
  exact sm_mul ⟨a1,a2⟩ ⟨by omega,b3⟩
theorem acompare_c(p q:Rat)(hp:sm p)(hq:sm q)(m:Mem):Gives Tryz.prog 80 [.agg [.int .i64 (Rat.num (p)),.int .i64 ((Rat.den (p):Nat):Int)],.agg [.int .i64 (Rat.num (q)),.int .i64 ((Rat.den (q):Nat):Int)]] m (.int .i64 (cmpQ p q)):=by
  rw [←cmpQ_int]
  exact acompare_r _ _ _ _ (sm_prod hp hq) (sm_prod hq hp) m
/-- what a fraction brought to lowest terms is bounded by -/
theorem fit_bd{n d:Int}(hd:d≠0)(hn:B64 n)(hd2:B64 d):B64 (Rat.divInt n d).num∧B64 ((Rat.divInt n d).den:Int)∧1≤(Int.gcd n d:Int)∧(Int.gcd n d:Int)≤9223372036854775807:=by
  have hg:0<(Int.gcd n d:Int):=by
    have:=Int.gcd_pos_iff.2 (Or.inr hd:n≠0∨d≠0)
    omega
  have h1:(n.tdiv (if d<0 then -(Int.gcd n d:Int) else Int.gcd n d)).natAbs≤n.natAbs:=by
    rw [Int.natAbs_tdiv];exact Nat.div_le_self _ _
  have h2:(d.tdiv (if d<0 then -(Int.gcd n d:Int) else Int.gcd n d)).natAbs≤d.natAbs:=by
    rw [Int.natAbs_tdiv];exact Nat.div_le_self _ _
  rw [fit_num hd,fit_den hd]
  have h3:Int.gcd n d≤d.natAbs:=Nat.le_of_dvd (by omega) (Int.gcd_dvd_natAbs_right n d)
  unfold B64 at *
  omega
end Go.Proofs.YtomkbpoicjabfaaGreatDoor
