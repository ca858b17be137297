import Derived.Test.YtnablpehkeicmaaGreatYA
import Derived.Test.YtnablpehkeicmaaGreatYC
set_option linter.unusedSimpArgs false
set_option linter.unusedVariables false
/- fractions as rational numbers -/
namespace Go.Proofs.YtnablpehkeicmaaGreat
def sm(q:Rat):Prop:= -1000000000≤q.num∧q.num≤1000000000∧(q.den:Int)≤1000000000
instance(q:Rat):Decidable (sm q):=inferInstanceAs (Decidable (_∧_∧_))
def smB(q:Rat):Bool:=decide (sm q)
def cut(q:Rat):Rat:=if sm q then q else 0
theorem sm_zero:sm 0:=⟨by decide,by decide,by decide⟩
theorem sm_cut(q:Rat):sm (cut q):=by
  unfold cut;split
  · assumption
  · exact sm_zero
theorem cut_sm{q:Rat}(h:sm q):cut q=q:=if_pos h
theorem smB_iff{q:Rat}:smB q=true↔sm q:=decide_eq_true_iff
theorem smB_of{q:Rat}(h:sm q):smB q=true:=decide_eq_true h
theorem den_pos'(q:Rat):1≤(q.den:Int):=by have:=q.den_pos;omega
theorem red(q:Rat):Int.gcd q.num q.den=1:=q.reduced
/-- what a fraction is brought to -/
theorem fit_num{n d:Int}(hd:d≠0):(Rat.divInt n d).num=n.tdiv (if d<0 then -(Int.gcd n d:Int) else Int.gcd n d):=by
  rw [Rat.num_divInt,Int.gcd_comm d n]
  have hg:(Int.gcd n d:Int) ∣ n:=Int.gcd_dvd_left ..
  generalize (Int.gcd n d:Int)=g at*
  split
  · rename_i h
    rw [Int.sign_eq_neg_one_of_neg h,Int.tdiv_neg,Int.tdiv_eq_ediv_of_dvd hg,Int.neg_one_mul,Int.neg_ediv_of_dvd hg]
  · rename_i h
    rw [Int.sign_eq_one_of_pos (by omega),Int.one_mul,Int.tdiv_eq_ediv_of_dvd hg]
theorem fit_den{n d:Int}(hd:d≠0):((Rat.divInt n d).den:Int)=d.tdiv (if d<0 then -(Int.gcd n d:Int) else Int.gcd n d):=by
  rw [Rat.den_divInt,if_neg hd,Int.gcd_comm d n]
  have hg:(Int.gcd n d:Int) ∣ d:=Int.gcd_dvd_right ..
  split
  · rename_i h
    rw [Int.tdiv_neg,Int.tdiv_eq_ediv_of_dvd hg,Int.natCast_ediv,←Int.neg_ediv_of_dvd hg]
    congr 1;omega
  · rename_i h
    rw [Int.tdiv_eq_ediv_of_dvd hg,Int.natCast_ediv]
    congr 1;omega
theorem fit_low{n d:Int}(hd:1≤d)(hg:Int.gcd n d=1):(Rat.divInt n d).num=n∧((Rat.divInt n d).den:Int)=d:=by
  rw [fit_num (by omega),fit_den (by omega),if_neg (by omega),hg]
  simp
theorem fit_of(q:Rat):Rat.divInt q.num (q.den:Int)=q:=Rat.num_divInt_den q
theorem add_fit(a b:Rat):Rat.divInt (a.num*b.den+b.num*a.den) ((a.den:Int)*b.den)=a+b:=by
  rw [Rat.add_def',←Rat.divInt_ofNat,Int.natCast_mul]
theorem sub_fit(a b:Rat):Rat.divInt (a.num*b.den - b.num*a.den) ((a.den:Int)*b.den)=a - b:=by
  rw [Rat.sub_def',←Rat.divInt_ofNat,Int.natCast_mul]
theorem mul_fit(a b:Rat):Rat.divInt (a.num*b.num) ((a.den:Int)*b.den)=a*b:=by
  rw [Rat.mul_def',←Rat.divInt_ofNat,Int.natCast_mul]
theorem div_fit(a b:Rat):Rat.divInt (a.num*b.den) ((a.den:Int)*b.num)=a / b:=by
  rw [Rat.div_def,Rat.inv_def]
  conv=>rhs;rw [←fit_of a]
  rw [Rat.divInt_mul_divInt]
theorem num_ne{q:Rat}(h:q≠0):q.num≠0:=fun e=>h (Rat.num_eq_zero.1 e)
theorem cmp_lt(a b:Rat):a.num*b.den<b.num*a.den↔a<b:=(Rat.lt_iff a b).symm
theorem rat_ext{a b:Rat}(h1:a.num=b.num)(h2:(a.den:Int)=b.den):a=b:=Rat.ext h1 (by omega)
theorem whole_num(n:Int):((n:Rat)).num=n∧((n:Rat)).den=1:=⟨rfl,rfl⟩
/-- bounds of what is computed with small ones -/
theorem sm_mul{a b:Int}(ha: -1000000000≤a∧a≤1000000000)(hb: -1000000000≤b∧b≤1000000000): -1000000000000000000≤a*b∧a*b≤1000000000000000000:=by
  have h1:(a*b).natAbs=a.natAbs*b.natAbs:=Int.natAbs_mul ..
  have h2:a.natAbs*b.natAbs≤1000000000*1000000000:=Nat.mul_le_mul (by omega) (by omega)
  omega
theorem sm_den{a b:Rat}(ha:sm a)(hb:sm b):1≤(a.den:Int)*b.den∧(a.den:Int)*b.den≤1000000000000000000:=by
  obtain⟨_,_,h3⟩:=ha
  obtain⟨_,_,k3⟩:=hb
  have:=den_pos' a
  have:=den_pos' b
  have h:=sm_mul (a:=a.den) (b:=b.den) (by omega) (by omega)
  have:1*1≤(a.den:Int)*b.den:=Int.mul_le_mul (by omega) (by omega) (by omega) (by omega)
  omega
abbrev Pt:=Rat×Rat
abbrev Rk:=(Int×Int)×(Int×Int)
def frErr(n d:Int):Int:=if d<1∨Int.gcd n d≠1 then 3 else if n< -1000000000∨1000000000<n∨1000000000<d then 2 else 0
def toQ(p:Int×Int):Rat:=Rat.divInt p.1 p.2
def toP(k:Rk):Pt:=(toQ k.1,toQ k.2)
def rawQ(q:Rat):Int×Int:=(q.num,q.den)
def raw(p:Pt):Rk:=(rawQ p.1,rawQ p.2)
def at'(c:List Pt)(i:Nat):Pt:=c.getD i (0,0)
def sl(a b:Pt):Rat:=(b.2 - a.2) / (b.1 - a.1)
def slOk(a b:Pt):Prop:=sm (b.2 - a.2)∧sm (b.1 - a.1)∧sm (sl a b)
instance(a b:Pt):Decidable (slOk a b):=inferInstanceAs (Decidable (_∧_∧_))
theorem frErr_ok{n d:Int}(h:frErr n d=0):1≤d∧Int.gcd n d=1∧ -1000000000≤n∧n≤1000000000∧d≤1000000000:=by
  unfold frErr at h
  split at h
  · simp at h
  · split at h
    · simp at h
    · omega
theorem frErr_q{n d:Int}(h:frErr n d=0):rawQ (toQ (n,d))=(n,d)∧sm (toQ (n,d)):=by
  obtain⟨h1,h2,h3,h4,h5⟩:=frErr_ok h
  obtain⟨e1,e2⟩:=fit_low h1 h2
  refine⟨?_,?_⟩
  · unfold rawQ toQ;rw [e1,e2]
  · unfold sm toQ;rw [e1,e2];exact⟨h3,h4,h5⟩
theorem frErr_raw(q:Rat):frErr q.num q.den=if sm q then 0 else 2:=by
  have h1:=den_pos' q
  have h2:=red q
  unfold frErr
  rw [if_neg (by omega)]
  by_cases h:sm q
  · rw [if_pos h]
    unfold sm at h
    rw [if_neg (by omega)]
  · rw [if_neg h]
    unfold sm at h
    rw [if_pos (by omega)]
/-- the first error -/
def firstE(f:Nat→Int):Nat→Int
  |0=>0
  |n+1=>if firstE f n≠0 then firstE f n else f n
theorem firstE_zero {f:Nat→Int}:∀ {n:Nat},firstE f n=0↔∀ i,i<n→f i=0
  |0=>by simp [firstE]
  | n + 1 =>by
    simp only [firstE]
    have ih:=firstE_zero (f:=f) (n:=n)
    constructor
    · intro h i hi
      split at h
      · contradiction
      · rename_i h0
        rcases Nat.lt_or_ge i n with h1|h1
        · exact ih.1 (by simpa using h0) i h1
        · have:i=n:=by omega
          subst this;exact h
    · intro h
      rw [if_neg (by simpa using ih.2 fun i hi=>h i (by omega))]
      exact h n (by omega)
theorem firstE_at{f:Nat→Int}{i:Nat}(h0:∀ j,j<i→f j=0)(h:f i≠0):∀ {n:Nat},i<n→firstE f n=f i
  |0,hi=>by omega
  | n +1,hi=>by
    simp only [firstE]
    rcases Nat.lt_or_ge i n with h1|h1
    · have:=firstE_at h0 h h1
      rw [this,if_pos h]
    · have e:i=n:=by omega
      subst e
      rw [if_neg (by simpa using firstE_zero.2 h0)]
def rk0:Rk:=((0,0),(0,0))
def cuErrAt(l:List Rk)(i:Nat):Int:=
  let k:=l.getD i rk0
  if frErr k.1.1 k.1.2≠0 then frErr k.1.1 k.1.2 else if frErr k.2.1 k.2.2≠0 then frErr k.2.1 k.2.2 else
  if i=0 then 0 else
  let p:=l.getD (i - 1) rk0
  if (toP k).1≤(toP p).1 then 9 else if slOk (toP p) (toP k) then 0 else 8
def cuErr(l:List Rk):Int:=if l.length<1∨60<l.length then 10 else firstE (cuErrAt l) l.length
/-- a right curve -/
structure Valid(c:List Pt):Prop where
  ne:1≤c.length
  few:c.length≤60
  sm:∀ i,i<c.length→sm (at' c i).1∧sm (at' c i).2
  up:∀ i,i+1<c.length→(at' c i).1<(at' c (i+1)).1
  sl:∀ i,i+1<c.length→slOk (at' c i) (at' c (i+1))
theorem at_get{c:List Pt}{i:Nat}(h:i<c.length):c[i]?=some (at' c i):=by
  unfold at';rw [List.getD_eq_getElem?_getD,List.getElem?_eq_getElem h];rfl
theorem cuErrAt_zero {l:List Rk} {i:Nat}:cuErrAt l i=0↔frErr (l.getD i rk0).1.1 (l.getD i rk0).1.2=0∧frErr (l.getD i rk0).2.1 (l.getD i rk0).2.2=0∧
    (i=0∨((toP (l.getD (i - 1) rk0)).1<(toP (l.getD i rk0)).1∧slOk (toP (l.getD (i - 1) rk0)) (toP (l.getD i rk0)))):=by
  unfold cuErrAt
  simp only
  by_cases h1:frErr (l.getD i rk0).1.1 (l.getD i rk0).1.2=0
  · by_cases h2:frErr (l.getD i rk0).2.1 (l.getD i rk0).2.2=0
    · rw [if_neg (by simpa using h1),if_neg (by simpa using h2)]
      by_cases h3:i=0
      · simp [h3];exact⟨by rw [←h3];exact h1,by rw [←h3];exact h2⟩
      · rw [if_neg h3]
        by_cases h4:(toP (l.getD i rk0)).1≤(toP (l.getD (i - 1) rk0)).1
        · rw [if_pos h4]
          simp only [h1,h2,h3,true_and,false_or]
          constructor
          · intro h;omega
          · intro h;exact absurd h.1 (Rat.not_lt.2 h4)
        · rw [if_neg h4]
          simp only [h1,h2,h3,true_and,false_or,Rat.not_le.1 h4]
          by_cases h5:slOk (toP (l.getD (i - 1) rk0)) (toP (l.getD i rk0))
          · simp [h5]
          · simp [h5]
    · rw [if_neg (by simpa using h1),if_pos h2];exact⟨fun h=>absurd h h2,fun h=>absurd h.2.1 h2⟩
  · rw [if_pos h1];exact⟨fun h=>absurd h h1,fun h=>absurd h.1 h1⟩
theorem rk_raw{k:Rk}(h1:frErr k.1.1 k.1.2=0)(h2:frErr k.2.1 k.2.2=0):raw (toP k)=k∧sm (toP k).1∧sm (toP k).2:=by
  obtain⟨⟨a,b⟩,⟨c,d⟩⟩:=k
  obtain⟨e1,e2⟩:=frErr_q h1
  obtain⟨e3,e4⟩:=frErr_q h2
  refine⟨?_,e2,e4⟩
  unfold raw toP
  simp only at*
  rw [e1,e3]
theorem rk_getD{l:List Rk}{i:Nat}(h:i<l.length):l[i]?=some (l.getD i rk0):=by
  rw [List.getD_eq_getElem?_getD,List.getElem?_eq_getElem h];rfl
theorem cuErr_ok {l:List Rk} (h:cuErr l=0):Valid (l.map toP)∧(l.map toP).map raw=l:=by
  unfold cuErr at h
  split at h
  · simp at h
  · rename_i hn
    rw [firstE_zero] at h
    have hg:∀ i,i<l.length→at' (l.map toP) i=toP (l.getD i rk0):=by
      intro i hi
      unfold at'
      rw [List.getD_eq_getElem?_getD,List.getElem?_map,rk_getD hi];rfl
    refine⟨⟨by simp;omega,by simp;omega,?_,?_,?_⟩,?_⟩
    · intro i hi
      rw [List.length_map] at hi
      obtain⟨h1,h2,_⟩:=cuErrAt_zero.1 (h i hi)
      rw [hg i hi]
      exact(rk_raw h1 h2).2
    · intro i hi
      rw [List.length_map] at hi
      obtain⟨h1,h2,h3⟩:=cuErrAt_zero.1 (h (i+1) hi)
      rw [hg i (by omega),hg (i+1) hi]
      rcases h3 with h3|h3
      · omega
      · exact h3.1
    · intro i hi
      rw [List.length_map] at hi
      obtain⟨h1,h2,h3⟩:=cuErrAt_zero.1 (h (i+1) hi)
      rw [hg i (by omega),hg (i+1) hi]
      rcases h3 with h3|h3
      · omega
      · exact h3.2
    · rw [List.map_map]
      apply List.ext_getElem?
      intro i
      rw [List.getElem?_map]
      rcases Nat.lt_or_ge i l.length with hi|hi
      · rw [rk_getD hi]
        obtain⟨h1,h2,_⟩:=cuErrAt_zero.1 (h i hi)
        exact congrArg some (rk_raw h1 h2).1
      · rw [List.getElem?_eq_none hi];rfl
/-- how many corners lie at x or before -/
def cnt(c:List Pt)(x:Rat):Nat:=(c.takeWhile fun k=>decide (k.1≤x)).length
theorem cnt_le(c:List Pt)(x:Rat):cnt c x≤c.length:=(List.takeWhile_prefix _).length_le
theorem at_cons(k:Pt)(c:List Pt)(i:Nat):at' (k::c) (i+1)=at' c i:=rfl
theorem cnt_lt:∀ {c:List Pt} {x:Rat} {i:Nat},i<cnt c x→(at' c i).1≤x
  |[],x,i,h=>by simp [cnt] at h
  | k ::c,x,i,h=>by
    unfold cnt at h
    rw [List.takeWhile_cons] at h
    split at h
    · rename_i hk
      rcases i with _|i
      · exact of_decide_eq_true hk
      · rw [at_cons];exact cnt_lt (by simpa [cnt] using h)
    · simp at h
theorem cnt_at:∀ {c:List Pt} {x:Rat},cnt c x<c.length→x<(at' c (cnt c x)).1
  |[],x,h=>by simp at h
  | k ::c,x,h=>by
    unfold cnt at h ⊢
    rw [List.takeWhile_cons] at h ⊢
    split at h
    · rename_i hk
      rw [if_pos hk]
      simp only [List.length_cons] at h ⊢
      rw [at_cons]
      exact cnt_at (by simpa [cnt] using h)
    · rename_i hk
      rw [if_neg hk]
      have hk':¬ k.1≤x:=by simpa using hk
      exact Rat.not_le.1 hk'
def Asc(c:List Pt):Prop:=∀ i,i+1<c.length→(at' c i).1<(at' c (i+1)).1
theorem Asc.lt{c:List Pt}(h:Asc c){i:Nat}:∀ {j:Nat},i<j→j<c.length→(at' c i).1<(at' c j).1
  |0,hij,_=>by omega
  | j +1,hij,hj=>by
    rcases Nat.lt_or_ge i j with h1|h1
    · have a:=h.lt h1 (by omega)
      have b:=h j hj
      grind
    · have:i=j:=by omega
      subst this;exact h i hj
theorem Asc.le{c:List Pt}(h:Asc c){i j:Nat}(hij:i≤j)(hj:j<c.length):(at' c i).1≤(at' c j).1:=by
  rcases Nat.lt_or_ge i j with h1|h1
  · exact Rat.le_of_lt (h.lt h1 hj)
  · have:i=j:=by omega
    subst this;exact Rat.le_refl
theorem Valid.asc{c:List Pt}(h:Valid c):Asc c:=h.up
theorem cnt_iff{c:List Pt}(h:Asc c){x:Rat}{i:Nat}(hi:i<c.length):i<cnt c x↔(at' c i).1≤x:=by
  refine⟨cnt_lt,fun h1=>?_⟩
  rcases Nat.lt_or_ge i (cnt c x) with h2|h2
  · exact h2
  · have h3:=cnt_at (c:=c) (x:=x) (by omega)
    have h4:=h.le h2 hi
    grind
theorem cnt_uniq{c:List Pt}{x:Rat}(h:Asc c){n:Nat}(hn:n≤c.length)(h1:∀ j,j<n→(at' c j).1≤x)(h2:∀ j,n≤j→j<c.length→x<(at' c j).1):n=cnt c x:=by
  have hc:=cnt_le c x
  rcases Nat.lt_trichotomy n (cnt c x) with h3|h3|h3
  · have a:=cnt_lt h3
    have b:=h2 n (Nat.le_refl _) (by omega)
    grind
  · exact h3
  · have a:=h1 _ h3
    have b:=cnt_at (c:=c) (x:=x) (by omega)
    grind
/-! the value of a curve -/
theorem Valid.pos{c:List Pt}(h:Valid c):0<c.length:=h.ne
end Go.Proofs.YtnablpehkeicmaaGreat
namespace Go.Proofs.YtnablpehkeicmaaGreat
open Go.RowKit
attribute [local irreducible] WA WOs WDs WAn qThen qBlock tput
set_option maxHeartbeats 1000000
set_option maxRecDepth 20000
set_option linter.unusedSimpArgs false
set_option linter.unusedVariables false
def cmpIA(x y:Int):Int:=if x<y then -1 else if y<x then 1 else 0
theorem awithin_c(n lo hi:Int)(m:Mem):Gives Tryz.prog 53 [.int .i64 n,.int .i64 lo,.int .i64 hi] m (.bool (decide (lo≤n∧n≤hi))):=by
  refine Gives_in Tryz.func53 rfl Tryz.ntmps53 Tryz.results53 (by kernel_rfl) (by simp) rfl fun Q hQ=>?_
  (repeat'(first|(refine sx ?_ ?_<;>intro h<;>first|(exfalso;omega)|skip)|refine ny ?_|refine WA_block ?_))
  all_goals((refine r_es hQ ?_;try with_reducible rfl);simp only [V.bool.injEq,decide_eq_true_eq,decide_eq_false_iff_not,eq_comm];first|omega|(simp;omega)|simp)

theorem awhole_c(n:Int)(m:Mem):Gives Tryz.prog 80 [.int .i64 n] m (.agg [.int .i64 n,.int .i64 1]):=by
  refine Gives_in Tryz.func80 rfl Tryz.ntmps80 Tryz.results80 (by kernel_rfl) (by simp) rfl fun Q hQ=>?_
  (repeat'(first|(refine sx ?_ ?_<;>intro h<;>first|(exfalso;omega)|skip)|refine ny ?_|refine WA_block ?_))
  all_goals(refine r_es hQ ?_;try with_reducible rfl)

theorem cnan_cA(n:Int)(m:Mem):Gives Tryz.prog 47 [.int .i64 n] m (.bool false):=by
  refine Gives_in Tryz.func47 rfl Tryz.ntmps47 Tryz.results47 (by kernel_rfl) (by simp) rfl fun Q hQ=>?_
  (repeat'(first|(refine sx ?_ ?_<;>intro h<;>first|(exfalso;omega)|skip)|refine ny ?_|refine WA_block ?_))
  all_goals((refine r_es hQ ?_;try with_reducible rfl);try simp)

theorem ccompare_cA(x y:Int)(m:Mem):Gives Tryz.prog 24 [.int .i64 x,.int .i64 y] m (.int .i64 (cmpIA x y)):=by
  refine Gives_in Tryz.func24 rfl Tryz.ntmps24 Tryz.results24 (by kernel_rfl) (by simp) rfl fun Q hQ=>?_
  (repeat'(first|(refine sx ?_ ?_<;>intro h<;>first|(exfalso;omega)|skip)|(refine na ?_;(first|refine nb (cnan_cA _) ?_)<;>try first|omega|assumption)|refine ny ?_|refine WA_block ?_))
  all_goals((refine r_es hQ ?_;try with_reducible rfl);unfold cmpIA;simp only [V.int.injEq,true_and];repeat (first|rw [if_pos (by assumption)]|rw [if_neg (by assumption)]))
theorem uC1_117_2{N:Nat}{l:List Oper}{t:List (Nat×V)}{m:Mem}{Q:Exit→List (Nat×V)→Mem→Prop}(h:RgN Tryz.prog N l t m Q (fun _=> .p) [.one 0,.one 1,.one 2,.one 3,.one 4,.one 5]):WA Tryz.prog N (.region 2 l.toArray true) t m Q:=d_rgN h
theorem agcd_c(a b:Int)(h1: -9223372036854775807≤a)(h2:a≤9223372036854775807)(h3: -9223372036854775807≤b)(h4:b≤9223372036854775807)(m:Mem):Gives Tryz.prog 117 [.int .i64 a,.int .i64 b] m (.int .i64 (Int.gcd a b)):=by
  refine Gives_in Tryz.func117 rfl Tryz.ntmps117 Tryz.results117 (by kernel_rfl) (by simp) rfl fun Q hQ=>?_
  (repeat'(first|(refine sx ?_ ?_<;>intro h<;>first|(exfalso;omega)|skip)|refine ny ?_|refine WA_block ?_|(refine uC1_117_2 ?_;refine⟨by kernel_rfl,?_⟩)))
  refine WA_while (σ:=Int×Int) [0,1] (fun s=>[.int .i64 s.1,.int .i64 s.2]) (fun _=>lend m++[]) (fun s=>(-9223372036854775807≤s.1∧s.1≤9223372036854775807)∧(-9223372036854775807≤s.2∧s.2≤9223372036854775807)∧Int.gcd s.1 s.2=Int.gcd a b) (fun s=>s.2.natAbs) (a,b) ⟨⟨h1,h2⟩,⟨h3,h4⟩,rfl⟩ tv_ rfl ?_
  rintro⟨p,q⟩ ⟨⟨hp1,hp2⟩,⟨hq1,hq2⟩,hg⟩ L hL
  dsimp only at hp1 hp2 hq1 hq2 hg
  simp only [zipT]
  (repeat'(first|(refine sx ?_ ?_<;>intro h<;>first|(exfalso;omega)|skip)|refine ny ?_|refine WA_block ?_|(refine uC1_117_2 ?_;refine⟨by kernel_rfl,?_⟩)))
  · have hm:=tmod_bd p q ⟨hp1,hp2⟩ (by assumption)
    exact next_ hL (q,p.tmod q) ⟨⟨hq1,hq2⟩,hm.1,(gcd_tmod p q).trans hg⟩ hm.2
  all_goals((refine r_es hQ ?_;try with_reducible rfl);have hq0:q=0:=by omega)
  all_goals(subst hq0;rw [←hg];simp;try omega)
abbrev B64(n:Int):Prop:= -9223372036854775807≤n∧n≤9223372036854775807

theorem acheck_c(n d:Int)(h1:B64 n)(h2:B64 d)(m:Mem):Gives Tryz.prog 118 [.agg [.int .i64 n,.int .i64 d]] m (.int .i64 (frErr n d)):=by
  refine Gives_in Tryz.func118 rfl Tryz.ntmps118 Tryz.results118 (by kernel_rfl) (by simp) rfl fun Q hQ=>?_
  (repeat'(first|(refine sx ?_ ?_<;>intro h<;>first|(exfalso;omega)|skip)|(refine na ?_;(first|refine s_fn (agcd_c _ _ ?_ ?_ ?_ ?_ _) ?_|refine nb (awithin_c _ _ _) ?_)<;>try first|omega|assumption)|refine ny ?_|refine WA_block ?_))
  all_goals((refine r_es hQ ?_;try with_reducible rfl))
  all_goals(unfold frErr;simp only [V.int.injEq,true_and])
  all_goals first
    |(rw [if_pos (by omega)];done)
    |(rw [if_neg (by omega)];first|(rw [if_pos (by omega)];done)|(rw [if_neg (by omega)];done))
    |skip

theorem acompare_r(a b c d:Int)(h1: -1000000000000000000≤a*d∧a*d≤1000000000000000000)(h2: -1000000000000000000≤c*b∧c*b≤1000000000000000000)(m:Mem):Gives Tryz.prog 98 [.agg [.int .i64 a,.int .i64 b],.agg [.int .i64 c,.int .i64 d]] m (.int .i64 (cmpIA (a*d) (c*b))):=by
  refine Gives_in Tryz.func98 rfl Tryz.ntmps98 Tryz.results98 (by kernel_rfl) (by simp) rfl fun Q hQ=>?_
  (repeat'(first|(refine sx ?_ ?_<;>intro h<;>first|(exfalso;omega)|skip)|(refine na ?_;(first|refine nb (ccompare_cA _ _) ?_)<;>try first|omega|assumption)|refine ny ?_|refine WA_block ?_))
  all_goals(refine r_es hQ ?_;try with_reducible rfl)
def cmpQ(p q:Rat):Int:=if p<q then -1 else if q<p then 1 else 0
theorem cmpQ_int(p q:Rat):cmpIA (p.num*q.den) (q.num*p.den)=cmpQ p q:=by
  unfold cmpIA cmpQ
  by_cases h1:p<q
  · rw [if_pos h1,if_pos ((cmp_lt p q).2 h1)]
  · rw [if_neg h1,if_neg (fun h=>h1 ((cmp_lt p q).1 h))]
    by_cases h2:q<p
    · rw [if_pos h2,if_pos ((cmp_lt q p).2 h2)]
    · rw [if_neg h2,if_neg (fun h=>h2 ((cmp_lt q p).1 h))]
theorem sm_prod{p q:Rat}(hp:sm p)(hq:sm q): -1000000000000000000≤p.num*(q.den:Int)∧p.num*(q.den:Int)≤1000000000000000000:=by
  obtain⟨a1,a2,a3⟩:=hp
  obtain⟨b1,b2,b3⟩:=hq
  have:=den_pos' q
  exact sm_mul ⟨a1,a2⟩ ⟨by omega,b3⟩
theorem acompare_c(p q:Rat)(hp:sm p)(hq:sm q)(m:Mem):Gives Tryz.prog 98 [.agg [.int .i64 (Rat.num (p)),.int .i64 ((Rat.den (p):Nat):Int)],.agg [.int .i64 (Rat.num (q)),.int .i64 ((Rat.den (q):Nat):Int)]] m (.int .i64 (cmpQ p q)):=by
  rw [←cmpQ_int]
  exact acompare_r _ _ _ _ (sm_prod hp hq) (sm_prod hq hp) m
/-- what a fraction brought to lowest terms is bounded by -/
theorem fit_bd{n d:Int}(hd:d≠0)(hn:B64 n)(hd2:B64 d):B64 (Rat.divInt n d).num∧B64 ((Rat.divInt n d).den:Int)∧1≤(Int.gcd n d:Int)∧(Int.gcd n d:Int)≤9223372036854775807:=by
  have hg:0<(Int.gcd n d:Int):=by
    have:=Int.gcd_pos_iff.2 (Or.inr hd:n≠0∨d≠0)
    omega
  have h1:(n.tdiv (if d<0 then -(Int.gcd n d:Int) else Int.gcd n d)).natAbs≤n.natAbs:=by
    rw [Int.natAbs_tdiv];exact Nat.div_le_self _ _
  have h2:(d.tdiv (if d<0 then -(Int.gcd n d:Int) else Int.gcd n d)).natAbs≤d.natAbs:=by
    rw [Int.natAbs_tdiv];exact Nat.div_le_self _ _
  rw [fit_num hd,fit_den hd]
  have h3:Int.gcd n d≤d.natAbs:=Nat.le_of_dvd (by omega) (Int.gcd_dvd_natAbs_right n d)
  unfold B64 at*
  omega
theorem uC3_112_4{N:Nat}{l:List Oper}{t:List (Nat×V)}{m:Mem}{Q:Exit→List (Nat×V)→Mem→Prop}(h:RgN Tryz.prog N l t m Q (fun i=>if i==8 then .f else if i==7 then .a else .p) [.one 0,.one 1,.one 2,.one 3,.one 4,.one 5,.one 6,.one 7,.one 8]):WA Tryz.prog N (.region 4 l.toArray true) t m Q:=d_rgN h
theorem fit_w(b:Nat)(n d:Int)(g:Bool)(hd:d≠0)(hn:B64 n)(hd2:B64 d):CallW Tryz.prog 112 [.ptr b 0 0,.int .i64 n,.int .i64 d] b (.cells .own 163 1 [[.bool (g)]]) (.cells .own 163 1 [[.bool (g || !smB (Rat.divInt n d))]]) (.agg [.int .i64 (Rat.num (cut (Rat.divInt n d))),.int .i64 ((Rat.den (cut (Rat.divInt n d)):Nat):Int)]):=by
  obtain⟨b1,b2,b3,b4⟩:=fit_bd hd hn hd2
  have e1:=(fit_num (n:=n) hd).symm
  have e2:=(fit_den (n:=n) hd).symm
  have hq0:=den_pos' (Rat.divInt n d)
  generalize Rat.divInt n d=q at*
  have hck:=fun m=>acheck_c q.num q.den b1 b2 m
  rw [frErr_raw] at hck
  by_cases hneg:d<0
  · rw [if_pos hneg] at e1 e2
    by_cases hs:sm q
    · rw [cut_sm hs,smB_of hs,Bool.not_true,Bool.or_false]
      rw [if_pos hs] at hck
      refine CallW_in (tvs:=[.ptr 0 0 0,.v (.int .i64 n),.v (.int .i64 d)]) Tryz.func112 rfl Tryz.ntmps112 Tryz.results112 (by kernel_rfl) (by simp) (by simp [flatL,V.flat]) rfl fun m Q hQ=>?_
      simp only [List.map_cons,List.map_nil,TV.inst]
      (have FX:=And.intro e1 e2;repeat'(first|(refine sx ?_ ?_<;>intro h<;>first|(exfalso;omega)|skip)|(refine na ?_;(first|refine s_fn (agcd_c _ _ ?_ ?_ ?_ ?_ _) ?_|refine d_fn (agcd_c _ _ ?_ ?_ ?_ ?_ _) ?_|refine d_fnQ (fun _=>agcd_c _ _ ?_ ?_ ?_ ?_ _) ?_|refine grp_cons (fun _=>agcd_c _ _ ?_ ?_ ?_ ?_ _) ?_|refine nb hck ?_|refine nb (awhole_c _) ?_)<;>try first|omega|assumption)|refine ny ?_|refine WA_block ?_|(refine uC3_112_4 ?_;refine⟨by kernel_rfl,?_⟩)|(refine g_d ?_;(first|refine d_fnY (agcd_c _ _ ?_ ?_ ?_ ?_ _) ?_|refine d_fnY (hck _) ?_|refine d_fnY (awhole_c _ _) ?_)<;>try first|omega|assumption)))
      all_goals(refine r_esW hQ ?_ ?_<;>try with_reducible rfl)
    · have hb:smB q=false:=decide_eq_false hs
      have hc:cut q=0:=if_neg hs
      rw [hc,hb,Bool.not_false,Bool.or_true]
      rw [if_neg hs] at hck
      refine CallW_in (tvs:=[.ptr 0 0 0,.v (.int .i64 n),.v (.int .i64 d)]) Tryz.func112 rfl Tryz.ntmps112 Tryz.results112 (by kernel_rfl) (by simp) (by simp [flatL,V.flat]) rfl fun m Q hQ=>?_
      simp only [List.map_cons,List.map_nil,TV.inst]
      (have FX:=And.intro e1 e2;repeat'(first|(refine sx ?_ ?_<;>intro h<;>first|(exfalso;omega)|skip)|(refine na ?_;(first|refine s_fn (agcd_c _ _ ?_ ?_ ?_ ?_ _) ?_|refine d_fn (agcd_c _ _ ?_ ?_ ?_ ?_ _) ?_|refine d_fnQ (fun _=>agcd_c _ _ ?_ ?_ ?_ ?_ _) ?_|refine grp_cons (fun _=>agcd_c _ _ ?_ ?_ ?_ ?_ _) ?_|refine nb hck ?_|refine nb (awhole_c _) ?_)<;>try first|omega|assumption)|refine ny ?_|refine WA_block ?_|(refine uC3_112_4 ?_;refine⟨by kernel_rfl,?_⟩)|(refine g_d ?_;(first|refine d_fnY (agcd_c _ _ ?_ ?_ ?_ ?_ _) ?_|refine d_fnY (hck _) ?_|refine d_fnY (awhole_c _ _) ?_)<;>try first|omega|assumption)))
      all_goals((refine r_esW hQ ?_ ?_<;>try with_reducible rfl);rfl)
  · rw [if_neg hneg] at e1 e2
    have e3:d / (Int.gcd n d:Int)=q.den:=by rw [←e2,Int.tdiv_eq_ediv_of_nonneg (by omega)]
    by_cases hs:sm q
    · rw [cut_sm hs,smB_of hs,Bool.not_true,Bool.or_false]
      rw [if_pos hs] at hck
      refine CallW_in (tvs:=[.ptr 0 0 0,.v (.int .i64 n),.v (.int .i64 d)]) Tryz.func112 rfl Tryz.ntmps112 Tryz.results112 (by kernel_rfl) (by simp) (by simp [flatL,V.flat]) rfl fun m Q hQ=>?_
      simp only [List.map_cons,List.map_nil,TV.inst]
      (have FX:=fx3 e1 e2 e3;repeat'(first|(refine sx ?_ ?_<;>intro h<;>first|(exfalso;omega)|skip)|(refine na ?_;(first|refine s_fn (agcd_c _ _ ?_ ?_ ?_ ?_ _) ?_|refine d_fn (agcd_c _ _ ?_ ?_ ?_ ?_ _) ?_|refine d_fnQ (fun _=>agcd_c _ _ ?_ ?_ ?_ ?_ _) ?_|refine grp_cons (fun _=>agcd_c _ _ ?_ ?_ ?_ ?_ _) ?_|refine nb hck ?_|refine nb (awhole_c _) ?_)<;>try first|omega|assumption)|refine ny ?_|refine WA_block ?_|(refine uC3_112_4 ?_;refine⟨by kernel_rfl,?_⟩)|(refine g_d ?_;(first|refine d_fnY (agcd_c _ _ ?_ ?_ ?_ ?_ _) ?_|refine d_fnY (hck _) ?_|refine d_fnY (awhole_c _ _) ?_)<;>try first|omega|assumption)))
      all_goals(refine r_esW hQ ?_ ?_<;>try with_reducible rfl)
    · have hb:smB q=false:=decide_eq_false hs
      have hc:cut q=0:=if_neg hs
      rw [hc,hb,Bool.not_false,Bool.or_true]
      rw [if_neg hs] at hck
      refine CallW_in (tvs:=[.ptr 0 0 0,.v (.int .i64 n),.v (.int .i64 d)]) Tryz.func112 rfl Tryz.ntmps112 Tryz.results112 (by kernel_rfl) (by simp) (by simp [flatL,V.flat]) rfl fun m Q hQ=>?_
      simp only [List.map_cons,List.map_nil,TV.inst]
      (have FX:=fx3 e1 e2 e3;repeat'(first|(refine sx ?_ ?_<;>intro h<;>first|(exfalso;omega)|skip)|(refine na ?_;(first|refine s_fn (agcd_c _ _ ?_ ?_ ?_ ?_ _) ?_|refine d_fn (agcd_c _ _ ?_ ?_ ?_ ?_ _) ?_|refine d_fnQ (fun _=>agcd_c _ _ ?_ ?_ ?_ ?_ _) ?_|refine grp_cons (fun _=>agcd_c _ _ ?_ ?_ ?_ ?_ _) ?_|refine nb hck ?_|refine nb (awhole_c _) ?_)<;>try first|omega|assumption)|refine ny ?_|refine WA_block ?_|(refine uC3_112_4 ?_;refine⟨by kernel_rfl,?_⟩)|(refine g_d ?_;(first|refine d_fnY (agcd_c _ _ ?_ ?_ ?_ ?_ _) ?_|refine d_fnY (hck _) ?_|refine d_fnY (awhole_c _ _) ?_)<;>try first|omega|assumption)))
      all_goals((refine r_esW hQ ?_ ?_<;>try with_reducible rfl);rfl)
attribute [local irreducible] smB
theorem sm_dn{a b:Rat}(ha:sm a)(hb:sm b)(h0:b.num≠0):(-1000000000000000000≤(a.den:Int)*b.num∧(a.den:Int)*b.num≤1000000000000000000)∧(a.den:Int)*b.num≠0:=by
  have:=den_pos' a
  exact⟨sm_mul ⟨by omega,ha.2.2⟩ ⟨hb.1,hb.2.1⟩,Int.mul_ne_zero (by omega) h0⟩

theorem add_w(k:Nat)(a b:Rat)(g:Bool)(ha:sm a)(hb:sm b):CallW Tryz.prog 100 [.ptr k 0 0,.agg [.int .i64 (Rat.num (a)),.int .i64 ((Rat.den (a):Nat):Int)],.agg [.int .i64 (Rat.num (b)),.int .i64 ((Rat.den (b):Nat):Int)]] k (.cells .own 163 1 [[.bool (g)]]) (.cells .own 163 1 [[.bool (g || !smB (a+b))]]) (.agg [.int .i64 (Rat.num (cut (a+b))),.int .i64 ((Rat.den (cut (a+b)):Nat):Int)]):=by
  rw [←add_fit a b]
  have q1:=sm_prod ha hb
  have q2:=sm_prod hb ha
  have q3:=sm_den ha hb
  have e1:B64 (a.num*(b.den:Int)+b.num*(a.den:Int)):=by constructor<;>omega
  have e2:B64 ((a.den:Int)*(b.den:Int)):=by constructor<;>omega
  have e3:(a.den:Int)*(b.den:Int)≠0:=by omega
  refine CallW_in (tvs:=[.ptr 0 0 0,.v (.agg [.int .i64 (Rat.num (a)),.int .i64 ((Rat.den (a):Nat):Int)]),.v (.agg [.int .i64 (Rat.num (b)),.int .i64 ((Rat.den (b):Nat):Int)])]) Tryz.func100 rfl Tryz.ntmps100 Tryz.results100 (by kernel_rfl) (by simp) (by simp [flatL,V.flat]) rfl fun m Q hQ=>?_
  simp only [List.map_cons,List.map_nil,TV.inst]
  (have FX:=fx3 q1 q2 q3;repeat'(first|(refine sx ?_ ?_<;>intro h<;>first|(exfalso;omega)|skip)|(refine na ?_;(first|refine s_fnW (fit_w _ _ _ _ ?_ ?_ ?_) ?_)<;>try first|omega|assumption)|refine ny ?_|refine WA_block ?_))
  all_goals(refine r_esW hQ ?_ ?_<;>try with_reducible rfl)

theorem sub_w(k:Nat)(a b:Rat)(g:Bool)(ha:sm a)(hb:sm b):CallW Tryz.prog 102 [.ptr k 0 0,.agg [.int .i64 (Rat.num (a)),.int .i64 ((Rat.den (a):Nat):Int)],.agg [.int .i64 (Rat.num (b)),.int .i64 ((Rat.den (b):Nat):Int)]] k (.cells .own 163 1 [[.bool (g)]]) (.cells .own 163 1 [[.bool (g || !smB (a - b))]]) (.agg [.int .i64 (Rat.num (cut (a - b))),.int .i64 ((Rat.den (cut (a - b)):Nat):Int)]):=by
  rw [←sub_fit a b]
  have q1:=sm_prod ha hb
  have q2:=sm_prod hb ha
  have q3:=sm_den ha hb
  have e1:B64 (a.num*(b.den:Int) - b.num*(a.den:Int)):=by constructor<;>omega
  have e2:B64 ((a.den:Int)*(b.den:Int)):=by constructor<;>omega
  have e3:(a.den:Int)*(b.den:Int)≠0:=by omega
  refine CallW_in (tvs:=[.ptr 0 0 0,.v (.agg [.int .i64 (Rat.num (a)),.int .i64 ((Rat.den (a):Nat):Int)]),.v (.agg [.int .i64 (Rat.num (b)),.int .i64 ((Rat.den (b):Nat):Int)])]) Tryz.func102 rfl Tryz.ntmps102 Tryz.results102 (by kernel_rfl) (by simp) (by simp [flatL,V.flat]) rfl fun m Q hQ=>?_
  simp only [List.map_cons,List.map_nil,TV.inst]
  (have FX:=fx3 q1 q2 q3;repeat'(first|(refine sx ?_ ?_<;>intro h<;>first|(exfalso;omega)|skip)|(refine na ?_;(first|refine s_fnW (fit_w _ _ _ _ ?_ ?_ ?_) ?_)<;>try first|omega|assumption)|refine ny ?_|refine WA_block ?_))
  all_goals(refine r_esW hQ ?_ ?_<;>try with_reducible rfl)

theorem mul_w(k:Nat)(a b:Rat)(g:Bool)(ha:sm a)(hb:sm b):CallW Tryz.prog 115 [.ptr k 0 0,.agg [.int .i64 (Rat.num (a)),.int .i64 ((Rat.den (a):Nat):Int)],.agg [.int .i64 (Rat.num (b)),.int .i64 ((Rat.den (b):Nat):Int)]] k (.cells .own 163 1 [[.bool (g)]]) (.cells .own 163 1 [[.bool (g || !smB (a*b))]]) (.agg [.int .i64 (Rat.num (cut (a*b))),.int .i64 ((Rat.den (cut (a*b)):Nat):Int)]):=by
  rw [←mul_fit a b]
  have q1:=sm_mul ⟨ha.1,ha.2.1⟩ ⟨hb.1,hb.2.1⟩
  have q3:=sm_den ha hb
  have e1:B64 (a.num*b.num):=by constructor<;>omega
  have e2:B64 ((a.den:Int)*(b.den:Int)):=by constructor<;>omega
  have e3:(a.den:Int)*(b.den:Int)≠0:=by omega
  refine CallW_in (tvs:=[.ptr 0 0 0,.v (.agg [.int .i64 (Rat.num (a)),.int .i64 ((Rat.den (a):Nat):Int)]),.v (.agg [.int .i64 (Rat.num (b)),.int .i64 ((Rat.den (b):Nat):Int)])]) Tryz.func115 rfl Tryz.ntmps115 Tryz.results115 (by kernel_rfl) (by simp) (by simp [flatL,V.flat]) rfl fun m Q hQ=>?_
  simp only [List.map_cons,List.map_nil,TV.inst]
  (have FX:=And.intro q1 q3;repeat'(first|(refine sx ?_ ?_<;>intro h<;>first|(exfalso;omega)|skip)|(refine na ?_;(first|refine s_fnW (fit_w _ _ _ _ ?_ ?_ ?_) ?_)<;>try first|omega|assumption)|refine ny ?_|refine WA_block ?_))
  all_goals(refine r_esW hQ ?_ ?_<;>try with_reducible rfl)

theorem quo_w(k:Nat)(a b:Rat)(g:Bool)(ha:sm a)(hb:sm b)(h0:b≠0):CallW Tryz.prog 101 [.ptr k 0 0,.agg [.int .i64 (Rat.num (a)),.int .i64 ((Rat.den (a):Nat):Int)],.agg [.int .i64 (Rat.num (b)),.int .i64 ((Rat.den (b):Nat):Int)]] k (.cells .own 163 1 [[.bool (g)]]) (.cells .own 163 1 [[.bool (g || !smB (a / b))]]) (.agg [.int .i64 (Rat.num (cut (a / b))),.int .i64 ((Rat.den (cut (a / b)):Nat):Int)]):=by
  rw [←div_fit a b]
  have q1:=sm_prod ha hb
  have hb0:=num_ne h0
  obtain⟨q3,e3⟩:=sm_dn ha hb hb0
  have e1:B64 (a.num*(b.den:Int)):=by constructor<;>omega
  have e2:B64 ((a.den:Int)*b.num):=by constructor<;>omega
  refine CallW_in (tvs:=[.ptr 0 0 0,.v (.agg [.int .i64 (Rat.num (a)),.int .i64 ((Rat.den (a):Nat):Int)]),.v (.agg [.int .i64 (Rat.num (b)),.int .i64 ((Rat.den (b):Nat):Int)])]) Tryz.func101 rfl Tryz.ntmps101 Tryz.results101 (by kernel_rfl) (by simp) (by simp [flatL,V.flat]) rfl fun m Q hQ=>?_
  simp only [List.map_cons,List.map_nil,TV.inst]
  (have FX:=fx3 q1 q3 hb0;repeat'(first|(refine sx ?_ ?_<;>intro h<;>first|(exfalso;omega)|skip)|(refine na ?_;(first|refine s_fnW (fit_w _ _ _ _ ?_ ?_ ?_) ?_)<;>try first|omega|assumption)|refine ny ?_|refine WA_block ?_))
  all_goals first|contradiction|(refine r_esW hQ ?_ ?_<;>try with_reducible rfl)
theorem quo0_w(k:Nat)(a:Rat)(g:Bool):CallW Tryz.prog 101 [.ptr k 0 0,.agg [.int .i64 (Rat.num (a)),.int .i64 ((Rat.den (a):Nat):Int)],.agg [.int .i64 0,.int .i64 1]] k (.cells .own 163 1 [[.bool (g)]]) (.cells .own 163 1 [[.bool (true)]]) (.agg [.int .i64 0,.int .i64 1]):=by
  refine CallW_in (tvs:=[.ptr 0 0 0,.v (.agg [.int .i64 (Rat.num (a)),.int .i64 ((Rat.den (a):Nat):Int)]),.v (.agg [.int .i64 0,.int .i64 1])]) Tryz.func101 rfl Tryz.ntmps101 Tryz.results101 (by kernel_rfl) (by simp) (by simp [flatL,V.flat]) rfl fun m Q hQ=>?_
  simp only [List.map_cons,List.map_nil,TV.inst]
  (repeat'(first|(refine sx ?_ ?_<;>intro h<;>first|(exfalso;omega)|skip)|(refine na ?_;(first|refine nb (awhole_c _) ?_)<;>try first|omega|assumption)|refine ny ?_|refine WA_block ?_))
  all_goals(refine r_esW hQ ?_ ?_<;>try with_reducible rfl)
def quoQ(a b:Rat):Rat:=if b=0 then 0 else cut (a / b)
def quoB(a b:Rat):Bool:=if b=0 then true else !smB (a / b)
theorem quoQ_w(k:Nat)(a b:Rat)(g:Bool)(ha:sm a)(hb:sm b):CallW Tryz.prog 101 [.ptr k 0 0,.agg [.int .i64 (Rat.num (a)),.int .i64 ((Rat.den (a):Nat):Int)],.agg [.int .i64 (Rat.num (b)),.int .i64 ((Rat.den (b):Nat):Int)]] k (.cells .own 163 1 [[.bool (g)]]) (.cells .own 163 1 [[.bool (g || quoB a b)]]) (.agg [.int .i64 (Rat.num (quoQ a b)),.int .i64 ((Rat.den (quoQ a b):Nat):Int)]):=by
  by_cases h:b=0
  · subst h
    have h1:quoB a 0=true:=if_pos rfl
    have h2:quoQ a 0=0:=if_pos rfl
    rw [h1,h2,Bool.or_true]
    exact quo0_w k a g
  · have h1:quoB a b=!smB (a / b):=if_neg h
    have h2:quoQ a b=cut (a / b):=if_neg h
    rw [h1,h2]
    exact quo_w k a b g ha hb h
end Go.Proofs.YtnablpehkeicmaaGreat
