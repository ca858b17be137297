import Derived.Test.YtomkbpoicjabfaaGreatDoorE1
import Derived.Test.YtomkbpoicjabfaaGreatDoorYA
import Derived.Test.YtomkbpoicjabfaaGreatDoorYC
set_option linter.unusedSimpArgs false
set_option linter.unusedVariables false
/- arguments that are slices -/
namespace Go.Proofs.YtomkbpoicjabfaaGreatDoor
open Go.RowKit
theorem oks_pairs{es:List (List V)}(h:∀ x∈es,Okc (.agg [.int .i64,.int .i64]) x):∃ l:List (Int×Int),es=l.map (fun p=>[V.int .i64 p.1,V.int .i64 p.2])∧∀ p∈l,(-9223372036854775808≤p.1∧p.1≤9223372036854775807)∧(-9223372036854775808≤p.2∧p.2≤9223372036854775807):=by
  refine oks_map (fun x hx=>?_) h
  obtain⟨a,_,rfl,ha,hx⟩:=okcL_int (show OkcL _ x from hx)
  obtain⟨b,_,rfl,hb,hx⟩:=okcL_int hx
  obtain rfl:=okcL_nil hx
  rw [i64min,i64max'] at ha hb
  exact⟨(a,b),rfl,ha,hb⟩
end Go.Proofs.YtomkbpoicjabfaaGreatDoor
namespace Go.Proofs.YtomkbpoicjabfaaGreatDoor
def sm(q:Rat):Prop:= -1000000000≤q.num∧q.num≤1000000000∧(q.den:Int)≤1000000000
instance(q:Rat):Decidable (sm q):=inferInstanceAs (Decidable (_∧_∧_))
def smB(q:Rat):Bool:=decide (sm q)
def cut(q:Rat):Rat:=if sm q then q else 0
theorem sm_zero:sm 0:=⟨by decide,by decide,by decide⟩
theorem sm_cut(q:Rat):sm (cut q):=by
  unfold cut;split
  · assumption
  · exact sm_zero
theorem cut_sm{q:Rat}(h:sm q):cut q=q:=if_pos h
theorem smB_iff{q:Rat}:smB q=true↔sm q:=decide_eq_true_iff
theorem smB_of{q:Rat}(h:sm q):smB q=true:=decide_eq_true h
theorem den_pos'(q:Rat):1≤(q.den:Int):=by have:=q.den_pos;omega
theorem red(q:Rat):Int.gcd q.num q.den=1:=q.reduced
/-- what a fraction is brought to -/
theorem fit_num{n d:Int}(hd:d≠0):(Rat.divInt n d).num=n.tdiv (if d<0 then -(Int.gcd n d:Int) else Int.gcd n d):=by
  rw [Rat.num_divInt,Int.gcd_comm d n]
  have hg:(Int.gcd n d:Int) ∣ n:=Int.gcd_dvd_left ..
  generalize (Int.gcd n d:Int)=g at *
  split
  · rename_i h
    rw [Int.sign_eq_neg_one_of_neg h,Int.tdiv_neg,Int.tdiv_eq_ediv_of_dvd hg,Int.neg_one_mul,Int.neg_ediv_of_dvd hg]
  · rename_i h
    rw [Int.sign_eq_one_of_pos (by omega),Int.one_mul,Int.tdiv_eq_ediv_of_dvd hg]
theorem fit_den{n d:Int}(hd:d≠0):((Rat.divInt n d).den:Int)=d.tdiv (if d<0 then -(Int.gcd n d:Int) else Int.gcd n d):=by
  rw [Rat.den_divInt,if_neg hd,Int.gcd_comm d n]
  have hg:(Int.gcd n d:Int) ∣ d:=Int.gcd_dvd_right ..
  split
  · rename_i h
    rw [Int.tdiv_neg,Int.tdiv_eq_ediv_of_dvd hg,Int.natCast_ediv,←Int.neg_ediv_of_dvd hg]
    congr 1;omega
  · rename_i h
    rw [Int.tdiv_eq_ediv_of_dvd hg,Int.natCast_ediv]
    congr 1;omega
theorem fit_low{n d:Int}(hd:1≤d)(hg:Int.gcd n d=1):(Rat.divInt n d).num=n∧((Rat.divInt n d).den:Int)=d:=by
  rw [fit_num (by omega),fit_den (by omega),if_neg (by omega),hg]
  simp
theorem fit_of(q:Rat):Rat.divInt q.num (q.den:Int)=q:=Rat.num_divInt_den q
theorem add_fit(a b:Rat):Rat.divInt (a.num * b.den+b.num * a.den) ((a.den:Int) * b.den)=a+b:=by
  rw [Rat.add_def',←Rat.divInt_ofNat,Int.natCast_mul]
theorem sub_fit(a b:Rat):Rat.divInt (a.num * b.den - b.num * a.den) ((a.den:Int) * b.den)=a - b:=by
  rw [Rat.sub_def',←Rat.divInt_ofNat,Int.natCast_mul]
theorem mul_fit(a b:Rat):Rat.divInt (a.num * b.num) ((a.den:Int) * b.den)=a * b:=by
  rw [Rat.mul_def',←Rat.divInt_ofNat,Int.natCast_mul]
theorem div_fit(a b:Rat):Rat.divInt (a.num * b.den) ((a.den:Int) * b.num)=a / b:=by
  rw [Rat.div_def,Rat.inv_def]
  conv=>rhs;rw [←fit_of a]
  rw [Rat.divInt_mul_divInt]
theorem num_ne{q:Rat}(h:q≠0):q.num≠0:=fun e=>h (Rat.num_eq_zero.1 e)
theorem cmp_lt(a b:Rat):a.num * b.den<b.num * a.den↔a<b:=(Rat.lt_iff a b).symm
theorem rat_ext{a b:Rat}(h1:a.num=b.num)(h2:(a.den:Int)=b.den):a=b:=Rat.ext h1 (by omega)
theorem whole_num(n:Int):((n:Rat)).num=n∧((n:Rat)).den=1:=⟨rfl,rfl⟩
/-- bounds of what is computed with small ones -/
theorem sm_mul{a b:Int}(ha: -1000000000≤a∧a≤1000000000)(hb: -1000000000≤b∧b≤1000000000): -1000000000000000000≤a * b∧a * b≤1000000000000000000:=by
  have h1:(a * b).natAbs=a.natAbs * b.natAbs:=Int.natAbs_mul ..
  have h2:a.natAbs * b.natAbs≤1000000000 * 1000000000:=Nat.mul_le_mul (by omega) (by omega)
  omega
theorem sm_den{a b:Rat}(ha:sm a)(hb:sm b):1≤(a.den:Int) * b.den∧(a.den:Int) * b.den≤1000000000000000000:=by
  obtain⟨_,_,h3⟩:=ha
  obtain⟨_,_,k3⟩:=hb
  have:=den_pos' a
  have:=den_pos' b
  have h:=sm_mul (a:=a.den) (b:=b.den) (by omega) (by omega)
  have:1 * 1≤(a.den:Int) * b.den:=Int.mul_le_mul (by omega) (by omega) (by omega) (by omega)
  omega
abbrev Pt:=Rat×Rat
abbrev Rk:=(Int×Int)×(Int×Int)
def frErr(n d:Int):Int:=if d<1∨Int.gcd n d≠1 then 3 else if n< -1000000000∨1000000000<n∨1000000000<d then 2 else 0
def toQ(p:Int×Int):Rat:=Rat.divInt p.1 p.2
def toP(k:Rk):Pt:=(toQ k.1,toQ k.2)
def rawQ(q:Rat):Int×Int:=(q.num,q.den)
def raw(p:Pt):Rk:=(rawQ p.1,rawQ p.2)
def at'(c:List Pt)(i:Nat):Pt:=c.getD i (0,0)
def sl(a b:Pt):Rat:=(b.2 - a.2) / (b.1 - a.1)
def slOk(a b:Pt):Prop:=sm (b.2 - a.2)∧sm (b.1 - a.1)∧sm (sl a b)
instance(a b:Pt):Decidable (slOk a b):=inferInstanceAs (Decidable (_∧_∧_))
theorem frErr_ok{n d:Int}(h:frErr n d=0):1≤d∧Int.gcd n d=1∧ -1000000000≤n∧n≤1000000000∧d≤1000000000:=by
  unfold frErr at h
  split at h
  · simp at h
  · split at h
    · simp at h
    · omega
theorem frErr_q{n d:Int}(h:frErr n d=0):rawQ (toQ (n,d))=(n,d)∧sm (toQ (n,d)):=by
  obtain⟨h1,h2,h3,h4,h5⟩:=frErr_ok h
  obtain⟨e1,e2⟩:=fit_low h1 h2
  refine⟨?_,?_⟩
  · unfold rawQ toQ;rw [e1,e2]
  · unfold sm toQ;rw [e1,e2];exact⟨h3,h4,h5⟩
theorem frErr_raw(q:Rat):frErr q.num q.den=if sm q then 0 else 2:=by
  have h1:=den_pos' q
  have h2:=red q
  unfold frErr
  rw [if_neg (by omega)]
  by_cases h:sm q
  · rw [if_pos h]
    unfold sm at h
    rw [if_neg (by omega)]
  · rw [if_neg h]
    unfold sm at h
    rw [if_pos (by omega)]
/-- the first error -/
def firstE(f:Nat→Int):Nat→Int
  |0=>0
  |n+1=>if firstE f n≠0 then firstE f n else f n
theorem firstE_zero {f:Nat→Int}:∀ {n:Nat},firstE f n=0↔∀ i,i<n→f i=0
  |0=>by simp [firstE]
  | n + 1 =>by
    simp only [firstE]
    have ih:=firstE_zero (f:=f) (n:=n)
    constructor
    · intro h i hi
      split at h
      · contradiction
      · rename_i h0
        rcases Nat.lt_or_ge i n with h1|h1
        · exact ih.1 (by simpa using h0) i h1
        · have:i=n:=by omega
          subst this;exact h
    · intro h
      rw [if_neg (by simpa using ih.2 fun i hi=>h i (by omega))]
      exact h n (by omega)
theorem firstE_at{f:Nat→Int}{i:Nat}(h0:∀ j,j<i→f j=0)(h:f i≠0):∀ {n:Nat},i<n→firstE f n=f i
  |0,hi=>by omega
  | n +1,hi=>by
    simp only [firstE]
    rcases Nat.lt_or_ge i n with h1|h1
    · have:=firstE_at h0 h h1
      rw [this,if_pos h]
    · have e:i=n:=by omega
      subst e
      rw [if_neg (by simpa using firstE_zero.2 h0)]
def rk0:Rk:=((0,0),(0,0))
def cuErrAt(l:List Rk)(i:Nat):Int:=
  let k:=l.getD i rk0
  if frErr k.1.1 k.1.2≠0 then frErr k.1.1 k.1.2 else if frErr k.2.1 k.2.2≠0 then frErr k.2.1 k.2.2 else
  if i=0 then 0 else
  let p:=l.getD (i - 1) rk0
  if (toP k).1≤(toP p).1 then 9 else if slOk (toP p) (toP k) then 0 else 8
def cuErr(l:List Rk):Int:=if l.length<1∨60<l.length then 10 else firstE (cuErrAt l) l.length
/-- a right curve -/
structure Valid(c:List Pt):Prop where
  ne:1≤c.length
  few:c.length≤60
  sm:∀ i,i<c.length→sm (at' c i).1∧sm (at' c i).2
  up:∀ i,i+1<c.length→(at' c i).1<(at' c (i+1)).1
  sl:∀ i,i+1<c.length→slOk (at' c i) (at' c (i+1))
theorem at_get{c:List Pt}{i:Nat}(h:i<c.length):c[i]?=some (at' c i):=by
  unfold at';rw [List.getD_eq_getElem?_getD,List.getElem?_eq_getElem h];rfl
theorem cuErrAt_zero {l:List Rk} {i:Nat}:cuErrAt l i=0↔frErr (l.getD i rk0).1.1 (l.getD i rk0).1.2=0∧frErr (l.getD i rk0).2.1 (l.getD i rk0).2.2=0∧
    (i=0∨((toP (l.getD (i - 1) rk0)).1<(toP (l.getD i rk0)).1∧slOk (toP (l.getD (i - 1) rk0)) (toP (l.getD i rk0)))):=by
  unfold cuErrAt
  simp only
  by_cases h1:frErr (l.getD i rk0).1.1 (l.getD i rk0).1.2=0
  · by_cases h2:frErr (l.getD i rk0).2.1 (l.getD i rk0).2.2=0
    · rw [if_neg (by simpa using h1),if_neg (by simpa using h2)]
      by_cases h3:i=0
      · simp [h3];exact⟨by rw [←h3];exact h1,by rw [←h3];exact h2⟩
      · rw [if_neg h3]
        by_cases h4:(toP (l.getD i rk0)).1≤(toP (l.getD (i - 1) rk0)).1
        · rw [if_pos h4]
          simp only [h1,h2,h3,true_and,false_or]
          constructor
          · intro h;omega
          · intro h;exact absurd h.1 (Rat.not_lt.2 h4)
        · rw [if_neg h4]
          simp only [h1,h2,h3,true_and,false_or,Rat.not_le.1 h4]
          by_cases h5:slOk (toP (l.getD (i - 1) rk0)) (toP (l.getD i rk0))
          · simp [h5]
          · simp [h5]
    · rw [if_neg (by simpa using h1),if_pos h2];exact⟨fun h=>absurd h h2,fun h=>absurd h.2.1 h2⟩
  · rw [if_pos h1];exact⟨fun h=>absurd h h1,fun h=>absurd h.1 h1⟩
theorem rk_raw{k:Rk}(h1:frErr k.1.1 k.1.2=0)(h2:frErr k.2.1 k.2.2=0):raw (toP k)=k∧sm (toP k).1∧sm (toP k).2:=by
  obtain⟨⟨a,b⟩,⟨c,d⟩⟩:=k
  obtain⟨e1,e2⟩:=frErr_q h1
  obtain⟨e3,e4⟩:=frErr_q h2
  refine⟨?_,e2,e4⟩
  unfold raw toP
  simp only at *
  rw [e1,e3]
theorem rk_getD{l:List Rk}{i:Nat}(h:i<l.length):l[i]?=some (l.getD i rk0):=by
  rw [List.getD_eq_getElem?_getD,List.getElem?_eq_getElem h];rfl
theorem cuErr_ok {l:List Rk} (h:cuErr l=0):Valid (l.map toP)∧(l.map toP).map raw=l:=by
  unfold cuErr at h
  split at h
  · simp at h
  · rename_i hn
    rw [firstE_zero] at h
    have hg:∀ i,i<l.length→at' (l.map toP) i=toP (l.getD i rk0):=by
      intro i hi
      unfold at'
      rw [List.getD_eq_getElem?_getD,List.getElem?_map,rk_getD hi];rfl
    refine⟨⟨by simp;omega,by simp;omega,?_,?_,?_⟩,?_⟩
    · intro i hi
      rw [List.length_map] at hi
      obtain⟨h1,h2,_⟩:=cuErrAt_zero.1 (h i hi)
      rw [hg i hi]
      exact(rk_raw h1 h2).2
    · intro i hi
      rw [List.length_map] at hi
      obtain⟨h1,h2,h3⟩:=cuErrAt_zero.1 (h (i+1) hi)
      rw [hg i (by omega),hg (i+1) hi]
      rcases h3 with h3|h3
      · omega
      · exact h3.1
    · intro i hi
      rw [List.length_map] at hi
      obtain⟨h1,h2,h3⟩:=cuErrAt_zero.1 (h (i+1) hi)
      rw [hg i (by omega),hg (i+1) hi]
      rcases h3 with h3|h3
      · omega
      · exact h3.2
    · rw [List.map_map]
      apply List.ext_getElem?
      intro i
      rw [List.getElem?_map]
      rcases Nat.lt_or_ge i l.length with hi|hi
      · rw [rk_getD hi]
        obtain⟨h1,h2,_⟩:=cuErrAt_zero.1 (h i hi)
        exact congrArg some (rk_raw h1 h2).1
      · rw [List.getElem?_eq_none hi];rfl
/-- how many corners lie at x or before -/
def cnt(c:List Pt)(x:Rat):Nat:=(c.takeWhile fun k=>decide (k.1≤x)).length
theorem cnt_le(c:List Pt)(x:Rat):cnt c x≤c.length:=(List.takeWhile_prefix _).length_le
theorem at_cons(k:Pt)(c:List Pt)(i:Nat):at' (k::c) (i+1)=at' c i:=rfl
theorem cnt_lt:∀ {c:List Pt} {x:Rat} {i:Nat},i<cnt c x→(at' c i).1≤x
  |[],x,i,h=>by simp [cnt] at h
  | k ::c,x,i,h=>by
    unfold cnt at h
    rw [List.takeWhile_cons] at h
    split at h
    · rename_i hk
      rcases i with _|i
      · exact of_decide_eq_true hk
      · rw [at_cons];exact cnt_lt (by simpa [cnt] using h)
    · simp at h
theorem cnt_at:∀ {c:List Pt} {x:Rat},cnt c x<c.length→x<(at' c (cnt c x)).1
  |[],x,h=>by simp at h
  | k ::c,x,h=>by
    unfold cnt at h ⊢
    rw [List.takeWhile_cons] at h ⊢
    split at h
    · rename_i hk
      rw [if_pos hk]
      simp only [List.length_cons] at h ⊢
      rw [at_cons]
      exact cnt_at (by simpa [cnt] using h)
    · rename_i hk
      rw [if_neg hk]
      have hk':¬ k.1≤x:=by simpa using hk
      exact Rat.not_le.1 hk'
def Asc(c:List Pt):Prop:=∀ i,i+1<c.length→(at' c i).1<(at' c (i+1)).1
theorem Asc.lt{c:List Pt}(h:Asc c){i:Nat}:∀ {j:Nat},i<j→j<c.length→(at' c i).1<(at' c j).1
  |0,hij,_=>by omega
  | j +1,hij,hj=>by
    rcases Nat.lt_or_ge i j with h1|h1
    · have a:=h.lt h1 (by omega)
      have b:=h j hj
      grind
    · have:i=j:=by omega
      subst this;exact h i hj
theorem Asc.le{c:List Pt}(h:Asc c){i j:Nat}(hij:i≤j)(hj:j<c.length):(at' c i).1≤(at' c j).1:=by
  rcases Nat.lt_or_ge i j with h1|h1
  · exact Rat.le_of_lt (h.lt h1 hj)
  · have:i=j:=by omega
    subst this;exact Rat.le_refl
theorem Valid.asc{c:List Pt}(h:Valid c):Asc c:=h.up
theorem cnt_iff{c:List Pt}(h:Asc c){x:Rat}{i:Nat}(hi:i<c.length):i<cnt c x↔(at' c i).1≤x:=by
  refine⟨cnt_lt,fun h1=>?_⟩
  rcases Nat.lt_or_ge i (cnt c x) with h2|h2
  · exact h2
  · have h3:=cnt_at (c:=c) (x:=x) (by omega)
    have h4:=h.le h2 hi
    grind
theorem cnt_uniq{c:List Pt}{x:Rat}(h:Asc c){n:Nat}(hn:n≤c.length)(h1:∀ j,j<n→(at' c j).1≤x)(h2:∀ j,n≤j→j<c.length→x<(at' c j).1):n=cnt c x:=by
  have hc:=cnt_le c x
  rcases Nat.lt_trichotomy n (cnt c x) with h3|h3|h3
  · have a:=cnt_lt h3
    have b:=h2 n (Nat.le_refl _) (by omega)
    grind
  · exact h3
  · have a:=h1 _ h3
    have b:=cnt_at (c:=c) (x:=x) (by omega)
    grind
/-! the value of a curve -/
/-- the slope of the stretch from corner n - 1 on -/
def slN(c:List Pt)(n:Nat):Rat:=sl (at' c (n - 1)) (at' c n)
/-- the value, as it is -/
def valE(c:List Pt)(x:Rat):Rat:=
  let n:=cnt c x
  if n=0 then (at' c 0).2 else if n=c.length then (at' c (n - 1)).2 else (at' c (n - 1)).2+(x - (at' c (n - 1)).1) * slN c n
/-- what comes up on the way is small -/
def valOk(c:List Pt)(x:Rat):Prop:=
  let n:=cnt c x
  n=0∨n=c.length∨(sm (x - (at' c (n - 1)).1)∧sm ((x - (at' c (n - 1)).1) * slN c n)∧sm ((at' c (n - 1)).2+(x - (at' c (n - 1)).1) * slN c n))
instance(c:List Pt)(x:Rat):Decidable (valOk c x):=inferInstanceAs (Decidable (_∨_∨_∧_∧_))
def slopeE(c:List Pt)(x:Rat):Rat:=let n:=cnt c x;if n=0∨n=c.length then 0 else slN c n
theorem Valid.pos{c:List Pt}(h:Valid c):0<c.length:=h.ne
theorem valid_slN{c:List Pt}(h:Valid c){n:Nat}(h0:n≠0)(h1:n<c.length):slOk (at' c (n - 1)) (at' c n)∧(at' c (n - 1)).1<(at' c n).1:=by
  have a:=h.sl (n - 1) (by omega)
  have b:=h.up (n - 1) (by omega)
  rw [show n - 1+1=n by omega] at a b
  exact⟨a,b⟩
theorem sm_slopeE{c:List Pt}(h:Valid c)(x:Rat):sm (slopeE c x):=by
  unfold slopeE
  simp only
  split
  · exact sm_zero
  · have:=cnt_le c x
    exact(valid_slN h (n:=cnt c x) (by omega) (by omega)).1.2.2
/-- at the first corner, told apart or not -/
theorem val_first{c:List Pt}(h:Valid c){x:Rat}(hx:x=(at' c 0).1):valOk c x∧valE c x=(at' c 0).2:=by
  have h0:=h.pos
  have hn:cnt c x=1:=by
    refine(cnt_uniq h.asc (by omega) (fun j hj=>?_) (fun j h1 h2=>?_)).symm
    · have:j=0:=by omega
      subst this;rw [hx];exact Rat.le_refl
    · rw [hx];exact h.asc.lt (by omega) h2
  unfold valOk valE
  simp only [hn]
  refine⟨?_,?_⟩
  · by_cases hl:1=c.length
    · exact .inr (.inl hl)
    · refine .inr (.inr ?_)
      have:x - (at' c (1 - 1)).1=0:=by rw [hx];exact Rat.sub_self
      rw [this,Rat.zero_mul,Rat.add_zero]
      exact⟨sm_zero,sm_zero,(h.sm 0 h0).2⟩
  · rw [if_neg (by decide)]
    split
    · rfl
    · have:x - (at' c (1 - 1)).1=0:=by rw [hx];exact Rat.sub_self
      rw [this,Rat.zero_mul,Rat.add_zero]
end Go.Proofs.YtomkbpoicjabfaaGreatDoor
namespace Go.Proofs.YtomkbpoicjabfaaGreatDoor
open Go.RowKit
attribute [local irreducible] WA WOs WDs WAn qThen qBlock tput
set_option maxHeartbeats 1000000
set_option maxRecDepth 20000
set_option linter.unusedSimpArgs false
set_option linter.unusedVariables false
def cmpI(x y:Int):Int:=if x<y then -1 else if y<x then 1 else 0
theorem cmpI_lt{x y:Int}:cmpI x y<0↔x<y:=by unfold cmpI;split<;>(try split)<;>omega
theorem awithin_c(n lo hi:Int)(m:Mem):Gives Tryz.prog 39 [.int .i64 n,.int .i64 lo,.int .i64 hi] m (.bool (decide (lo≤n∧n≤hi))):=by
  refine Gives_in Tryz.func39 rfl Tryz.ntmps39 Tryz.results39 (by kernel_rfl) (by simp) rfl fun Q hQ=>?_
  (repeat'(first|(refine sx ?_ ?_<;>intro h<;>first|(exfalso;omega)|skip)|refine ny ?_|refine WA_block ?_))
  all_goals((refine r_es hQ ?_;try with_reducible rfl);simp only [V.bool.injEq,decide_eq_true_eq,decide_eq_false_iff_not,eq_comm];first|omega|(simp;omega)|simp)

theorem bwithin_c(n lo hi:Int)(m:Mem):Gives Tryz.prog 33 [.int .i64 n,.int .i64 lo,.int .i64 hi] m (.bool (decide (lo≤n∧n≤hi))):=by
  refine Gives_in Tryz.func33 rfl Tryz.ntmps33 Tryz.results33 (by kernel_rfl) (by simp) rfl fun Q hQ=>?_
  (repeat'(first|(refine sx ?_ ?_<;>intro h<;>first|(exfalso;omega)|skip)|refine ny ?_|refine WA_block ?_))
  all_goals((refine r_es hQ ?_;try with_reducible rfl);simp only [V.bool.injEq,decide_eq_true_eq,decide_eq_false_iff_not,eq_comm];first|omega|(simp;omega)|simp)

theorem babs_c(n:Int)(h1: -9223372036854775807≤n)(h2:n≤9223372036854775807)(m:Mem):Gives Tryz.prog 76 [.int .i64 n] m (.int .i64 (n.natAbs:Int)):=by
  refine Gives_in Tryz.func76 rfl Tryz.ntmps76 Tryz.results76 (by kernel_rfl) (by simp) rfl fun Q hQ=>?_
  (repeat'(first|(refine sx ?_ ?_<;>intro h<;>first|(exfalso;omega)|skip)|refine ny ?_|refine WA_block ?_))
  all_goals((refine r_es hQ ?_;try with_reducible rfl);all_goals(simp only [V.int.injEq,true_and];omega))

theorem awhole_c(n:Int)(m:Mem):Gives Tryz.prog 85 [.int .i64 n] m (.agg [.int .i64 n,.int .i64 1]):=by
  refine Gives_in Tryz.func85 rfl Tryz.ntmps85 Tryz.results85 (by kernel_rfl) (by simp) rfl fun Q hQ=>?_
  (repeat'(first|(refine sx ?_ ?_<;>intro h<;>first|(exfalso;omega)|skip)|refine ny ?_|refine WA_block ?_))
  all_goals(refine r_es hQ ?_;try with_reducible rfl)

theorem cnan_c(n:Int)(m:Mem):Gives Tryz.prog 114 [.int .i64 n] m (.bool false):=by
  refine Gives_in Tryz.func114 rfl Tryz.ntmps114 Tryz.results114 (by kernel_rfl) (by simp) rfl fun Q hQ=>?_
  (repeat'(first|(refine sx ?_ ?_<;>intro h<;>first|(exfalso;omega)|skip)|refine ny ?_|refine WA_block ?_))
  all_goals((refine r_es hQ ?_;try with_reducible rfl);try simp)

theorem ccompare_c(x y:Int)(m:Mem):Gives Tryz.prog 93 [.int .i64 x,.int .i64 y] m (.int .i64 (cmpI x y)):=by
  refine Gives_in Tryz.func93 rfl Tryz.ntmps93 Tryz.results93 (by kernel_rfl) (by simp) rfl fun Q hQ=>?_
  (repeat'(first|(refine sx ?_ ?_<;>intro h<;>first|(exfalso;omega)|skip)|(refine g_op ?_;refine g_call ?_;refine g_args ?_;(first|refine s_fn (cnan_c _ _) ?_)<;>try first|omega|assumption)|refine ny ?_|refine WA_block ?_))
  all_goals((refine r_es hQ ?_;try with_reducible rfl);unfold cmpI;simp only [V.int.injEq,true_and];repeat (first|rw [if_pos (by assumption)]|rw [if_neg (by assumption)]))
theorem uC1_104_2{N:Nat}{l:List Oper}{t:List (Nat×V)}{m:Mem}{Q:Exit→List (Nat×V)→Mem→Prop}(h:RgN Tryz.prog N l t m Q (fun _=> .p) [.one 0,.one 1,.one 2,.one 3,.one 4,.one 5]):WA Tryz.prog N (.region 2 l.toArray true) t m Q:=d_rgN h
theorem agcd_c(a b:Int)(h1: -9223372036854775807≤a)(h2:a≤9223372036854775807)(h3: -9223372036854775807≤b)(h4:b≤9223372036854775807)(m:Mem):Gives Tryz.prog 104 [.int .i64 a,.int .i64 b] m (.int .i64 (Int.gcd a b)):=by
  refine Gives_in Tryz.func104 rfl Tryz.ntmps104 Tryz.results104 (by kernel_rfl) (by simp) rfl fun Q hQ=>?_
  (repeat'(first|(refine sx ?_ ?_<;>intro h<;>first|(exfalso;omega)|skip)|refine ny ?_|refine WA_block ?_|(refine uC1_104_2 ?_;refine⟨by kernel_rfl,?_⟩)))
  refine WA_while (σ:=Int×Int) [0,1] (fun s=>[.int .i64 s.1,.int .i64 s.2]) (fun _=>lend m++[]) (fun s=>(-9223372036854775807≤s.1∧s.1≤9223372036854775807)∧(-9223372036854775807≤s.2∧s.2≤9223372036854775807)∧Int.gcd s.1 s.2=Int.gcd a b) (fun s=>s.2.natAbs) (a,b) ⟨⟨h1,h2⟩,⟨h3,h4⟩,rfl⟩ tv_ rfl ?_
  rintro⟨p,q⟩ ⟨⟨hp1,hp2⟩,⟨hq1,hq2⟩,hg⟩ L hL
  dsimp only at hp1 hp2 hq1 hq2 hg
  simp only [zipT]
  (repeat'(first|(refine sx ?_ ?_<;>intro h<;>first|(exfalso;omega)|skip)|refine ny ?_|refine WA_block ?_|(refine uC1_104_2 ?_;refine⟨by kernel_rfl,?_⟩)))
  · have hm:=tmod_bd p q ⟨hp1,hp2⟩ (by assumption)
    exact next_ hL (q,p.tmod q) ⟨⟨hq1,hq2⟩,hm.1,(gcd_tmod p q).trans hg⟩ hm.2
  all_goals((refine r_es hQ ?_;try with_reducible rfl);have hq0:q=0:=by omega)
  all_goals(subst hq0;rw [←hg];simp;try omega)
end Go.Proofs.YtomkbpoicjabfaaGreatDoor
