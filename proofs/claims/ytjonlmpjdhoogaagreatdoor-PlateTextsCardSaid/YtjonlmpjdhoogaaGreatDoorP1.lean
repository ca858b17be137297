/- plain words for loads on bars -/
import Derived.Test.YtjonlmpjdhoogaaGreatDoorYA
set_option linter.unusedSimpArgs false
set_option linter.unusedVariables false
namespace Go.Proofs.YtjonlmpjdhoogaaGreatDoor
def lowF(a b:Int):Int×Int:=(a.tdiv (Int.gcd a b),b / (Int.gcd a b:Int))
def cnt(xs:List Int)(x:Int):Nat:=(xs.filter fun y=>decide (y≤x)).length
def seg(xs:List Int)(x:Int):Nat:=min (cnt xs x - 1) (xs.length - 2)
theorem cnt_eq{xs:List Int}{x:Int}{k:Nat}(hk:k≤xs.length)(h1:∀ j (h:j<xs.length),j<k→xs[j]<x+1)(h2:∀ j (h:j<xs.length),k≤j→x+1≤xs[j]):cnt xs x=k:=by
  have e:xs=xs.take k++xs.drop k:=(List.take_append_drop k xs).symm
  unfold cnt
  rw [e,List.filter_append,List.length_append]
  have e1:(xs.take k).filter (fun y=>decide (y≤x))=xs.take k:=by
    rw [List.filter_eq_self]
    intro a ha
    obtain⟨j,hj,rfl⟩:=List.getElem_of_mem ha
    rw [List.length_take] at hj
    rw [List.getElem_take]
    have:=h1 j (by omega) (by omega)
    simp;omega
  have e2:(xs.drop k).filter (fun y=>decide (y≤x))=[]:=by
    rw [List.filter_eq_nil_iff]
    intro a ha
    obtain⟨j,hj,rfl⟩:=List.getElem_of_mem ha
    rw [List.length_drop] at hj
    rw [List.getElem_drop]
    have:=h2 (k+j) (by omega) (by omega)
    simp;omega
  rw [e1,e2,List.length_take]
  simp;omega
/-- one load laid on the bars beside it -/
def ldStep(xs:List Int)(s:List Int×List Int)(p:Int×Int):List Int×List Int:=
  (s.1.set (seg xs p.1) (s.1.getD (seg xs p.1) 0+p.2 * (xs.getD (seg xs p.1+1) 0 - p.1)),s.2.set (seg xs p.1+1) (s.2.getD (seg xs p.1+1) 0+p.2 * (p.1 - xs.getD (seg xs p.1) 0)))
def laid(xs:List Int)(ls:List (Int×Int)):List Int×List Int:=ls.foldl (ldStep xs) (List.replicate xs.length 0,List.replicate xs.length 0)
def befW(xs:List Int)(i:Nat):Int:=if 0<i then xs.getD i 0 - xs.getD (i - 1) 0 else 1
def behW(xs:List Int)(i:Nat):Int:=if i<xs.length - 1 then xs.getD (i+1) 0 - xs.getD i 0 else 1
def distrAt(xs:List Int)(s:List Int×List Int)(i:Nat):Int×Int:=lowF (s.2.getD i 0 * behW xs i+s.1.getD i 0 * befW xs i) (befW xs i * behW xs i)
def distr(xs:List Int)(ls:List (Int×Int)):List (Int×Int):=(List.range xs.length).map (distrAt xs (laid xs ls))
structure BarsOk(xs:List Int):Prop where
  two:2≤xs.length
  few:xs.length≤20
  bd:∀ j (h:j<xs.length), -20000≤xs[j]∧xs[j]≤20000
  up:∀ i j (hi:i<xs.length) (hj:j<xs.length),i<j→xs[i]<xs[j]
theorem getD_get{α:Type}{xs:List α}{i:Nat}{d:α}(h:i<xs.length):xs.getD i d=xs[i]:=by
  rw [List.getD_eq_getElem?_getD,List.getElem?_eq_getElem h];rfl
theorem seg_lt{xs:List Int}(h:2≤xs.length)(x:Int):seg xs x+1<xs.length:=by unfold seg;omega
structure LaidBd(xs:List Int)(s:List Int×List Int)(M:Int):Prop where
  l1:s.1.length=xs.length
  l2:s.2.length=xs.length
  b1:∀ i, -M≤s.1.getD i 0∧s.1.getD i 0≤M
  b2:∀ i, -M≤s.2.getD i 0∧s.2.getD i 0≤M
theorem mulW{w d:Int}(h1: -1000000≤w∧w≤1000000)(h2: -40000≤d∧d≤40000): -40000000000≤w * d∧w * d≤40000000000:=by
  have e:(w * d).natAbs=w.natAbs * d.natAbs:=Int.natAbs_mul w d
  have:w.natAbs * d.natAbs≤1000000 * 40000:=Nat.mul_le_mul (by omega) (by omega)
  omega
theorem getD_set{xs:List Int}{i j:Nat}{v:Int}:(xs.set i v).getD j 0=if i=j∧i<xs.length then v else xs.getD j 0:=by
  rw [List.getD_eq_getElem?_getD,List.getD_eq_getElem?_getD,List.getElem?_set]
  by_cases h:i=j
  · subst h
    by_cases h2:i<xs.length
    · simp [h2]
    · simp [h2]
  · simp [h]
theorem getD_bd{xs:List Int}(hx:BarsOk xs)(i:Nat): -20000≤xs.getD i 0∧xs.getD i 0≤20000:=by
  rcases Nat.lt_or_ge i xs.length with h|h
  · rw [getD_get h];exact hx.bd i h
  · rw [List.getD_eq_getElem?_getD,List.getElem?_eq_none h];simp
theorem laidBd_step{xs:List Int}{s:List Int×List Int}{M:Int}(hx:BarsOk xs)(h:LaidBd xs s M)(h0:0≤M){p:Int×Int}(hp: -20000≤p.1∧p.1≤20000)(hw: -1000000≤p.2∧p.2≤1000000):LaidBd xs (ldStep xs s p) (M+40000000000):=by
  have g1:=getD_bd hx (seg xs p.1)
  have g2:=getD_bd hx (seg xs p.1+1)
  have m1:=mulW hw (d:=xs.getD (seg xs p.1+1) 0 - p.1) (by omega)
  have m2:=mulW hw (d:=p.1 - xs.getD (seg xs p.1) 0) (by omega)
  refine⟨by simp [ldStep,h.l1],by simp [ldStep,h.l2],fun i=>?_,fun i=>?_⟩
  · have a1:=h.b1 i
    have a2:=h.b1 (seg xs p.1)
    simp only [ldStep,getD_set]
    split<;>omega
  · have a1:=h.b2 i
    have a2:=h.b2 (seg xs p.1+1)
    simp only [ldStep,getD_set]
    split<;>omega
theorem laidBd_start(xs:List Int):LaidBd xs (List.replicate xs.length 0,List.replicate xs.length 0) 0:=by
  refine⟨by simp,by simp,fun i=>?_,fun i=>?_⟩<;>(simp only [List.getD_eq_getElem?_getD,List.getElem?_replicate];split<;>simp)
theorem mulBig{a b:Int}(h1: -4000000000000≤a∧a≤4000000000000)(h2:1≤b∧b≤40000): -160000000000000000≤a * b∧a * b≤160000000000000000:=by
  have e:(a * b).natAbs=a.natAbs * b.natAbs:=Int.natAbs_mul a b
  have:a.natAbs * b.natAbs≤4000000000000 * 40000:=Nat.mul_le_mul (by omega) (by omega)
  omega
theorem mulDen{a b:Int}(h1:1≤a∧a≤40000)(h2:1≤b∧b≤40000):1≤a * b∧a * b≤1600000000:=by
  have e:(a * b).natAbs=a.natAbs * b.natAbs:=Int.natAbs_mul a b
  have h3:a.natAbs * b.natAbs≤40000 * 40000:=Nat.mul_le_mul (by omega) (by omega)
  have h4:1 * 1≤a.natAbs * b.natAbs:=Nat.mul_le_mul (by omega) (by omega)
  have h5:0≤a * b:=Int.mul_nonneg (by omega) (by omega)
  omega
theorem bef_bd{xs:List Int}(hx:BarsOk xs){i:Nat}(hi:i<xs.length):1≤befW xs i∧befW xs i≤40000:=by
  unfold befW
  split
  · rename_i h
    rw [getD_get hi,getD_get (by omega:i - 1<xs.length)]
    have:=hx.up (i - 1) i (by omega) hi (by omega)
    have:=hx.bd i hi
    have:=hx.bd (i - 1) (by omega)
    omega
  · omega
theorem beh_bd{xs:List Int}(hx:BarsOk xs){i:Nat}(hi:i<xs.length):1≤behW xs i∧behW xs i≤40000:=by
  unfold behW
  split
  · rename_i h
    rw [getD_get hi,getD_get (by omega:i+1<xs.length)]
    have:=hx.up i (i+1) hi (by omega) (by omega)
    have:=hx.bd i hi
    have:=hx.bd (i+1) (by omega)
    omega
  · omega
theorem mulT{x y:Int}(h1: -20000≤x∧x≤20000)(h2:1≤y∧y≤300000): -6000000000≤x * y∧x * y≤6000000000:=by
  have e:(x * y).natAbs=x.natAbs * y.natAbs:=Int.natAbs_mul x y
  have:x.natAbs * y.natAbs≤20000 * 300000:=Nat.mul_le_mul (by omega) (by omega)
  omega
theorem mulT3{a b:Int}(h1:1≤a∧a≤300000)(h2:1≤b∧b≤300000):1≤a * b∧a * b≤90000000000:=by
  have e:(a * b).natAbs=a.natAbs * b.natAbs:=Int.natAbs_mul a b
  have h3:a.natAbs * b.natAbs≤300000 * 300000:=Nat.mul_le_mul (by omega) (by omega)
  have h4:1 * 1≤a.natAbs * b.natAbs:=Nat.mul_le_mul (by omega) (by omega)
  have h5:0≤a * b:=Int.mul_nonneg (by omega) (by omega)
  omega
theorem mulT4{x y:Int}(h1:0≤x∧x≤10000000)(h2: -12000000000≤y∧y≤12000000000): -120000000000000000≤x * y∧x * y≤120000000000000000:=by
  have e:(x * y).natAbs=x.natAbs * y.natAbs:=Int.natAbs_mul x y
  have:x.natAbs * y.natAbs≤10000000 * 12000000000:=Nat.mul_le_mul (by omega) (by omega)
  omega
end Go.Proofs.YtjonlmpjdhoogaaGreatDoor
