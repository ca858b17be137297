/- contracts: the reference reads an adjustment -/
import Derived.Test.YtookikhphobnlaaGreatDoorGAF
import Derived.Test.YtookikhphobnlaaGreatDoorB9
set_option linter.unusedSimpArgs false
set_option linter.unusedVariables false
namespace Go.Proofs.YtookikhphobnlaaGreatDoor
open Go.RowKit
attribute [local irreducible] WA WOs WDs WAn qThen qBlock tput
set_option maxHeartbeats 1000000
set_option maxRecDepth 20000
set_option linter.unusedSimpArgs false
set_option linter.unusedVariables false
set_option maxHeartbeats 4000000
def adX:List EfR→List TB
  |[]=>[]
  |p::q=>[.cells .own 83 2 ((efsV (p::q)).map (List.map TV.v))]
def nmX:List Txt→List TB
  |[]=>[]
  |p::q=>[.cells .own 9 1 ((tsV (p::q)).map (List.map TV.v))]
def nmS(j:Nat):List Txt→TV
  |[]=> .v .nilsl
  |_::q=> .sl j (q.length+1)
theorem tsV_snocT(w:Txt)(l:List Txt)(x:Txt):tsV (w::(l++[x]))=tsV (w::l)++[[V.str x]]:=by simp [tsV]
theorem tsV_one(x:Txt):tsV [x]=[[V.str x]]:=rfl
theorem efsV_snocT(l:List EfR)(e:EfR):efsV (l++[e])=efsV l++[efV e]:=by simp [efsV]
/-- a value that freezes to a list -/
def FzW(m:Mem)(L:Nat)(v:V)(es:List (List V)):Prop:=∃ u,frz m L 2 v=some u∧WkV u (.lst es)
theorem fzw_nil{m:Mem}{L:Nat}:FzW m L .nilsl []:=⟨.nilsl,frz_nl,wk_nil⟩
theorem fzw_own{m0 D X B:Mem}{j k:Nat}{st:Sta}{ty sz:Nat}{es:List (List V)}(hB:B=lend m0++D)(hX:X[j]?=some (.cells st ty sz es))(hk:es.length=k)(hp:plainLL es=true):FzW (B++X) m0.length (.sl (B.length+j) k) es:=by
  subst hB
  exact⟨_,frz_own (n:=1) hX hk hp,WkV.refl _⟩
theorem frz_st{m:Mem}{L n:Nat}{s:Txt}:frz m L n (.str s)=some (.str s):=frz_plain _ _ _ rfl (by simp) (by simp) (by simp) (by simp)
theorem fin_ad{m0 D X B:Mem}{nm:Txt}{l:List EfR}{x y z:Int}{ns:List Txt}{b:Bool}{v1 v2:V}{R:V→Option Mem→Prop}(hB:B=lend m0++D)(h1:FzW (B++X) m0.length v1 (efsV l))(h2:FzW (B++X) m0.length v2 (tsV ns))(hR:∀ v,WkV v (.tup [.agg (adV ⟨nm,l,x,y,z,ns⟩),.bool b])→R v none):Fin m0 R (.tup [.agg [.str nm,v1,.int .i64 x,.int .i64 y,.int .i64 z,v2],.bool b]) (B++X):=by
  obtain⟨u1,g1,w1⟩:=h1
  obtain⟨u2,g2,w2⟩:=h2
  refine .inr ⟨D++X,.tup [.agg [.str nm,u1,.int .i64 x,.int .i64 y,.int .i64 z,u2],.bool b],by rw [hB,List.append_assoc],?_,hR _ (wk_tup ⟨wk_agg ⟨WkV.refl _,w1,WkV.refl _,WkV.refl _,WkV.refl _,w2,trivial⟩,WkV.refl _,trivial⟩)⟩
  show(frzs (frz _ _ 3) [_,_]).map V.tup=_
  have e:frz (B++X) m0.length 3 (.agg [.str nm,v1,.int .i64 x,.int .i64 y,.int .i64 z,v2])=some (.agg [.str nm,u1,.int .i64 x,.int .i64 y,.int .i64 z,u2]):=by
    show(frzs (frz _ _ 2) _).map V.agg=_
    rw [frzs_cons frz_st (frzs_cons g1 (frzs_cons (frz_int _ _ _ _ _) (frzs_cons (frz_int _ _ _ _ _) (frzs_cons (frz_int _ _ _ _ _) (frzs_cons g2 rfl)))))]
    rfl
  rw [frzs_cons e (frzs_cons (frz_bool _ _ _ _) rfl)]
  rfl
end Go.Proofs.YtookikhphobnlaaGreatDoor
