/- a slice of the call's own becomes a plain list, in slots and in memory -/
import Derived.Test.YtookikhphobnlaaGreatDoorGAC
set_option linter.unusedSimpArgs false
set_option linter.unusedVariables false
namespace Go.Proofs.YtookikhphobnlaaGreatDoor
open Go.RowKit
def frzC(b:Nat)(es:List (List V)):Blk→Blk
  | .cells st ty sz xs=> .cells st ty sz (xs.map (List.map (frzV b es)))
  |x=>x
theorem frzC_bad(b:Nat)(es:List (List V))(x:Blk):(frzC b es x).bad=x.bad:=by cases x with|cells st _ _ _=>cases st<;>rfl|obj st _ _=>rfl|dead=>rfl
theorem frzC_own(b:Nat)(es:List (List V))(x:Blk):(frzC b es x).own=x.own:=by cases x with|cells st _ _ _=>cases st<;>rfl|obj st _ _=>rfl|dead=>rfl
theorem frzC_dead{b:Nat}{es:List (List V)}{x:Blk}(h:frzC b es x≠ .dead):x≠ .dead:=by rintro rfl;exact h rfl
theorem frzX_get{b:Nat}{es:List (List V)}{B Y:Mem}{c:Nat}{blk:Blk}(h:(B++Y.map (frzC b es))[c]?=some blk):∃ x,(B++Y)[c]?=some x∧(blk=x∨blk=frzC b es x):=by
  rcases Nat.lt_or_ge c B.length with q|q
  · rw [List.getElem?_append_left q] at h
    exact⟨blk,by rw [List.getElem?_append_left q];exact h,.inl rfl⟩
  · rw [List.getElem?_append_right q,List.getElem?_map,Option.map_eq_some_iff] at h
    obtain⟨x,h1,rfl⟩:=h
    exact⟨x,by rw [List.getElem?_append_right q];exact h1,.inr rfl⟩
theorem frzC_has{p:Blk→Bool}{b:Nat}{es:List (List V)}(hp:∀ x,p (frzC b es x)=p x){B Y:Mem}{ρ:List Re}{k:Nat}:has p (B++Y.map (frzC b es)) ρ k→has p (B++Y) ρ k:=by
  rintro⟨c,blk,r,h1,h2,h3,h4⟩
  obtain⟨x,h1,e⟩:=frzX_get h1
  refine⟨c,x,r,h1,?_,h3,h4⟩
  rcases e with rfl|rfl
  · exact h2
  · exact(hp x).symm.trans h2
theorem frzV_one{b:Nat}{es:List (List V)}{v:V}(h:v.one=true):(frzV b es v).one=true:=by
  unfold frzV
  split
  · split
    · rfl
    · exact h
  · exact h
theorem RelM.fzC {w:World} {ρ:List Re} {B X:Mem} (hM:RelM w ρ (B++X)) {j:Nat} {st:Sta} {ty sz:Nat} {es:List (List V)} (hX:X[j]?=some (.cells st ty sz es)):RelM w ρ (B++(X.set j (.cells .ro ty sz es)).map (frzC (B.length+j) es)):=by
  have hb:(B++X)[B.length+j]?=some (.cells st ty sz es):=by rw [List.getElem?_append_right (Nat.le_add_right _ _),Nat.add_sub_cancel_left];exact hX
  have hset:(B++X).set (B.length+j) (.cells .ro ty sz es)=B++X.set j (.cells .ro ty sz es):=by rw [List.set_append_right _ _ (Nat.le_add_right _ _),Nat.add_sub_cancel_left]
  have af:=After.of_ro hM hb
  have h1:=af.mem
  have hfr:=fun {v:V} {x:Value} (h:RelV w ρ (bad (B++X) ρ) v x)=>frzV_rel hM hb h
  have hgen:=fun {v:V} {x:Value} (h:RelV w ρ (bad (B++X) ρ) v x)=>af.rel h
  rw [hset] at h1
  simp only [hset] at hfr hgen
  have hjl:j<X.length:=(List.getElem?_eq_some_iff.1 hX).1
  have hsub:∀ k,bad (B++(X.set j (.cells .ro ty sz es)).map (frzC (B.length+j) es)) ρ k→bad (B++X.set j (.cells .ro ty sz es)) ρ k:=fun k=>frzC_has (frzC_bad _ es)
  have hrel:∀ {v:V} {x:Value},RelV w ρ (bad (B++X.set j (.cells .ro ty sz es)) ρ) v x→RelV w ρ (bad (B++(X.set j (.cells .ro ty sz es)).map (frzC (B.length+j) es)) ρ) v x:=fun hr=>hr.mono (Nat.le_refl _) (fun _ _ _=>rfl) (fun k _ h=>hsub k h) (fun _ _ h=>h)
  have old:∀ {c:Nat} {st':Sta} {ty' sz':Nat} {es0:List (List V)},(B++X.set j (.cells .ro ty sz es))[c]?=some (.cells st' ty' sz' es0)→∃ st1,(B++X)[c]?=some (.cells st1 ty' sz' es0):=by
    intro c st' ty' sz' es0 hx
    rcases Nat.lt_or_ge c B.length with q|q
    · rw [List.getElem?_append_left q] at hx
      exact⟨st',by rw [List.getElem?_append_left q];exact hx⟩
    · rw [List.getElem?_append_right q,List.getElem?_set] at hx
      split at hx
      · rename_i e
        simp only [←e,Option.some.injEq,hjl,if_true] at hx
        cases hx
        exact⟨st,by rw [List.getElem?_append_right q,←e];exact hX⟩
      · exact⟨st',by rw [List.getElem?_append_right q];exact hx⟩
  refine⟨by simpa using h1.len,fun c st' ty' sz' es' hc=>?_,fun c c' blk blk' r r' a1 a2 a3 a4 a5 a6 a7=>?_,fun c st' vs φ hc=>?_,h1.glob.mono fun v x h=>hrel h⟩
  · obtain⟨x,hx,he⟩:=frzX_get hc
    rcases he with rfl|he
    · obtain⟨st1,hm⟩:=old hx
      obtain⟨r,cur,k1,k2,k3,k4,k5,k6,k7,k8,k9⟩:=hM.cells c st1 ty' sz' es' hm
      refine⟨r,cur,k1,k2,k3,k4,k5,k6,k7,k8,fun i j e v a1 a2=>?_⟩
      obtain⟨b1,y,b2,b3⟩:=k9 i j e v a1 a2
      exact⟨b1,y,b2,hrel (hgen b3)⟩
    · cases x with
      | cells st0 ty0 sz0 es0=>
        simp only [Go.Proofs.YtookikhphobnlaaGreatDoor.frzC,Blk.cells.injEq] at he
        obtain⟨rfl,rfl,rfl,rfl⟩:=he
        obtain⟨st1,hm⟩:=old hx
        obtain⟨r,cur,k1,k2,k3,k4,k5,k6,k7,k8,k9⟩:=hM.cells c st1 ty' sz' es0 hm
        refine⟨r,cur,k1,k2,k3,k4,k5,by simpa using k6,k7,fun e he=>?_,fun i j e v a1 a2=>?_⟩
        · obtain⟨e0,h2,rfl⟩:=List.mem_map.1 he
          simpa using k8 e0 h2
        · rw [List.getElem?_map,Option.map_eq_some_iff] at a1
          obtain⟨e0,a1,rfl⟩:=a1
          rw [List.getElem?_map,Option.map_eq_some_iff] at a2
          obtain⟨v0,a2,rfl⟩:=a2
          obtain⟨b1,y,b2,b3⟩:=k9 i j e0 v0 a1 a2
          exact⟨frzV_one b1,y,b2,hrel (hfr b3)⟩
      |obj _ _ _=>simp [Go.Proofs.YtookikhphobnlaaGreatDoor.frzC] at he
      |dead=>simp [Go.Proofs.YtookikhphobnlaaGreatDoor.frzC] at he
  · obtain⟨x,hx,e1⟩:=frzX_get a1
    obtain⟨x',hx',e2⟩:=frzX_get a3
    refine h1.inj c c' x x' r r' hx ?_ hx' ?_ a5 a6 a7
    · rcases e1 with rfl|rfl
      · exact a2
      · exact frzC_dead a2
    · rcases e2 with rfl|rfl
      · exact a4
      · exact(frzC_bad _ es x').symm.trans a4
  · obtain⟨x,hx,he⟩:=frzX_get hc
    have hx2:(B++X.set j (.cells .ro ty sz es))[c]?=some (.obj st' vs φ):=by
      rcases he with rfl|he
      · exact hx
      · cases x with
        |cells _ _ _ _=>simp [Go.Proofs.YtookikhphobnlaaGreatDoor.frzC] at he
        |dead=>simp [Go.Proofs.YtookikhphobnlaaGreatDoor.frzC] at he
        |obj st0 vs0 φ0=>rw [he];exact hx
    obtain⟨r,k1,k2⟩:=h1.objs c st' vs φ hx2
    exact⟨r,k1,k2.mono (fun _=>rfl) fun v x h=>hrel h⟩
section
variable {P:Program} {N:Nat} {t:List (Nat×V)} {m:Mem}
theorem WA_fzM{c:Code}{Q:Exit→List (Nat×V)→Mem→Prop}{B X:Mem}{j:Nat}{st:Sta}{ty sz:Nat}{es:List (List V)}(hX:X[j]?=some (.cells st ty sz es))(h:WA P N c (t.map fun p=>(p.1,frzV (B.length+j) es p.2)) (B++(X.set j (.cells .ro ty sz es)).map (frzC (B.length+j) es)) Q):WA P N c t (B++X) Q:=by
  intro F hF z w ρ a hR
  have hb:(B++X)[B.length+j]?=some (.cells st ty sz es):=by rw [List.getElem?_append_right (Nat.le_add_right _ _),Nat.add_sub_cancel_left];exact hX
  have hset:(B++X).set (B.length+j) (.cells .ro ty sz es)=B++X.set j (.cells .ro ty sz es):=by rw [List.set_append_right _ _ (Nat.le_add_right _ _),Nat.add_sub_cancel_left]
  have af0:=After.of_ro hR.mem hb
  have hM2:=hR.mem.fzC hX
  have hfr:=fun i=>frzV_rel hR.mem hb (hR.tm i)
  rw [hset] at af0
  simp only [hset] at hfr
  have hsub:∀ k,bad (B++(X.set j (.cells .ro ty sz es)).map (frzC (B.length+j) es)) ρ k→bad (B++X.set j (.cells .ro ty sz es)) ρ k:=fun k=>frzC_has (frzC_bad _ es)
  have af:After w ρ (B++X) w ρ (B++(X.set j (.cells .ro ty sz es)).map (frzC (B.length+j) es)):=⟨af0.keep,af0.pre,hM2,fun k hk ho=>af0.own k hk (frzC_has (frzC_own _ es) ho),fun k hk ho=>af0.bd k hk (hsub k ho)⟩
  have e:∀ (t:List (Nat×V)) i,tget (t.map fun p=>(p.1,frzV (B.length+j) es p.2)) i=frzV (B.length+j) es (tget t i):=by
    intro t i
    induction t with
    |nil=>rfl
    | cons p r ih=>
      simp only [List.map_cons,tget]
      split
      · rfl
      · exact ih
  refine wpIn_mono (h F hF z w ρ a ⟨hM2,fun i=>?_,hR.size,hR.defers.after af⟩) ?_
  · rw [e];exact(hfr i).mono (Nat.le_refl _) (fun _ _ _=>rfl) (fun k _ h=>hsub k h) (fun _ _ h=>h)
  · rintro e a1 w1 ⟨t',m',ρ',hq,hR',af'⟩
    exact⟨t',m',ρ',hq,hR',af.trans af'⟩
/-- a stop behind a piece of code -/
theorem WA_stop{x y:Code}{Q:Exit→List (Nat×V)→Mem→Prop}(h:∀ K:List (Nat×V)→Mem→Prop,(∀ t m,WA P N y t m Q→K t m)→WA P N x t m (qThen K Q)):WA P N (.seq x y) t m Q:=WA_seq' (h _ fun _ _ h=>h)
end
end Go.Proofs.YtookikhphobnlaaGreatDoor
