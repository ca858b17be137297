import Derived.Test.YteogokmbedmkjaaS
namespace Go.Proofs.Yteogokmbedmkjaa
open Go.RowKit
/- a call behind a guard that holds, in a region that draws its order -/
section
variable {P : Program} {N : Nat} {ops : Array Oper} {kd : Nat → Kd} {LL i d j e : Nat} {is : List El} {t : List (Nat × V)} {m : Mem} {Q : List (Nat × V) → Mem → Prop} {g : FuncId} {vs : List V} {v : V} {l : List Operand} {ts : Array TypeId} {ty : TypeId} {pos : String} {af : Array Edge} {want : Bool}
theorem WDs_fnY (hi : ops[i]? = some ⟨some d, .call ⟨.value (.func g), l.toArray, ts⟩, ty, pos, af, some (j, want)⟩) (hj : (ops[j]?).bind (·.dst) = some e) (ht : tget t e = .bool want) (hd : dOk N (some d)) (ha : l.map (evO t) = vs) (hc : Gives P g vs m v)
    (hk : (kd i = .q ∧ v.det = true) ∨ kd i = .a ∨ kd i = .w) (h : WDs P N ops kd LL is ((d, v) :: t) m Q) : WDs P N ops kd LL (.one i :: is) t m Q := by
  have ha' : [] ++ l.toArray.toList.map (evO t) ++ [] = vs := fn_args l ha
  subst ha'
  unfold WDs
  simp only [hi, hj, ht]
  refine ⟨fun _ => ⟨hd, ?_⟩, fun hn => (hn trivial).elim⟩
  have hf : evO t (.func g) = .clo (.func g) [] [] := rfl
  simp only [hf]
  rcases hk with ⟨e, hdet⟩ | e | e <;> rw [e]
  · exact ⟨v, hdet, hc, h⟩
  · exact hc.mono fun v mo hr => by obtain ⟨rfl, rfl⟩ := hr; exact ⟨rfl, h⟩
  · exact hc.mono fun v mo hr => by obtain ⟨rfl, rfl⟩ := hr; exact h
theorem d_fnY (hc : Gives P g vs m v) (h : WDs P N ops kd LL is ((d, v) :: t) m Q) (hi : ops[i]? = some ⟨some d, .call ⟨.value (.func g), l.toArray, ts⟩, ty, pos, af, some (j, want)⟩ := by first | exact rfl | fail) (hj : (ops[j]?).bind (·.dst) = some e := by first | exact rfl | fail) (ht : tget t e = .bool want := by first | exact lk_ | fail) (hd : dOkB N (some d) = true := by first | exact rfl | fail) (ha : l.map (evO t) = vs := by first | exact lk_ | fail)
    (hk : (kd i = .q ∧ v.det = true) ∨ kd i = .a ∨ kd i = .w := by first | exact .inl ⟨rfl, by simp [V.det, detL]⟩ | exact .inr (.inl rfl) | exact .inr (.inr rfl) | fail) : DG P N ops kd LL i is t m Q := WDs_fnY hi hj ht (dOk_b hd) ha hc hk h
end
end Go.Proofs.Yteogokmbedmkjaa
