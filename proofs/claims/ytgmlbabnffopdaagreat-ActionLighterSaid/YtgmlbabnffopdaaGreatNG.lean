/- a group of a drawn region whose steps look at one another: the walk of each of its orders -/
import Derived.Test.YtgmlbabnffopdaaGreatYC
set_option linter.unusedSimpArgs false
set_option linter.unusedVariables false
namespace Go.Proofs.YtgmlbabnffopdaaGreat
open Go.RowKit
section
variable {P : Program} {N : Nat} {ops : Array Oper} {kd : Nat → Kd} {LL : Lim} {is : List El} {t : List (Nat × V)} {m : Mem} {Q K : List (Nat × V) → Mem → Prop}
theorem d_alt {cs ns : List Nat} {f : Nat} (h : WDg P N ops kd LL (fun t m => WDs P N ops kd LL is t m Q) f cs ns t m) (hf : cs.length + ns.length = f := by first | exact rfl | fail) : WDs P N ops kd LL (.grp false cs ns :: is) t m Q := by
  subst hf
  unfold WDs
  exact h
theorem wg_0 (h : K t m) : WDg P N ops kd LL K 0 [] [] t m := ⟨rfl, rfl, h⟩
/-- one of a group's steps, and what follows -/
def WGo (P : Program) (N : Nat) (ops : Array Oper) (kd : Nat → Kd) (LL : Lim) (i : Nat) (t : List (Nat × V)) (m : Mem) (R : List (Nat × V) → Mem → Prop) : Prop := ∃ o, ops[i]? = some o ∧ WDop P N LL (kd i) t m o.op o.dst R
/-- each of the makers that are left -/
def WGm (P : Program) (N : Nat) (ops : Array Oper) (kd : Nat → Kd) (LL : Lim) (K : List (Nat × V) → Mem → Prop) (f : Nat) (cs ns l : List Nat) (t : List (Nat × V)) (m : Mem) : Prop := ∀ n ∈ l, WGo P N ops kd LL n t m fun t m => WDg P N ops kd LL K f cs (ns.erase n) t m
theorem wg_b {c f : Nat} {cs ns : List Nat} (h : WGm P N ops kd LL K f (c :: cs) ns ns t m) (hb : ns.any (fun n => reach ops ops.size c n) = true := by first | exact rfl | fail) : WDg P N ops kd LL K (f + 1) (c :: cs) ns t m := by
  refine ⟨fun c' cs' e hr => ?_, h⟩
  cases e
  obtain ⟨n, hn, hx⟩ := List.any_eq_true.1 hb
  rw [hr n hn] at hx
  cases hx
theorem wg_c {c f : Nat} {cs ns : List Nat} (h1 : WGo P N ops kd LL c t m fun t m => WDg P N ops kd LL K f cs ns t m) (h : WGm P N ops kd LL K f (c :: cs) ns ns t m) : WDg P N ops kd LL K (f + 1) (c :: cs) ns t m := by
  refine ⟨fun c' cs' e _ => ?_, h⟩
  cases e
  exact h1
theorem wg_n {f : Nat} {ns : List Nat} (h : WGm P N ops kd LL K f [] ns ns t m) : WDg P N ops kd LL K (f + 1) [] ns t m := ⟨fun c' cs' e _ => (by cases e), h⟩
theorem wm_nil {f : Nat} {cs ns : List Nat} : WGm P N ops kd LL K f cs ns [] t m := fun n hn => by cases hn
theorem wm_cons {f n : Nat} {cs ns ns' l : List Nat} (h1 : WGo P N ops kd LL n t m fun t m => WDg P N ops kd LL K f cs ns' t m) (h : WGm P N ops kd LL K f cs ns l t m) (he : ns.erase n = ns' := by first | exact rfl | fail) : WGm P N ops kd LL K f cs ns (n :: l) t m := by
  subst he
  intro k hk
  rcases List.mem_cons.1 hk with rfl | hk
  · exact h1
  · exact h k hk
theorem wg_op {R : List (Nat × V) → Mem → Prop} {i d : Nat} {op : Op} {ty : TypeId} {pos : String} {af : Array Edge} {g : Option (Nat × Bool)} {p : Prop} {v : V} {m' : Mem} (h : R ((d, v) :: t) m') (hi : ops[i]? = some ⟨some d, op, ty, pos, af, g⟩ := by first | exact rfl | fail) (hd : dOkB N (some d) = true := by first | exact rfl | fail) (hev : evA P t m op = some (p, v, m') := by first | exact ev_ | fail) (hp : p := by first | exact trivial | assumption | omega)
    (hk : kOk P LL (kd i) t op m m' v := by first | (simp [kOk, isPure, isFresh, isRd, isLd, V.det, detL]; done) | (refine Or.inr (Or.inr ⟨_, _, _, _, _, rfl, lk_, ?_⟩); simp only [List.length_append, List.length_cons, List.length_nil]; omega)) : WGo P N ops kd LL i t m R := by
  refine ⟨_, hi, dOk_b hd, ?_⟩
  dsimp only
  split
  · rename_i fo args ts
    exfalso
    have : evA P t m (.call ⟨.value fo, args, ts⟩) = none := rfl
    rw [this] at hev
    cases hev
  · rw [hev]
    exact ⟨hp, hk, h⟩
end
end Go.Proofs.YtgmlbabnffopdaaGreat
