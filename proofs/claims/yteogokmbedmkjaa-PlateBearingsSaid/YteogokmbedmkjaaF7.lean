import Derived.Test.YteogokmbedmkjaaF6
/- what an operation gives, in the model as in the plain reading -/
namespace Go.Proofs.Yteogokmbedmkjaa
open Go.RowKit

theorem bytes_toList (b : ByteArray) : b.toList = b.data.toList := ByteArray.toList_eq b
theorem i64max : IntKind.i64.max = 9223372036854775807 := by decide
theorem evBin_sound {P : Program} {w : World} {ρ : List Re} {B : Nat → Prop} {op : BinOp} {T : TypeId} {o1 o2 : Operand} {v1 v2 v : V} {x1 x2 : Value} {p : Prop}
    (h : evBin op v1 v2 = some (p, v)) (hp : p) (r1 : RelV w ρ B v1 x1) (r2 : RelV w ρ B v2 x2) :
    ∃ x, (do eqGuard op T o1 o2 x1 x2; binOp op T x1 x2 : Sem Value).run P w = .ok x w ∧ RelV w ρ B v x := by
  unfold evBin at h
  split at h
  all_goals first
    | (cases r1; cases r2
       simp only [Option.some.injEq, Prod.mk.injEq] at h
       obtain ⟨rfl, rfl⟩ := h
       have hn : ¬ _ < (0 : Int) := Int.not_lt.2 hp
       refine ⟨_, ?_, .int _ _⟩
       simp [eqGuard, binOp, Op.shift, go_sem, hn]
       done)
    | (cases r1; cases r2
       split at h
       · rename_i hk; subst hk
         simp only [Option.some.injEq, Prod.mk.injEq] at h
         obtain ⟨rfl, rfl⟩ := h
         refine ⟨?_, ?_, ?_⟩
         rotate_left 2
         · first | exact .int _ _ | exact .bool _
         · simp [eqGuard, binOp, Op.intArith, Op.intDiv, Op.intCmp, go_sem, hp] <;> first | done | (simp_all; done) | (rw [Bool.eq_iff_iff]; simp; done)
       · cases h)
    | (cases r1 with | str _ b1 e1 => cases r2 with | str _ b2 e2 =>
       simp only [Option.some.injEq, Prod.mk.injEq] at h
       obtain ⟨rfl, rfl⟩ := h
       have l1 := bytes_toList b1
       have l2 := bytes_toList b2
       rw [e1] at l1
       rw [e2] at l2
       have z1 : b1.size = _ := congrArg List.length e1
       have z2 : b2.size = _ := congrArg List.length e2
       refine ⟨?_, ?_, ?_⟩
       rotate_left 2
       · first | exact .bool _ | (refine .str _ (b1 ++ b2) ?_; simp [e1, e2])
       · first
           | (simp [eqGuard, binOp, Op.stringOp, go_sem, l1, l2]; first | done | (rw [Bool.eq_iff_iff]; simp; done))
           | (have hlt : ¬ (((b1.size + b2.size : Nat) : Int) > IntKind.i64.max) := by rw [i64max]; omega
              simp only [eqGuard, binOp, Op.stringOp, if_neg hlt]
              simp [go_sem]))
    | (cases h; done)

theorem evUn_sound {P : Program} {w : World} {ρ : List Re} {B : Nat → Prop} {op : UnOp} {v1 v : V} {x1 : Value}
    (h : evUn op v1 = some v) (r1 : RelV w ρ B v1 x1) : ∃ x, (Op.unary op x1).run P w = .ok x w ∧ RelV w ρ B v x := by
  unfold evUn at h
  split at h
  · cases r1; cases h
    exact ⟨_, by simp [Op.unary, go_sem], .bool _⟩
  · cases r1; cases h
    exact ⟨_, by simp [Op.unary, go_sem], .int _ _⟩
  · cases h

/-- the parts of a composite value -/
theorem fillV_sound {w : World} {ρ : List Re} {B : Nat → Prop} {place : Nat → Option (Nat × Nat)} : ∀ (vs : List (Nat × V)) (xs : List (Nat × Value)) (cs : List V) (ys : Array Value) (cs' : List V),
    cs.length = ys.size → (∀ (j : Nat) c y, cs[j]? = some c → ys[j]? = some y → RelV w ρ B c y) →
    vs.length = xs.length → (∀ (j : Nat) v x, vs[j]? = some v → xs[j]? = some x → v.1 = x.1 ∧ RelV w ρ B v.2 x.2) → fillV place cs vs = some cs' →
    ∃ ys', Instr.fill place ys xs = some ys' ∧ cs'.length = ys'.size ∧ (∀ (j : Nat) c y, cs'[j]? = some c → ys'[j]? = some y → RelV w ρ B c y)
  | [], [], cs, ys, cs', hl, hr, _, _, h => by
    cases h
    exact ⟨ys, rfl, hl, hr⟩
  | [], _ :: _, _, _, _, _, _, h, _, _ => by cases h
  | _ :: _, [], _, _, _, _, _, h, _, _ => by cases h
  | (i, v) :: vs, (i', x) :: xs, cs, ys, cs', hl, hr, hlen, hp, h => by
    obtain ⟨hi, hv⟩ := hp 0 _ _ rfl rfl
    simp only at hi hv
    subst hi
    simp only [fillV] at h
    split at h
    · rename_i off size zs hpl hzs
      split at h
      · rename_i hsz
        obtain ⟨c1, c2⟩ := cellsV_rel hv hzs
        have hfold : ∀ (n : Nat) (l : List Value) (k : Nat) (a : Array Value), l.length = n → off + k + n ≤ a.size →
            (l.zipIdx k).foldl (fun cs (c, j) => cs.setIfInBounds (off + j) c) a = (a.toList.take (off + k) ++ l ++ a.toList.drop (off + k + n)).toArray := by
          intro n
          induction n with
          | zero => intro l k a h1 h2; cases l <;> simp at h1 ⊢
          | succ n ih =>
            intro l k a h1 h2
            cases l with
            | nil => simp at h1
            | cons c l =>
              simp only [List.zipIdx_cons, List.foldl_cons]
              rw [ih l (k + 1) _ (by simpa using h1) (by simp; omega)]
              congr 1
              apply List.ext_getElem?
              intro q
              have hlt : off + k < a.toList.length := by simp; omega
              simp only [Array.toList_setIfInBounds]
              have e1 := splice_get (a.toList.set (off + k) c) l (off + (k + 1)) q (by simp at h1 ⊢; omega)
              have e2 := splice_get a.toList (c :: l) (off + k) q (by simp at h1 ⊢; omega)
              have hn : l.length = n := by simpa using h1
              rw [hn] at e1
              rw [show (c :: l).length = n + 1 by simp [hn]] at e2
              rw [e1, e2]
              by_cases q1 : q < off + k
              · rw [if_pos (by omega), if_pos q1, List.getElem?_set_ne (by omega)]
              · rw [if_neg q1]
                by_cases q2 : q = off + k
                · subst q2
                  rw [if_pos (by omega), if_pos (by omega), List.getElem?_set_self hlt]
                  simp
                · rw [if_neg (by omega)]
                  by_cases q3 : q < off + k + (n + 1)
                  · rw [if_pos (by omega), if_pos q3, show q - (off + k) = (q - (off + (k + 1))) + 1 by omega, List.getElem?_cons_succ]
                  · rw [if_neg (by omega), if_neg q3, List.getElem?_set_ne (by omega)]
        have hf := hfold zs.length x.cells.toList 0 ys (by simp; omega) (by omega)
        simp only [Nat.add_zero] at hf
        have e1 : ¬ (x.cells.size ≠ size ∨ off + x.cells.size > ys.size) := by omega
        simp only [Instr.fill, hpl]
        rw [if_neg (by simp only [Bool.or_eq_true, decide_eq_true_eq]; exact e1)]
        have hzip : x.cells.zipIdx.foldl (fun cs (c, j) => cs.setIfInBounds (off + j) c) ys = (ys.toList.take off ++ x.cells.toList ++ ys.toList.drop (off + zs.length)).toArray := by
          rw [← hf, ← Array.foldl_toList]; simp
        rw [hzip]
        refine fillV_sound vs xs _ _ cs' ?_ ?_ (by simpa using hlen) (fun j v x h1 h2 => hp (j + 1) v x h1 h2) h
        · simp [setAt]; omega
        · intro j c y a1 a2
          unfold setAt at a1
          rw [splice_get cs zs off j (by omega)] at a1
          have a2' : (ys.toList.take off ++ x.cells.toList ++ ys.toList.drop (off + x.cells.toList.length))[j]? = some y := by
            have : x.cells.toList.length = zs.length := by simp; omega
            rw [this]; simpa using a2
          rw [splice_get ys.toList x.cells.toList off j (by simp; omega)] at a2'
          have hxl : x.cells.toList.length = zs.length := by simp; omega
          rw [hxl] at a2'
          by_cases q1 : j < off
          · rw [if_pos q1] at a1 a2'
            exact hr j c y a1 (by simpa using a2')
          · rw [if_neg q1] at a1 a2'
            by_cases q2 : j < off + zs.length
            · rw [if_pos q2] at a1 a2'
              exact (c2 _ c y a1 (by simpa using a2')).2.2
            · rw [if_neg q2] at a1 a2'
              exact hr j c y a1 (by simpa using a2')
      · cases h
    · cases h
end Go.Proofs.Yteogokmbedmkjaa
