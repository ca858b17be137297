/- a lead more: the same is taken from the down weight and the up weight -/
import Derived.Test.YtgmlbabnffopdaaGreatYE
import Derived.Test.YtgmlbabnffopdaaGreatC61
set_option linter.unusedSimpArgs false
set_option linter.unusedVariables false
namespace Go.Proofs.YtgmlbabnffopdaaGreat
def more (a : ActR) (l : Int × Int) : ActR := { a with leads := a.leads ++ [l] }
theorem curP_more (a : ActR) (l : Int × Int) : ∀ n i, curP (more a l) n i = curP a n i
  | 0, _ => rfl
  | n + 1, i => by
    have ih := fun j => curP_more a l n j
    show (if ((more a l).parts.getD i p0).driver = [] then some (dipC (more a l)) else curP (more a l) n (drv (more a l) ((more a l).parts.getD i p0))).bind _ = _
    rw [ih]
    rfl
theorem cvP_more (a : ActR) (l : Int × Int) (i : Nat) : cvP (more a l) i = cvP a i := curP_more a l 13 i
theorem slpA_more (a : ActR) (l : Int × Int) (x : Rat) (i : Nat) : slpA (more a l) x i = slpA a x i := by unfold slpA; rw [cvP_more]
theorem rts_more (a : ActR) (l : Int × Int) (x : Rat) (n : Nat) : rts (more a l) x n = rts a x n := by
  unfold rts; exact List.map_congr_left fun i _ => slpA_more a l x i
theorem balP_more (a : ActR) (l : Int × Int) (r : List Rat) (g : Bool) : ∀ n, balP (more a l) r g n = balP a r g n
  | 0 => rfl
  | n + 1 => by simp only [balP]; rw [balP_more a l r g n]; rfl
theorem frcP_more (a : ActR) (l : Int × Int) (r : List Rat) (g : Bool) : ∀ n, frcP (more a l) r g n = frcP a r g n
  | 0 => rfl
  | n + 1 => by simp only [frcP]; rw [frcP_more a l r g n]; rfl
theorem ldP_more (a : ActR) (l : Int × Int) (s : Rat × Bool) : ∀ n, n ≤ a.leads.length → ldP (more a l) s n = ldP a s n
  | 0, _ => rfl
  | n + 1, h => by
    simp only [ldP]
    rw [ldP_more a l s n (by omega)]
    have : (more a l).leads.getD n l0 = a.leads.getD n l0 := by
      unfold more
      simp only [List.getD_eq_getElem?_getD]
      rw [List.getElem?_append_left (by omega)]
    rw [this]
theorem balA_more (a : ActR) (l : Int × Int) (r : List Rat) : balA (more a l) r false = sbP (balA a r false) (ldQ l) := by
  unfold balA
  have h1 : (more a l).leads.length = a.leads.length + 1 := by simp [more]
  rw [h1]
  simp only [ldP]
  rw [ldP_more a l _ _ (Nat.le_refl _), balP_more]
  have : (more a l).leads.getD a.leads.length l0 = l := by
    unfold more
    simp only [List.getD_eq_getElem?_getD]
    rw [List.getElem?_append_right (Nat.le_refl _)]
    simp
  rw [this]
/-- what is told of the touch -/
theorem touP_form {a : ActR} {x p q : Rat} (h : touP a x = some (p, q)) : allC a a.parts.length ∧ (balA a (rts a x a.parts.length) false).2 = false ∧
    p = (balA a (rts a x a.parts.length) false).1 + (frcP a (rts a x a.parts.length) false a.parts.length).1 ∧ q = (balA a (rts a x a.parts.length) false).1 - (frcP a (rts a x a.parts.length) false a.parts.length).1 := by
  unfold touP at h
  split at h
  · rename_i hc
    dsimp only at h
    split at h
    · cases h
    · rename_i hn
      simp only [Bool.not_eq_true, Bool.or_eq_false_iff, Bool.not_eq_false'] at hn
      obtain ⟨⟨h1, h2⟩, h3⟩ := hn
      injection h with h
      injection h with e1 e2
      have hg : ∀ (l : List Rat) (g : Bool) n, (frcP a l g n).2 = false → g = false := by
        intro l g n
        induction n with
        | zero => exact id
        | succ n ih => intro h; exact ih (adP_ok h).1
      have hb := hg _ _ _ h1
      rw [hb] at h1 h2 h3 e1 e2
      rw [cut_sm (smB_iff.1 h2)] at e1
      rw [cut_sm (smB_iff.1 h3)] at e2
      exact ⟨hc, hb, e1.symm, e2.symm⟩
  · cases h
theorem balV_form {a : ActR} {x b : Rat} (h : balV a x = some b) : b = (balA a (rts a x a.parts.length) false).1 := by
  unfold balV at h
  split at h
  · split at h
    · cases h
    · injection h with h; exact h.symm
  · cases h
theorem lighter_plain {a : ActR} {l : Int × Int} {x p q p' q' b : Rat} (h1 : touP a x = some (p, q)) (h2 : balV a x = some b) (h3 : touP (more a l) x = some (p', q')) :
    p + q = b + b ∧ p - p' = q - q' ∧ p - p' = ldQ l := by
  obtain ⟨_, _, e1, e2⟩ := touP_form h1
  have e3 := balV_form h2
  obtain ⟨_, g1, g2, g3⟩ := touP_form h3
  have hp : (more a l).parts = a.parts := rfl
  rw [hp, rts_more, balA_more] at g1 g2 g3
  rw [frcP_more] at g2 g3
  obtain ⟨_, e4⟩ := sbP_ok g1
  rw [e4] at g2 g3
  generalize (balA a (rts a x a.parts.length) false).1 = B at *
  generalize (frcP a (rts a x a.parts.length) false a.parts.length).1 = F at *
  subst e1 e2 e3 g2 g3
  refine ⟨?_, ?_, ?_⟩ <;> grind
theorem ldQ_pos {l : Int × Int} (h1 : 1 ≤ l.1) (h2 : 1 ≤ l.2) : 0 < ldQ l := by
  unfold ldQ
  have h3 : (0 : Rat) < ((l.1 * l.2 : Int) : Rat) := by
    have : (0 : Int) < l.1 * l.2 := Int.mul_pos (by omega) (by omega)
    exact_mod_cast this
  have h4 : (0 : Rat) < ((1000 : Int) : Rat) := by decide
  rw [Rat.div_def]
  exact Rat.mul_pos h3 (Rat.inv_pos.2 h4)
end Go.Proofs.YtgmlbabnffopdaaGreat
