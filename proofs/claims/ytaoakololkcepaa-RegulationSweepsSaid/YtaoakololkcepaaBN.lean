/- the nearest step, in two ways -/
import Derived.Test.YtaoakololkcepaaB19
set_option linter.unusedSimpArgs false
set_option linter.unusedVariables false
namespace Go.Proofs.Ytaoakololkcepaa
open Go.RowKit
def lxP (far : Int → Int) (r s : Int) : Prop := far r < far s ∨ (far r = far s ∧ (r.natAbs < s.natAbs ∨ (r.natAbs = s.natAbs ∧ r ≤ s)))
structure Nr (ok : Int → Bool) (far : Int → Int) (n : Nat) (r : Int) : Prop where
  o : ok r = true
  b : r.natAbs ≤ n
  l : ∀ s, ok s = true → s.natAbs ≤ n → lxP far r s
theorem nr_uniq {ok : Int → Bool} {far : Int → Int} {n : Nat} {r s : Int} (h1 : Nr ok far n r) (h2 : Nr ok far n s) : r = s := by
  have a := h1.l s h2.o h2.b
  have c := h2.l r h1.o h1.b
  unfold lxP at a c
  omega
theorem nrK_nr {ok : Int → Bool} {far : Int → Int} (h0 : ok 0 = true) : ∀ n : Nat, (nrK ok far (n + 1)).2 = true ∧ Nr ok far n (nrK ok far (n + 1)).1
  | 0 => by
    have e : nrK ok far 1 = (0, true) := by
      show stepN ok far ((0 : Nat) : Int) (stepN ok far (-((0 : Nat) : Int)) (0, false)) = _
      simp only [Int.natCast_zero, Int.neg_zero]
      rw [stepN_e2 (s := 0) (p := (0, false)) h0 (.inl rfl), stepN_e3 rfl (by simp)]
    rw [e]
    refine ⟨rfl, h0, by simp, fun s hs hb => ?_⟩
    have : s = 0 := by omega
    subst this
    show lxP far 0 0
    unfold lxP; omega
  | n + 1 => by
    obtain ⟨i1, i2⟩ := nrK_nr (far := far) h0 n
    have e : nrK ok far (n + 1 + 1) = stepN ok far ((n + 1 : Nat) : Int) (stepN ok far (-((n + 1 : Nat) : Int)) (nrK ok far (n + 1))) := rfl
    rw [e]
    generalize nrK ok far (n + 1) = p at i1 i2 ⊢
    obtain ⟨r, t⟩ := p
    dsimp only at i1 i2
    subst i1
    -- the step down
    obtain ⟨r1, e1, ho1, hb1, hl1⟩ : ∃ r1, stepN ok far (-((n + 1 : Nat) : Int)) (r, true) = (r1, true) ∧ ok r1 = true ∧ (r1.natAbs ≤ n ∨ r1 = -((n + 1 : Nat) : Int)) ∧ ∀ s, ok s = true → (s.natAbs ≤ n ∨ s = -((n + 1 : Nat) : Int)) → lxP far r1 s := by
      by_cases hk : ok (-((n + 1 : Nat) : Int)) = true
      · by_cases hf : far (-((n + 1 : Nat) : Int)) < far r
        · refine ⟨_, stepN_e2 hk (.inr hf), hk, .inr rfl, fun s hs hb => ?_⟩
          rcases hb with hb | hb
          · have := i2.l s hs hb
            unfold lxP at this ⊢; omega
          · subst hb; unfold lxP; omega
        · refine ⟨_, stepN_e3 rfl hf, i2.o, .inl i2.b, fun s hs hb => ?_⟩
          rcases hb with hb | hb
          · exact i2.l s hs hb
          · subst hb
            have := i2.b
            unfold lxP; omega
      · have hk : ok (-((n + 1 : Nat) : Int)) = false := by simpa using hk
        refine ⟨_, stepN_e1 hk, i2.o, .inl i2.b, fun s hs hb => ?_⟩
        rcases hb with hb | hb
        · exact i2.l s hs hb
        · subst hb; rw [hk] at hs; cases hs
    rw [e1]
    by_cases hk : ok ((n + 1 : Nat) : Int) = true
    · by_cases hf : far ((n + 1 : Nat) : Int) < far r1
      · rw [stepN_e2 hk (.inr hf)]
        refine ⟨rfl, hk, by dsimp only; omega, fun s hs hb => ?_⟩
        dsimp only
        by_cases hs2 : s = ((n + 1 : Nat) : Int)
        · subst hs2; unfold lxP; omega
        · have := hl1 s hs (by omega)
          unfold lxP at this ⊢; omega
      · rw [stepN_e3 rfl hf]
        refine ⟨rfl, ho1, by dsimp only; omega, fun s hs hb => ?_⟩
        dsimp only
        by_cases hs2 : s = ((n + 1 : Nat) : Int)
        · subst hs2; unfold lxP; omega
        · exact hl1 s hs (by omega)
    · have hk : ok ((n + 1 : Nat) : Int) = false := by simpa using hk
      rw [stepN_e1 hk]
      refine ⟨rfl, ho1, by dsimp only; omega, fun s hs hb => ?_⟩
      dsimp only
      by_cases hs2 : s = ((n + 1 : Nat) : Int)
      · subst hs2; rw [hk] at hs; cases hs
      · exact hl1 s hs (by omega)
/-- the reference's step -/
def rnS (ok : Int → Bool) (far : Int → Int) (s : Int) (p : Int) : Int := if ok s = true ∧ (far s < far p ∨ (far s = far p ∧ (s.natAbs : Int) < (p.natAbs : Int))) then s else p
def rnK (ok : Int → Bool) (far : Int → Int) (n : Nat) : Nat → Int
  | 0 => 0
  | k + 1 => rnS ok far ((k : Int) - n) (rnK ok far n k)
theorem rnK_inv {ok : Int → Bool} {far : Int → Int} (h0 : ok 0 = true) (n : Nat) : ∀ k : Nat, k ≤ 2 * n + 1 → ok (rnK ok far n k) = true ∧ (rnK ok far n k).natAbs ≤ n ∧ (rnK ok far n k = 0 ∨ rnK ok far n k < (k : Int) - n) ∧ ∀ s, ok s = true → s.natAbs ≤ n → (s = 0 ∨ s < (k : Int) - n) → lxP far (rnK ok far n k) s
  | 0, _ => by
    refine ⟨h0, by simp [rnK], .inl rfl, fun s hs hb h => ?_⟩
    have : s = 0 := by omega
    subst this
    show lxP far 0 0
    unfold lxP; omega
  | k + 1, hk => by
    obtain ⟨i1, i2, i3, i4⟩ := rnK_inv (far := far) h0 n k (by omega)
    have e : rnK ok far n (k + 1) = rnS ok far ((k : Int) - n) (rnK ok far n k) := rfl
    rw [e]
    generalize rnK ok far n k = p at *
    unfold rnS
    split
    · rename_i h
      obtain ⟨h1, h2⟩ := h
      refine ⟨h1, by omega, .inr (by omega), fun s hs hb h => ?_⟩
      by_cases hs2 : s = (k : Int) - n
      · subst hs2; unfold lxP; omega
      · have := i4 s hs hb (by omega)
        unfold lxP at this ⊢; omega
    · rename_i h
      refine ⟨i1, i2, by omega, fun s hs hb h2 => ?_⟩
      by_cases hs2 : s = (k : Int) - n
      · subst hs2
        have h3 : ¬ (far ((k : Int) - n) < far p ∨ (far ((k : Int) - n) = far p ∧ (((k : Int) - n).natAbs : Int) < (p.natAbs : Int))) := fun h3 => h ⟨hs, h3⟩
        unfold lxP; omega
      · exact i4 s hs hb (by omega)
theorem rnK_nr {ok : Int → Bool} {far : Int → Int} (h0 : ok 0 = true) (n : Nat) : Nr ok far n (rnK ok far n (2 * n + 1)) := by
  obtain ⟨i1, i2, i3, i4⟩ := rnK_inv (far := far) h0 n (2 * n + 1) (Nat.le_refl _)
  exact ⟨i1, i2, fun s hs hb => i4 s hs hb (by omega)⟩
theorem rn_nr {ok : Int → Bool} {far : Int → Int} (h0 : ok 0 = true) (n : Nat) : rnK ok far n (2 * n + 1) = (nrK ok far (n + 1)).1 := nr_uniq (rnK_nr h0 n) (nrK_nr h0 n).2
/-- .. the reference's way to tell how far -/
def farR (va by_ lo hi s : Int) : Int := ((2 * (va + s * by_) - lo - hi).natAbs : Int)
theorem farR_eq (va by_ lo hi : Int) : farR va by_ lo hi = farP va by_ lo hi := by
  funext s
  unfold farR farP
  rw [Int.mul_comm s by_]
theorem rnear_eq {b : BnR} {l : List Int} {i j : Nat} (h : (b.ads.getD i adz).least ≤ l.getD i 0 ∧ l.getD i 0 ≤ (b.ads.getD i adz).most) : rnK (okS (b.ads.getD i adz) (l.getD i 0)) (farR (valP b l j) (byN b i j) (b.ms.getD j msz).low (b.ms.getD j msz).high) (b.ads.getD i adz).pass.toNat (2 * (b.ads.getD i adz).pass.toNat + 1) = nearP b l i j := by
  rw [farR_eq, rn_nr (by unfold okS; exact decide_eq_true (by omega))]
  rfl
end Go.Proofs.Ytaoakololkcepaa
