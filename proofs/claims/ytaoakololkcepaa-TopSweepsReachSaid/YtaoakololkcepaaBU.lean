/- proofs of refusal: the plain reading -/
import Derived.Test.YtaoakololkcepaaB30
import Derived.Test.YtaoakololkcepaaBF
import Derived.Test.YtaoakololkcepaaYQ
set_option linter.unusedSimpArgs false
set_option linter.unusedVariables false
namespace Go.Proofs.Ytaoakololkcepaa
open Go.RowKit
/-! the best steps -/
def BstOk (b : BnR) (s : Bst) : Prop := s.f = true → stOk b.ads s.l ∧ brkP b s.l b.ms.length = [] ∧ s.p = pasK b.ads s.l b.ads.length ∧ s.q = sumA s.l b.ads.length
theorem updB_ok {b : BnR} {l : List Int} {s : Bst} (hl : stOk b.ads l) (hs : BstOk b s) : BstOk b (updB b l s) := by
  unfold updB
  split
  · exact hs
  · rename_i h
    intro _
    exact ⟨hl, Decidable.byContradiction fun h2 => h (.inr h2), rfl, rfl⟩
theorem fwF_ok {b : BnR} (hw : ∀ i, i < b.ads.length → (b.ads.getD i adz).least ≤ (b.ads.getD i adz).most) : ∀ (n : Nat) (l : List Int) (s : Bst), stOk b.ads l → BstOk b s → BstOk b (fwF b n l s)
  | 0, _, _, _, h => h
  | n + 1, l, s, hl, h => by
    unfold fwF
    split
    · exact updB_ok hl h
    · rename_i l' hn
      exact fwF_ok hw n l' _ (nxA_ok hl hw hn) (updB_ok hl h)
theorem fwB_ok {b : BnR} (hw : ∀ i, i < b.ads.length → (b.ads.getD i adz).least ≤ (b.ads.getD i adz).most) : BstOk b (fwB b) := fwF_ok hw _ _ _ (lstL_ok hw) (fun h => by cases h)
/-! how many steps there are -/
def trS (ads : List AdR) : Nat → Int
  | 0 => 1
  | k + 1 => if trS ads k ≤ 100000 then trS ads k * ((ads.getD k adz).most - (ads.getD k adz).least + 1) else trS ads k
theorem trS_pos {ads : List AdR} (hw : ∀ i, i < ads.length → (ads.getD i adz).least ≤ (ads.getD i adz).most) : ∀ k, k ≤ ads.length → 1 ≤ trS ads k
  | 0, _ => Int.le_refl 1
  | k + 1, hk => by
    have ih := trS_pos hw k (by omega)
    have h := hw k (by omega)
    simp only [trS]
    split
    · have := Int.mul_le_mul (a := 1) (c := trS ads k) (b := 1) (d := (ads.getD k adz).most - (ads.getD k adz).least + 1) ih (by omega) (by decide) (by omega)
      omega
    · exact ih
theorem trS_stop {ads : List AdR} {k : Nat} (h : 100000 < trS ads k) : ∀ d, trS ads (k + d) = trS ads k
  | 0 => rfl
  | d + 1 => by
    have ih := trS_stop h d
    show trS ads (k + d + 1) = _
    simp only [trS]
    rw [ih, if_neg (by omega)]
theorem trS_bd {b : BnR} (hb : Bnd b) : ∀ k, k ≤ b.ads.length → 1 ≤ trS b.ads k ∧ trS b.ads k ≤ 300000000
  | 0, _ => by simp [trS]
  | k + 1, hk => by
    have ih := trS_bd hb k (by omega)
    have h1 := hb.le k (by omega)
    have h2 := hb.mo k (by omega)
    have hp := trS_pos (ads := b.ads) (fun i hi => by have := hb.le i hi; have := hb.mo i hi; omega) (k + 1) hk
    refine ⟨hp, ?_⟩
    simp only [trS]
    split
    · have := Int.mul_le_mul (a := trS b.ads k) (c := 100000) (b := (b.ads.getD k adz).most - (b.ads.getD k adz).least + 1) (d := 2001) (by omega) (by omega) (by omega) (by decide)
      omega
    · exact ih.2
def narrow (b : BnR) : Prop := light b ∧ (bnErr b = 0 → trS b.ads b.ads.length ≤ 1500 ∨ 100000 < trS b.ads b.ads.length)
instance (b : BnR) : Decidable (narrow b) := inferInstanceAs (Decidable (_ ∧ _))
end Go.Proofs.Ytaoakololkcepaa
