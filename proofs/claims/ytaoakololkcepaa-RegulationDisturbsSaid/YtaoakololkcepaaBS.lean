/- the plan of steps: the plain reading -/
import Derived.Test.YtaoakololkcepaaBP
set_option linter.unusedSimpArgs false
set_option linter.unusedVariables false
namespace Go.Proofs.Ytaoakololkcepaa
open Go.RowKit
/-! the order of adjustments -/
structure Og (ads : List AdR) (out : List Nat) : Prop where
  nd : out.Nodup
  lt : ∀ x ∈ out, x < ads.length
  rd : ∀ k, k < out.length → rdyA (outN ads (out.take k)) (ads.getD (out.getD k 0) adz) = true
theorem hasT_mem {ns : List Txt} {s : Txt} : hasT ns s = true ↔ s ∈ ns := by
  unfold hasT
  rw [List.any_eq_true]
  constructor
  · rintro ⟨x, hx, h⟩
    have : x = s := of_decide_eq_true h
    exact this ▸ hx
  · intro h
    exact ⟨s, h, decide_eq_true rfl⟩
theorem og_snoc {ads : List AdR} {out : List Nat} (h : Og ads out) {i : Nat} (hi : i < ads.length) (hr : rdyA (outN ads out) (ads.getD i adz) = true) : Og ads (out ++ [i]) := by
  have hni : i ∉ out := by
    intro hm
    unfold rdyA at hr
    have : hasT (outN ads out) (ads.getD i adz).name = true := hasT_mem.2 (List.mem_map.2 ⟨i, hm, rfl⟩)
    rw [this] at hr
    simp at hr
  refine ⟨List.nodup_append.2 ⟨h.nd, by simp, fun a ha b hb => by rw [List.mem_singleton.1 hb]; rintro rfl; exact hni ha⟩, fun x hx => ?_, fun k hk => ?_⟩
  · rcases List.mem_append.1 hx with hx | hx
    · exact h.lt x hx
    · rw [List.mem_singleton.1 hx]; exact hi
  · rw [List.length_append, List.length_singleton] at hk
    rcases Nat.lt_or_ge k out.length with hk2 | hk2
    · have e : (out ++ [i]).getD k 0 = out.getD k 0 := by rw [List.getD_eq_getElem?_getD, List.getElem?_append_left hk2, ← List.getD_eq_getElem?_getD]
      rw [List.take_append_of_le_length (by omega), e]
      exact h.rd k hk2
    · obtain rfl : k = out.length := by omega
      have e : (out ++ [i]).getD out.length 0 = i := by rw [List.getD_eq_getElem?_getD, List.getElem?_append_right (Nat.le_refl _), Nat.sub_self]; rfl
      rw [List.take_append_of_le_length (Nat.le_refl _), List.take_length, e]
      exact hr
theorem og_ordF (ads : List AdR) : ∀ (n : Nat) (out : List Nat), Og ads out → Og ads (ordF ads n out)
  | 0, _, h => h
  | n + 1, out, h => by
    unfold ordF
    split
    · exact h
    · rename_i hn
      have e : nxtI ads out = fdx (rdyA (outN ads out)) ads := rfl
      rcases fdx_cases (rdyA (outN ads out)) ads adz with ⟨h1, _⟩ | ⟨i, hi, h1, h2, _⟩
      · omega
      · rw [e, h1, Int.toNat_natCast]
        exact og_ordF ads n _ (og_snoc h hi h2)
theorem og_ordB (ads : List AdR) : Og ads (ordB ads) := og_ordF ads _ _ ⟨List.nodup_nil, (fun x hx => absurd hx List.not_mem_nil), fun k hk => absurd hk (Nat.not_lt_zero _)⟩
theorem nodup_le : ∀ (n : Nat) (l : List Nat), l.Nodup → (∀ x ∈ l, x < n) → l.length ≤ n
  | 0, l, _, h => by
    cases l with
    | nil => exact Nat.le_refl _
    | cons a r => exact absurd (h a List.mem_cons_self) (Nat.not_lt_zero _)
  | n + 1, l, hd, h => by
    have ih := nodup_le n (l.erase n) (hd.erase n) fun x hx => by
      have h1 := (hd.mem_erase_iff).1 hx
      have := h x h1.2
      have := h1.1
      omega
    by_cases hm : n ∈ l
    · have := List.length_erase_of_mem hm
      omega
    · rw [List.erase_of_not_mem hm] at ih
      omega
theorem nodup_full {l : List Nat} {n : Nat} (hd : l.Nodup) (hl : ∀ x ∈ l, x < n) (hn : n ≤ l.length) : ∀ i, i < n → i ∈ l := by
  intro i hi
  refine Decidable.byContradiction fun hni => ?_
  have := nodup_le n (i :: l) (List.nodup_cons.2 ⟨hni, hd⟩) fun x hx => by
    rcases List.mem_cons.1 hx with rfl | hx
    · exact hi
    · exact hl x hx
  simp at this
  omega
/-! passes -/
end Go.Proofs.Ytaoakololkcepaa
