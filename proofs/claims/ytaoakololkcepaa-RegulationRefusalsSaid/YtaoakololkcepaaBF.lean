/- all steps, in their order: the plain reading -/
import Derived.Test.YtaoakololkcepaaB14
set_option linter.unusedSimpArgs false
set_option linter.unusedVariables false
namespace Go.Proofs.Ytaoakololkcepaa
open Go.RowKit
theorem getD_set (l : List Int) (k i : Nat) (v : Int) : (l.set k v).getD i 0 = if i = k ∧ k < l.length then v else l.getD i 0 := by
  rw [List.getD_eq_getElem?_getD, List.getElem?_set, List.getD_eq_getElem?_getD]
  by_cases h : k = i
  · subst h
    by_cases h2 : k < l.length
    · rw [if_pos rfl, if_pos h2, if_pos ⟨rfl, h2⟩]; rfl
    · rw [if_pos rfl, if_neg h2, if_neg (fun h => h2 h.2), List.getElem?_eq_none (by omega)]
  · rw [if_neg h, if_neg (fun h2 => h h2.1.symm)]
/-- back from a place, as long as the most steps are there: the least ones instead -/
def crL (ads : List AdR) : Nat → List Int → List Int × Option Nat
  | 0, l => (l, none)
  | k + 1, l => if l.getD k 0 = (ads.getD k adz).most then crL ads k (l.set k (ads.getD k adz).least) else (l, some k)
theorem crL_succ (ads : List AdR) (k : Nat) (l : List Int) : crL ads (k + 1) l = if l.getD k 0 = (ads.getD k adz).most then crL ads k (l.set k (ads.getD k adz).least) else (l, some k) := rfl
/-- the next steps -/
def nxA (ads : List AdR) (l : List Int) : Option (List Int) := match crL ads ads.length l with
  | (l', some k) => some (l'.set k (l'.getD k 0 + 1))
  | (_, none) => none
def stOk (ads : List AdR) (l : List Int) : Prop := l.length = ads.length ∧ ∀ i, i < ads.length → (ads.getD i adz).least ≤ l.getD i 0 ∧ l.getD i 0 ≤ (ads.getD i adz).most
theorem crL_some {ads : List AdR} : ∀ {k : Nat} {l l' : List Int} {j : Nat}, k ≤ l.length → crL ads k l = (l', some j) → j < k ∧ l'.length = l.length ∧ l.getD j 0 ≠ (ads.getD j adz).most ∧ (∀ i, i ≤ j → l'.getD i 0 = l.getD i 0) ∧ (∀ i, j < i → i < k → l.getD i 0 = (ads.getD i adz).most ∧ l'.getD i 0 = (ads.getD i adz).least) ∧ ∀ i, k ≤ i → l'.getD i 0 = l.getD i 0
  | 0, l, l', j, _, h => by simp [crL] at h
  | k + 1, l, l', j, hk, h => by
    unfold crL at h
    split at h
    · rename_i hm
      obtain ⟨h1, h2, h3, h4, h5, h6⟩ := crL_some (by simp; omega) h
      have hs := fun i => getD_set l k i (ads.getD k adz).least
      refine ⟨by omega, by rw [h2]; simp, ?_, fun i hi => ?_, fun i hi hik => ?_, fun i hi => ?_⟩
      · rw [hs, if_neg (by omega)] at h3; exact h3
      · rw [h4 i hi, hs, if_neg (by omega)]
      · rcases Nat.lt_or_ge i k with q | q
        · obtain ⟨g1, g2⟩ := h5 i hi q
          rw [hs, if_neg (by omega)] at g1
          exact ⟨g1, g2⟩
        · obtain rfl : i = k := by omega
          refine ⟨hm, ?_⟩
          rw [h6 i (Nat.le_refl _), hs, if_pos ⟨rfl, by omega⟩]
      · rw [h6 i (by omega), hs, if_neg (by omega)]
    · rename_i hm
      injection h with e1 e2
      injection e2 with e2
      subst e1; subst e2
      exact ⟨by omega, rfl, hm, fun _ _ => rfl, fun i h1 h2 => by omega, fun _ _ => rfl⟩
theorem nxA_ok {ads : List AdR} {l l2 : List Int} (hl : stOk ads l) (hw : ∀ i, i < ads.length → (ads.getD i adz).least ≤ (ads.getD i adz).most) (h : nxA ads l = some l2) : stOk ads l2 := by
  unfold nxA at h
  split at h
  · rename_i l' k he
    injection h with h
    subst h
    obtain ⟨h1, h2, h3, h4, h5, h6⟩ := crL_some (by rw [hl.1]; exact Nat.le_refl _) he
    refine ⟨by simp [h2, hl.1], fun i hi => ?_⟩
    rw [getD_set]
    have hb := hl.2 i hi
    have hbw := hw i hi
    split
    · rename_i hc
      obtain ⟨rfl, _⟩ := hc
      rw [h4 i (Nat.le_refl _)]
      omega
    · rename_i hc
      rcases Nat.lt_trichotomy i k with q | q | q
      · rw [h4 i (by omega)]; exact hb
      · exact absurd ⟨q, by rw [h2, hl.1]; omega⟩ hc
      · rw [(h5 i q hi).2]; omega
  · cases h
/-- how many steps are still to come -/
def rkK (ads : List AdR) (l : List Int) : Nat → Nat
  | 0 => 0
  | k + 1 => rkK ads l k * (((ads.getD k adz).most - (ads.getD k adz).least).toNat + 1) + ((ads.getD k adz).most - l.getD k 0).toNat
theorem rkK_same {ads : List AdR} {l l2 : List Int} : ∀ {k : Nat}, (∀ i, i < k → l2.getD i 0 = l.getD i 0) → rkK ads l2 k = rkK ads l k
  | 0, _ => rfl
  | k + 1, h => by simp only [rkK]; rw [rkK_same (k := k) fun i hi => h i (by omega), h k (by omega)]
theorem nxA_rank {ads : List AdR} {l l2 : List Int} (hl : stOk ads l) (hw : ∀ i, i < ads.length → (ads.getD i adz).least ≤ (ads.getD i adz).most) (h : nxA ads l = some l2) : rkK ads l2 ads.length < rkK ads l ads.length := by
  unfold nxA at h
  split at h
  · rename_i l' k he
    injection h with h
    subst h
    obtain ⟨h1, h2, h3, h4, h5, h6⟩ := crL_some (by rw [hl.1]; exact Nat.le_refl _) he
    have hg : ∀ i, (l'.set k (l'.getD k 0 + 1)).getD i 0 = if i = k then l.getD k 0 + 1 else l'.getD i 0 := fun i => by
      rw [getD_set]
      by_cases hc : i = k
      · rw [if_pos ⟨hc, by rw [h2, hl.1]; exact h1⟩, if_pos hc, h4 k (Nat.le_refl _)]
      · rw [if_neg (fun h => hc h.1), if_neg hc]
    have key : ∀ d, k + 1 + d ≤ ads.length → rkK ads (l'.set k (l'.getD k 0 + 1)) (k + 1 + d) + 1 ≤ rkK ads l (k + 1 + d) := by
      intro d
      induction d with
      | zero =>
        intro _
        have hb := hl.2 k h1
        show rkK ads _ (k + 1) + 1 ≤ rkK ads l (k + 1)
        simp only [rkK]
        rw [rkK_same (l := l) (k := k) fun i hi => by rw [hg, if_neg (by omega), h4 i (by omega)], hg, if_pos rfl]
        omega
      | succ d ih =>
        intro hd
        have ih := ih (by omega)
        obtain ⟨g1, g2⟩ := h5 (k + 1 + d) (by omega) (by omega)
        have hwk := hw (k + 1 + d) (by omega)
        show rkK ads _ (k + 1 + d + 1) + 1 ≤ rkK ads l (k + 1 + d + 1)
        simp only [rkK]
        rw [hg (k + 1 + d), if_neg (by omega), g2, g1]
        generalize rkK ads (l'.set k (l'.getD k 0 + 1)) (k + 1 + d) = A at *
        generalize rkK ads l (k + 1 + d) = B at *
        generalize ((ads.getD (k + 1 + d) adz).most - (ads.getD (k + 1 + d) adz).least).toNat = w at *
        have := Nat.mul_le_mul_right (w + 1) ih
        rw [Nat.add_mul] at this
        omega
    have := key (ads.length - (k + 1)) (by omega)
    rw [show k + 1 + (ads.length - (k + 1)) = ads.length by omega] at this
    omega
  · cases h
def lstL (ads : List AdR) : List Int := ads.map AdR.least
theorem lstL_get {ads : List AdR} {i : Nat} (h : i < ads.length) : (lstL ads).getD i 0 = (ads.getD i adz).least := by
  unfold lstL
  rw [List.getD_eq_getElem?_getD, List.getElem?_map, lst_get (d := adz) h]; rfl
theorem lstL_ok {ads : List AdR} (hw : ∀ i, i < ads.length → (ads.getD i adz).least ≤ (ads.getD i adz).most) : stOk ads (lstL ads) :=
  ⟨by simp [lstL], fun i hi => by rw [lstL_get hi]; exact ⟨Int.le_refl _, hw i hi⟩⟩
/-- .. of which the first ones are there, 0 behind them -/
def filL (ads : List AdR) (i : Nat) : List Int := (List.range ads.length).map fun k => if k < i then (ads.getD k adz).least else 0
theorem filL_length (ads : List AdR) (i : Nat) : (filL ads i).length = ads.length := by simp [filL]
theorem filL_zero (ads : List AdR) : nsV (filL ads 0) = List.replicate ads.length [V.int .i64 0] := by
  unfold nsV filL
  rw [List.map_map]
  refine List.ext_getElem (by simp) fun i h1 h2 => ?_
  simp
theorem filL_all (ads : List AdR) : filL ads ads.length = lstL ads := by
  unfold filL lstL
  refine List.ext_getElem (by simp) fun i h1 h2 => ?_
  have hi : i < ads.length := by simpa using h1
  simp only [List.getElem_map, List.getElem_range, if_pos hi]
  rw [List.getD_eq_getElem?_getD, List.getElem?_eq_getElem hi]; rfl
theorem filL_succ {ads : List AdR} {i : Nat} (hi : i < ads.length) : filL ads (i + 1) = (filL ads i).set i (ads.getD i adz).least := by
  refine List.ext_getElem (by simp [filL]) fun j h1 h2 => ?_
  rw [List.getElem_set]
  simp only [filL, List.getElem_map, List.getElem_range]
  by_cases h : i = j
  · subst h; rw [if_pos rfl, if_pos (by omega)]
  · rw [if_neg h]
    by_cases h3 : j < i
    · rw [if_pos (by omega), if_pos h3]
    · rw [if_neg (by omega), if_neg h3]
/-- the best steps up to now -/
structure Bst where
  f : Bool
  l : List Int
  p : Int
  q : Int
def orI (a b : Int) : Int := if a ≠ 0 then a else b
def updB (b : BnR) (l : List Int) (s : Bst) : Bst := if (s.f = true ∧ 0 ≤ orI (cmpI (pasK b.ads l b.ads.length) s.p) (cmpI (sumA l b.ads.length) s.q)) ∨ brkP b l b.ms.length ≠ [] then s else ⟨true, l, pasK b.ads l b.ads.length, sumA l b.ads.length⟩
def fwF (b : BnR) : Nat → List Int → Bst → Bst
  | 0, _, s => s
  | n + 1, l, s => match nxA b.ads l with
    | none => updB b l s
    | some l' => fwF b n l' (updB b l s)
/-- .. of all -/
def fwB (b : BnR) : Bst := fwF b (rkK b.ads (lstL b.ads) b.ads.length + 1) (lstL b.ads) ⟨false, [], 0, 0⟩
def trK (ads : List AdR) : Nat → Int
  | 0 => 1
  | k + 1 => trK ads k * ((ads.getD k adz).most - (ads.getD k adz).least + 1)
end Go.Proofs.Ytaoakololkcepaa
