/- plans: the plain reading -/
import Derived.Test.YtaoakololkcepaaB37
import Derived.Test.YtaoakololkcepaaB25
set_option linter.unusedSimpArgs false
set_option linter.unusedVariables false
namespace Go.Proofs.Ytaoakololkcepaa
open Go.RowKit
theorem bef_yes {l : List StR} {i k : Nat} {n : Int} (hi : i ≤ l.length) (hk : k < i) (h : (l.getD k stz).ad = n) : 0 ≤ fdx (isS n) (l.take i) :=
  (fdx_in (f := isS n) (l := l.take i) (d := stz) (i := k) (by rw [List.length_take]; omega) (by rw [getD_take hk]; exact decide_eq_true h)).1
theorem rmap_get {α : Type} (f : Nat → α) {n i : Nat} (d : α) (h : i < n) : ((List.range n).map f).getD i d = f i := by
  rw [List.getD_eq_getElem?_getD, List.getElem?_map, List.getElem?_range h]; rfl
def plV (l : List (List StR)) : List (List V) := l.map fun p => [V.lst (stsV p)]
theorem plV_length {l : List (List StR)} : (plV l).length = l.length := by simp [plV]
theorem plV_get {l : List (List StR)} {i : Nat} (h : i < l.length) : (plV l)[i]? = some [V.lst (stsV (l.getD i []))] := by
  rw [plV, List.getElem?_map, lst_get (d := []) h]; rfl
theorem plV_plain (l : List (List StR)) : plainLL (plV l) = true := plainLL_of fun e he => by
  obtain ⟨x, _, rfl⟩ := List.mem_map.1 he
  simp [plainL, V.plain, stsV_plain]
theorem plV_snoc (l : List (List StR)) (p : List StR) : plV (l ++ [p]) = plV l ++ [[V.lst (stsV p)]] := by simp [plV]
/-- the sums behind the first steps of a pass -/
def addS (p : List StR) (s : List Int) : Nat → List Int
  | 0 => s
  | k + 1 => (addS p s k).set (p.getD k stz).ad.toNat ((addS p s k).getD (p.getD k stz).ad.toNat 0 + (p.getD k stz).n)
theorem addS_length (p : List StR) (s : List Int) : ∀ k, (addS p s k).length = s.length
  | 0 => rfl
  | k + 1 => by rw [addS, List.length_set, addS_length p s k]
def psOk (ads : List AdR) (p : List StR) : Prop := p.length ≤ 12 ∧ ∀ i, i < p.length → psErrAt ads p i = 0
theorem find_range {n : Nat} {f : Nat → Bool} : (∀ i, i < n → f i = false) ∧ (List.range n).find? f = none ∨ ∃ i, i < n ∧ f i = true ∧ (∀ j, j < i → f j = false) ∧ (List.range n).find? f = some i := by
  cases h : (List.range n).find? f with
  | none =>
    refine .inl ⟨fun i hi => ?_, rfl⟩
    have := List.find?_eq_none.1 h i (List.mem_range.2 hi)
    simpa using this
  | some i =>
    refine .inr ⟨i, List.mem_range.1 (List.mem_of_find?_eq_some h), List.find?_some h, fun j hj => ?_, rfl⟩
    cases hj2 : f j with
    | false => rfl
    | true =>
      have hi := List.mem_range.1 (List.mem_of_find?_eq_some h)
      obtain ⟨k, hk, hk2, hk3⟩ : ∃ k, k ≤ j ∧ f k = true ∧ ∀ m, m < k → f m = false := by
        clear h hi hj
        induction j with
        | zero => exact ⟨0, Nat.le_refl _, hj2, fun m hm => absurd hm (Nat.not_lt_zero _)⟩
        | succ j ih =>
          by_cases hq : ∃ m, m ≤ j ∧ f m = true
          · obtain ⟨m, hm, hm2⟩ := hq
            have : ∀ q, f q = true → ∃ k, k ≤ q ∧ f k = true ∧ ∀ m, m < k → f m = false := fun q => by
              induction q using Nat.strongRecOn with
              | _ q ihq =>
                intro hq
                by_cases hz : ∃ z, z < q ∧ f z = true
                · obtain ⟨z, hz1, hz2⟩ := hz
                  obtain ⟨k, h1, h2, h3⟩ := ihq z hz1 hz2
                  exact ⟨k, by omega, h2, h3⟩
                · exact ⟨q, Nat.le_refl _, hq, fun m hm => by
                    cases hfm : f m with
                    | false => rfl
                    | true => exact absurd ⟨m, hm, hfm⟩ hz⟩
            obtain ⟨k, h1, h2, h3⟩ := this m hm2
            exact ⟨k, by omega, h2, h3⟩
          · exact ⟨j + 1, Nat.le_refl _, hj2, fun m hm => by
              cases hfm : f m with
              | false => rfl
              | true => exact absurd ⟨m, by omega, hfm⟩ hq⟩
      have := find_at (n := n) (k := k) (by omega) hk3 hk2
      rw [h] at this
      cases this
      omega
theorem psV_zero {ads : List AdR} {p : List StR} : (psV ads p).2 = 0 ↔ psOk ads p := by
  constructor
  · intro h
    by_cases h12 : 12 < p.length
    · rw [psV_big h12] at h; cases h
    · refine ⟨by omega, fun i hi => ?_⟩
      rcases find_range (n := p.length) (f := fun i => decide (psErrAt ads p i ≠ 0)) with ⟨h1, _⟩ | ⟨k, hk, h1, h2, _⟩
      · exact Decidable.byContradiction fun h3 => by have := h1 i hi; simp [h3] at this
      · have h1 : psErrAt ads p k ≠ 0 := of_decide_eq_true h1
        rw [psV_at (c := psErrAt ads p k) (by omega) hk (fun j hj => by have := of_decide_eq_false (h2 j hj); omega) rfl h1] at h
        exact absurd h h1
  · rintro ⟨h1, h2⟩
    rw [psV_no h1 h2]
theorem psOk_st {b : BnR} (hb : Bnd b) {p : List StR} (h : psOk b.ads p) {i : Nat} (hi : i < p.length) : (0 ≤ (p.getD i stz).ad ∧ (p.getD i stz).ad ≤ (b.ads.length : Int) - 1) ∧ (-(b.ads.getD (p.getD i stz).ad.toNat adz).pass ≤ (p.getD i stz).n ∧ (p.getD i stz).n ≤ (b.ads.getD (p.getD i stz).ad.toNat adz).pass) ∧ (-1000 ≤ (p.getD i stz).n ∧ (p.getD i stz).n ≤ 1000) := by
  have h := h.2 i hi
  unfold psErrAt at h
  by_cases h1 : 0 ≤ (p.getD i stz).ad ∧ (p.getD i stz).ad ≤ (b.ads.length : Int) - 1
  · rw [if_neg (by omega)] at h
    by_cases h2 : 0 ≤ fdx (isS (p.getD i stz).ad) (p.take i)
    · rw [if_pos h2] at h; omega
    · rw [if_neg h2] at h
      by_cases h3 : (p.getD i stz).n = 0
      · rw [if_pos h3] at h; omega
      · rw [if_neg h3] at h
        by_cases h4 : -(b.ads.getD (p.getD i stz).ad.toNat adz).pass ≤ (p.getD i stz).n ∧ (p.getD i stz).n ≤ (b.ads.getD (p.getD i stz).ad.toNat adz).pass
        · have h5 := hb.pa (p.getD i stz).ad.toNat (by omega)
          exact ⟨h1, h4, by omega⟩
        · rw [if_pos h4] at h; omega
  · rw [if_pos h1] at h; omega
theorem addS_bd {b : BnR} (hb : Bnd b) {p : List StR} (h : psOk b.ads p) {s : List Int} {c : Int} (hc : 0 ≤ c) (hs : ∀ i, -c ≤ s.getD i 0 ∧ s.getD i 0 ≤ c) : ∀ k, k ≤ p.length → ∀ i, -(c + 1000 * (k : Int)) ≤ (addS p s k).getD i 0 ∧ (addS p s k).getD i 0 ≤ c + 1000 * (k : Int)
  | 0, _ => fun i => by have := hs i; simp only [addS]; omega
  | k + 1, hk => fun i => by
    have ih := addS_bd hb h hc hs k (by omega)
    have h1 := (psOk_st hb h (i := k) (by omega)).2.2
    have h2 := ih (p.getD k stz).ad.toNat
    have h3 := ih i
    simp only [addS, getD_set]
    split <;> omega
/-- the sums behind the first passes -/
def smK (b : BnR) (pl : List (List StR)) : Nat → List Int
  | 0 => List.replicate b.ads.length 0
  | k + 1 => addS (pl.getD k []) (smK b pl k) (pl.getD k []).length
theorem smK_length (b : BnR) (pl : List (List StR)) : ∀ k, (smK b pl k).length = b.ads.length
  | 0 => by simp [smK]
  | k + 1 => by rw [smK, addS_length, smK_length b pl k]
def plErrAt (b : BnR) (pl : List (List StR)) (i : Nat) : Int := if (psV b.ads (pl.getD i [])).2 ≠ 0 then (psV b.ads (pl.getD i [])).2 else stErr b.ads (smK b pl (i + 1))
def plI (b : BnR) (pl : List (List StR)) : Option Nat := (List.range pl.length).find? (fun i => decide (plErrAt b pl i ≠ 0))
/-- what Sums returns: the sums, the number, the error -/
def smS (b : BnR) (pl : List (List StR)) : List Int := if 50 < pl.length then [] else match plI b pl with | some _ => [] | none => smK b pl pl.length
def smN (b : BnR) (pl : List (List StR)) : Int := if 50 < pl.length then 0 else match plI b pl with | some i => (i : Int) | none => 0
def smE (b : BnR) (pl : List (List StR)) : Int := if 50 < pl.length then 8 else match plI b pl with | some i => plErrAt b pl i | none => 0
theorem sm_big {b : BnR} {pl : List (List StR)} (h : 50 < pl.length) : smS b pl = [] ∧ smN b pl = 0 ∧ smE b pl = 8 := by
  unfold smS smN smE; rw [if_pos h, if_pos h, if_pos h]; exact ⟨rfl, rfl, rfl⟩
theorem sm_at {b : BnR} {pl : List (List StR)} {i : Nat} {c : Int} (h50 : pl.length ≤ 50) (hi : i < pl.length) (h0 : ∀ j, j < i → plErrAt b pl j = 0) (h : plErrAt b pl i = c) (hc : c ≠ 0) : smS b pl = [] ∧ smN b pl = (i : Int) ∧ smE b pl = c := by
  have e : plI b pl = some i := by unfold plI; exact find_at hi (fun j hj => by rw [h0 j hj]; rfl) (by rw [h]; exact decide_eq_true hc)
  unfold smS smN smE
  rw [if_neg (by omega), if_neg (by omega), if_neg (by omega), e]
  exact ⟨rfl, rfl, h⟩
theorem sm_no {b : BnR} {pl : List (List StR)} (h50 : pl.length ≤ 50) (h0 : ∀ j, j < pl.length → plErrAt b pl j = 0) : smS b pl = smK b pl pl.length ∧ smN b pl = 0 ∧ smE b pl = 0 := by
  have e : plI b pl = none := by unfold plI; exact find_no (fun j hj => by rw [h0 j hj]; rfl)
  unfold smS smN smE
  rw [if_neg (by omega), if_neg (by omega), if_neg (by omega), e]
  exact ⟨rfl, rfl, rfl⟩
theorem sm_cases (b : BnR) (pl : List (List StR)) : 50 < pl.length ∧ smS b pl = [] ∧ smN b pl = 0 ∧ smE b pl = 8 ∨ pl.length ≤ 50 ∧ (∃ i, i < pl.length ∧ (∀ j, j < i → plErrAt b pl j = 0) ∧ plErrAt b pl i ≠ 0 ∧ smS b pl = [] ∧ smN b pl = (i : Int) ∧ smE b pl = plErrAt b pl i) ∨ pl.length ≤ 50 ∧ (∀ j, j < pl.length → plErrAt b pl j = 0) ∧ smS b pl = smK b pl pl.length ∧ smN b pl = 0 ∧ smE b pl = 0 := by
  by_cases h : 50 < pl.length
  · exact .inl ⟨h, sm_big h⟩
  · refine .inr ?_
    rcases find_range (n := pl.length) (f := fun i => decide (plErrAt b pl i ≠ 0)) with ⟨h1, _⟩ | ⟨k, hk, h1, h2, _⟩
    · have h0 : ∀ j, j < pl.length → plErrAt b pl j = 0 := fun j hj => by have := of_decide_eq_false (h1 j hj); omega
      exact .inr ⟨by omega, h0, sm_no (by omega) h0⟩
    · have h0 : ∀ j, j < k → plErrAt b pl j = 0 := fun j hj => by have := of_decide_eq_false (h2 j hj); omega
      exact .inl ⟨by omega, k, hk, h0, of_decide_eq_true h1, sm_at (by omega) hk h0 rfl (of_decide_eq_true h1)⟩
theorem plErr_ok {b : BnR} {pl : List (List StR)} {i : Nat} (h : plErrAt b pl i = 0) : psOk b.ads (pl.getD i []) ∧ stOk b.ads (smK b pl (i + 1)) := by
  unfold plErrAt at h
  by_cases h1 : (psV b.ads (pl.getD i [])).2 = 0
  · rw [if_neg (by omega)] at h
    exact ⟨psV_zero.1 h1, stErr_iff.1 h⟩
  · rw [if_pos h1] at h; omega
theorem smK_ok {b : BnR} (hb : Bnd b) {pl : List (List StR)} {k : Nat} (h : ∀ j, j < k → plErrAt b pl j = 0) : stOk b.ads (smK b pl k) := by
  cases k with
  | zero => exact rep_ok hb
  | succ k => exact (plErr_ok (h k (by omega))).2
theorem smK_bd {b : BnR} (hb : Bnd b) {pl : List (List StR)} {k : Nat} (h : ∀ j, j < k → plErrAt b pl j = 0) : ∀ i, -1000 ≤ (smK b pl k).getD i 0 ∧ (smK b pl k).getD i 0 ≤ 1000 := fun i => by
  have h1 := smK_ok hb h
  rcases Nat.lt_or_ge i b.ads.length with hi | hi
  · exact steps_bd hb h1.2 i hi
  · rw [List.getD_eq_getElem?_getD, List.getElem?_eq_none (by rw [h1.1]; exact hi)]
    exact ⟨by decide, by decide⟩
end Go.Proofs.Ytaoakololkcepaa
