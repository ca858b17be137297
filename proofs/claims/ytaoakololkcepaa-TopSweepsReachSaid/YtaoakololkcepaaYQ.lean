import Derived.Test.YtaoakololkcepaaB37
import Derived.Test.YtaoakololkcepaaB25
set_option linter.unusedSimpArgs false
set_option linter.unusedVariables false
/- plans: the plain reading -/
namespace Go.Proofs.Ytaoakololkcepaa
open Go.RowKit
theorem getD_drop {α : Type} {l : List α} {i k : Nat} {d : α} : (l.drop i).getD k d = l.getD (i + k) d := by
  rw [List.getD_eq_getElem?_getD, List.getD_eq_getElem?_getD, List.getElem?_drop]
theorem bef_yes {l : List StR} {i k : Nat} {n : Int} (hi : i ≤ l.length) (hk : k < i) (h : (l.getD k stz).ad = n) : 0 ≤ fdx (isS n) (l.take i) :=
  (fdx_in (f := isS n) (l := l.take i) (d := stz) (i := k) (by rw [List.length_take]; omega) (by rw [getD_take hk]; exact decide_eq_true h)).1
theorem bef_no {l : List StR} {i : Nat} {n : Int} (hi : i ≤ l.length) (h : ∀ k, k < i → (l.getD k stz).ad ≠ n) : ¬ 0 ≤ fdx (isS n) (l.take i) := by
  rcases fdx_cases (isS n) (l.take i) stz with ⟨h1, _⟩ | ⟨k, hk, h1, h2, _⟩
  · omega
  · rw [List.length_take] at hk
    rw [getD_take (by omega)] at h2
    exact absurd (of_decide_eq_true h2) (h k (by omega))
theorem lat_yes {ads : List AdR} (h : Aln ads) {l : List StR} {i k n : Nat} (hk : i < k) (hkl : k < l.length) (hn : (l.getD k stz).ad = (n : Int)) (hnl : n < ads.length) {af : List Txt} (ht : 0 ≤ fdx (isT (ads.getD n adz).name) af) : 0 ≤ fdx (latB ads l i) af := by
  rcases fdx_cases (isT (ads.getD n adz).name) af [] with ⟨h1, _⟩ | ⟨p, hp, _, h2, _⟩
  · omega
  · refine (fdx_in (f := latB ads l i) (l := af) (d := []) (i := p) hp ?_).1
    have e : af.getD p [] = (ads.getD n adz).name := of_decide_eq_true h2
    unfold latB
    rw [e, fdx_name h hnl]
    refine decide_eq_true (fdx_in (f := isS (n : Int)) (l := l.drop (i + 1)) (d := stz) (i := k - (i + 1)) (by rw [List.length_drop]; omega) ?_).1
    rw [getD_drop, show i + 1 + (k - (i + 1)) = k by omega]
    exact decide_eq_true hn
theorem lat_no {ads : List AdR} {l : List StR} {i : Nat} {af : List Txt} (ha : ∀ p, p < af.length → 0 ≤ fdx (isA (af.getD p [])) ads) (h : ∀ k, i < k → k < l.length → ∀ n : Nat, (l.getD k stz).ad = (n : Int) → n < ads.length → ¬ 0 ≤ fdx (isT (ads.getD n adz).name) af) : ¬ 0 ≤ fdx (latB ads l i) af := by
  intro h0
  rcases fdx_cases (latB ads l i) af [] with ⟨h1, _⟩ | ⟨p, hp, _, h2, _⟩
  · omega
  · have hp0 := ha p hp
    have h2 : 0 ≤ fdx (isS (fdx (isA (af.getD p [])) ads)) (l.drop (i + 1)) := of_decide_eq_true h2
    rcases fdx_cases (isA (af.getD p [])) ads adz with ⟨h3, _⟩ | ⟨n, hn, h3, h4, _⟩
    · omega
    · rw [h3] at h2
      rcases fdx_cases (isS (n : Int)) (l.drop (i + 1)) stz with ⟨h5, _⟩ | ⟨k, hk, h5, h6, _⟩
      · omega
      · rw [List.length_drop] at hk
        rw [getD_drop] at h6
        have e : (ads.getD n adz).name = af.getD p [] := of_decide_eq_true h4
        refine h (i + 1 + k) (by omega) (by omega) n (of_decide_eq_true h6) hn ?_
        rw [e]
        exact (fdx_in (f := isT (af.getD p [])) (l := af) (d := []) (i := p) hp (decide_eq_true rfl)).1
theorem rmap_get {α : Type} (f : Nat → α) {n i : Nat} (d : α) (h : i < n) : ((List.range n).map f).getD i d = f i := by
  rw [List.getD_eq_getElem?_getD, List.getElem?_map, List.getElem?_range h]; rfl
def plV (l : List (List StR)) : List (List V) := l.map fun p => [V.lst (stsV p)]
theorem plV_length {l : List (List StR)} : (plV l).length = l.length := by simp [plV]
theorem plV_get {l : List (List StR)} {i : Nat} (h : i < l.length) : (plV l)[i]? = some [V.lst (stsV (l.getD i []))] := by
  rw [plV, List.getElem?_map, lst_get (d := []) h]; rfl
theorem plV_plain (l : List (List StR)) : plainLL (plV l) = true := plainLL_of fun e he => by
  obtain ⟨x, _, rfl⟩ := List.mem_map.1 he
  simp [plainL, V.plain, stsV_plain]
theorem plV_snoc (l : List (List StR)) (p : List StR) : plV (l ++ [p]) = plV l ++ [[V.lst (stsV p)]] := by simp [plV]
/-- the sums behind the first steps of a pass -/
def addS (p : List StR) (s : List Int) : Nat → List Int
  | 0 => s
  | k + 1 => (addS p s k).set (p.getD k stz).ad.toNat ((addS p s k).getD (p.getD k stz).ad.toNat 0 + (p.getD k stz).n)
theorem addS_length (p : List StR) (s : List Int) : ∀ k, (addS p s k).length = s.length
  | 0 => rfl
  | k + 1 => by rw [addS, List.length_set, addS_length p s k]
def psOk (ads : List AdR) (p : List StR) : Prop := p.length ≤ 12 ∧ ∀ i, i < p.length → psErrAt ads p i = 0
theorem find_range {n : Nat} {f : Nat → Bool} : (∀ i, i < n → f i = false) ∧ (List.range n).find? f = none ∨ ∃ i, i < n ∧ f i = true ∧ (∀ j, j < i → f j = false) ∧ (List.range n).find? f = some i := by
  cases h : (List.range n).find? f with
  | none =>
    refine .inl ⟨fun i hi => ?_, rfl⟩
    have := List.find?_eq_none.1 h i (List.mem_range.2 hi)
    simpa using this
  | some i =>
    refine .inr ⟨i, List.mem_range.1 (List.mem_of_find?_eq_some h), List.find?_some h, fun j hj => ?_, rfl⟩
    cases hj2 : f j with
    | false => rfl
    | true =>
      have hi := List.mem_range.1 (List.mem_of_find?_eq_some h)
      obtain ⟨k, hk, hk2, hk3⟩ : ∃ k, k ≤ j ∧ f k = true ∧ ∀ m, m < k → f m = false := by
        clear h hi hj
        induction j with
        | zero => exact ⟨0, Nat.le_refl _, hj2, fun m hm => absurd hm (Nat.not_lt_zero _)⟩
        | succ j ih =>
          by_cases hq : ∃ m, m ≤ j ∧ f m = true
          · obtain ⟨m, hm, hm2⟩ := hq
            have : ∀ q, f q = true → ∃ k, k ≤ q ∧ f k = true ∧ ∀ m, m < k → f m = false := fun q => by
              induction q using Nat.strongRecOn with
              | _ q ihq =>
                intro hq
                by_cases hz : ∃ z, z < q ∧ f z = true
                · obtain ⟨z, hz1, hz2⟩ := hz
                  obtain ⟨k, h1, h2, h3⟩ := ihq z hz1 hz2
                  exact ⟨k, by omega, h2, h3⟩
                · exact ⟨q, Nat.le_refl _, hq, fun m hm => by
                    cases hfm : f m with
                    | false => rfl
                    | true => exact absurd ⟨m, hm, hfm⟩ hz⟩
            obtain ⟨k, h1, h2, h3⟩ := this m hm2
            exact ⟨k, by omega, h2, h3⟩
          · exact ⟨j + 1, Nat.le_refl _, hj2, fun m hm => by
              cases hfm : f m with
              | false => rfl
              | true => exact absurd ⟨m, by omega, hfm⟩ hq⟩
      have := find_at (n := n) (k := k) (by omega) hk3 hk2
      rw [h] at this
      cases this
      omega
theorem psV_zero {ads : List AdR} {p : List StR} : (psV ads p).2 = 0 ↔ psOk ads p := by
  constructor
  · intro h
    by_cases h12 : 12 < p.length
    · rw [psV_big h12] at h; cases h
    · refine ⟨by omega, fun i hi => ?_⟩
      rcases find_range (n := p.length) (f := fun i => decide (psErrAt ads p i ≠ 0)) with ⟨h1, _⟩ | ⟨k, hk, h1, h2, _⟩
      · exact Decidable.byContradiction fun h3 => by have := h1 i hi; simp [h3] at this
      · have h1 : psErrAt ads p k ≠ 0 := of_decide_eq_true h1
        rw [psV_at (c := psErrAt ads p k) (by omega) hk (fun j hj => by have := of_decide_eq_false (h2 j hj); omega) rfl h1] at h
        exact absurd h h1
  · rintro ⟨h1, h2⟩
    rw [psV_no h1 h2]
theorem psOk_st {b : BnR} (hb : Bnd b) {p : List StR} (h : psOk b.ads p) {i : Nat} (hi : i < p.length) : (0 ≤ (p.getD i stz).ad ∧ (p.getD i stz).ad ≤ (b.ads.length : Int) - 1) ∧ (-(b.ads.getD (p.getD i stz).ad.toNat adz).pass ≤ (p.getD i stz).n ∧ (p.getD i stz).n ≤ (b.ads.getD (p.getD i stz).ad.toNat adz).pass) ∧ (-1000 ≤ (p.getD i stz).n ∧ (p.getD i stz).n ≤ 1000) := by
  have h := h.2 i hi
  unfold psErrAt at h
  by_cases h1 : 0 ≤ (p.getD i stz).ad ∧ (p.getD i stz).ad ≤ (b.ads.length : Int) - 1
  · rw [if_neg (by omega)] at h
    by_cases h2 : 0 ≤ fdx (isS (p.getD i stz).ad) (p.take i)
    · rw [if_pos h2] at h; omega
    · rw [if_neg h2] at h
      by_cases h3 : (p.getD i stz).n = 0
      · rw [if_pos h3] at h; omega
      · rw [if_neg h3] at h
        by_cases h4 : -(b.ads.getD (p.getD i stz).ad.toNat adz).pass ≤ (p.getD i stz).n ∧ (p.getD i stz).n ≤ (b.ads.getD (p.getD i stz).ad.toNat adz).pass
        · have h5 := hb.pa (p.getD i stz).ad.toNat (by omega)
          exact ⟨h1, h4, by omega⟩
        · rw [if_pos h4] at h; omega
  · rw [if_pos h1] at h; omega
theorem addS_bd {b : BnR} (hb : Bnd b) {p : List StR} (h : psOk b.ads p) {s : List Int} {c : Int} (hc : 0 ≤ c) (hs : ∀ i, -c ≤ s.getD i 0 ∧ s.getD i 0 ≤ c) : ∀ k, k ≤ p.length → ∀ i, -(c + 1000 * (k : Int)) ≤ (addS p s k).getD i 0 ∧ (addS p s k).getD i 0 ≤ c + 1000 * (k : Int)
  | 0, _ => fun i => by have := hs i; simp only [addS]; omega
  | k + 1, hk => fun i => by
    have ih := addS_bd hb h hc hs k (by omega)
    have h1 := (psOk_st hb h (i := k) (by omega)).2.2
    have h2 := ih (p.getD k stz).ad.toNat
    have h3 := ih i
    simp only [addS, getD_set]
    split <;> omega
/-- the sums behind the first passes -/
def smK (b : BnR) (pl : List (List StR)) : Nat → List Int
  | 0 => List.replicate b.ads.length 0
  | k + 1 => addS (pl.getD k []) (smK b pl k) (pl.getD k []).length
theorem smK_length (b : BnR) (pl : List (List StR)) : ∀ k, (smK b pl k).length = b.ads.length
  | 0 => by simp [smK]
  | k + 1 => by rw [smK, addS_length, smK_length b pl k]
def plErrAt (b : BnR) (pl : List (List StR)) (i : Nat) : Int := if (psV b.ads (pl.getD i [])).2 ≠ 0 then (psV b.ads (pl.getD i [])).2 else stErr b.ads (smK b pl (i + 1))
def plI (b : BnR) (pl : List (List StR)) : Option Nat := (List.range pl.length).find? (fun i => decide (plErrAt b pl i ≠ 0))
/-- what Sums returns: the sums, the number, the error -/
def smS (b : BnR) (pl : List (List StR)) : List Int := if 50 < pl.length then [] else match plI b pl with | some _ => [] | none => smK b pl pl.length
def smN (b : BnR) (pl : List (List StR)) : Int := if 50 < pl.length then 0 else match plI b pl with | some i => (i : Int) | none => 0
def smE (b : BnR) (pl : List (List StR)) : Int := if 50 < pl.length then 8 else match plI b pl with | some i => plErrAt b pl i | none => 0
theorem sm_big {b : BnR} {pl : List (List StR)} (h : 50 < pl.length) : smS b pl = [] ∧ smN b pl = 0 ∧ smE b pl = 8 := by
  unfold smS smN smE; rw [if_pos h, if_pos h, if_pos h]; exact ⟨rfl, rfl, rfl⟩
theorem sm_at {b : BnR} {pl : List (List StR)} {i : Nat} {c : Int} (h50 : pl.length ≤ 50) (hi : i < pl.length) (h0 : ∀ j, j < i → plErrAt b pl j = 0) (h : plErrAt b pl i = c) (hc : c ≠ 0) : smS b pl = [] ∧ smN b pl = (i : Int) ∧ smE b pl = c := by
  have e : plI b pl = some i := by unfold plI; exact find_at hi (fun j hj => by rw [h0 j hj]; rfl) (by rw [h]; exact decide_eq_true hc)
  unfold smS smN smE
  rw [if_neg (by omega), if_neg (by omega), if_neg (by omega), e]
  exact ⟨rfl, rfl, h⟩
theorem sm_no {b : BnR} {pl : List (List StR)} (h50 : pl.length ≤ 50) (h0 : ∀ j, j < pl.length → plErrAt b pl j = 0) : smS b pl = smK b pl pl.length ∧ smN b pl = 0 ∧ smE b pl = 0 := by
  have e : plI b pl = none := by unfold plI; exact find_no (fun j hj => by rw [h0 j hj]; rfl)
  unfold smS smN smE
  rw [if_neg (by omega), if_neg (by omega), if_neg (by omega), e]
  exact ⟨rfl, rfl, rfl⟩
theorem sm_cases (b : BnR) (pl : List (List StR)) : 50 < pl.length ∧ smS b pl = [] ∧ smN b pl = 0 ∧ smE b pl = 8 ∨ pl.length ≤ 50 ∧ (∃ i, i < pl.length ∧ (∀ j, j < i → plErrAt b pl j = 0) ∧ plErrAt b pl i ≠ 0 ∧ smS b pl = [] ∧ smN b pl = (i : Int) ∧ smE b pl = plErrAt b pl i) ∨ pl.length ≤ 50 ∧ (∀ j, j < pl.length → plErrAt b pl j = 0) ∧ smS b pl = smK b pl pl.length ∧ smN b pl = 0 ∧ smE b pl = 0 := by
  by_cases h : 50 < pl.length
  · exact .inl ⟨h, sm_big h⟩
  · refine .inr ?_
    rcases find_range (n := pl.length) (f := fun i => decide (plErrAt b pl i ≠ 0)) with ⟨h1, _⟩ | ⟨k, hk, h1, h2, _⟩
    · have h0 : ∀ j, j < pl.length → plErrAt b pl j = 0 := fun j hj => by have := of_decide_eq_false (h1 j hj); omega
      exact .inr ⟨by omega, h0, sm_no (by omega) h0⟩
    · have h0 : ∀ j, j < k → plErrAt b pl j = 0 := fun j hj => by have := of_decide_eq_false (h2 j hj); omega
      exact .inl ⟨by omega, k, hk, h0, of_decide_eq_true h1, sm_at (by omega) hk h0 rfl (of_decide_eq_true h1)⟩
theorem plErr_ok {b : BnR} {pl : List (List StR)} {i : Nat} (h : plErrAt b pl i = 0) : psOk b.ads (pl.getD i []) ∧ stOk b.ads (smK b pl (i + 1)) := by
  unfold plErrAt at h
  by_cases h1 : (psV b.ads (pl.getD i [])).2 = 0
  · rw [if_neg (by omega)] at h
    exact ⟨psV_zero.1 h1, stErr_iff.1 h⟩
  · rw [if_pos h1] at h; omega
theorem smK_ok {b : BnR} (hb : Bnd b) {pl : List (List StR)} {k : Nat} (h : ∀ j, j < k → plErrAt b pl j = 0) : stOk b.ads (smK b pl k) := by
  cases k with
  | zero => exact rep_ok hb
  | succ k => exact (plErr_ok (h k (by omega))).2
theorem smS_ok {b : BnR} (hb : Bnd b) {pl : List (List StR)} (h : smE b pl = 0) : stOk b.ads (smS b pl) := by
  rcases sm_cases b pl with ⟨_, _, _, h1⟩ | ⟨_, i, _, _, h2, _, _, h3⟩ | ⟨_, h1, h2, _, _⟩
  · omega
  · omega
  · rw [h2]; exact smK_ok hb h1
theorem smK_bd {b : BnR} (hb : Bnd b) {pl : List (List StR)} {k : Nat} (h : ∀ j, j < k → plErrAt b pl j = 0) : ∀ i, -1000 ≤ (smK b pl k).getD i 0 ∧ (smK b pl k).getD i 0 ≤ 1000 := fun i => by
  have h1 := smK_ok hb h
  rcases Nat.lt_or_ge i b.ads.length with hi | hi
  · exact steps_bd hb h1.2 i hi
  · rw [List.getD_eq_getElem?_getD, List.getElem?_eq_none (by rw [h1.1]; exact hi)]
    exact ⟨by decide, by decide⟩
/-- what CheckPlan returns -/
def cpE (b : BnR) (pl : List (List StR)) : Int := if smE b pl ≠ 0 then smE b pl else if brkP b (smS b pl) b.ms.length ≠ [] then 26 else 0
def cpN (b : BnR) (pl : List (List StR)) : Int := if smE b pl ≠ 0 then smN b pl else (((brkP b (smS b pl) b.ms.length).getD 0 0 : Nat) : Int)
theorem brk_first {b : BnR} {l : List Int} {n i : Nat} (hi : i < n) (h0 : brkP b l i = []) (h : brkB b l i = true) : (brkP b l n).getD 0 0 = i := by
  obtain ⟨d, rfl⟩ : ∃ d, n = i + 1 + d := ⟨n - (i + 1), by omega⟩
  clear hi
  induction d with
  | zero => rw [Nat.add_zero, brkP_succ, if_pos h, h0]; rfl
  | succ d ih =>
    rw [← Nat.add_assoc, brkP_succ]
    have hne : brkP b l (i + 1 + d) ≠ [] := brk_ne (by omega) h
    split
    · cases he : brkP b l (i + 1 + d) with
      | nil => exact absurd he hne
      | cons p r => rw [he] at ih; exact ih
    · exact ih
end Go.Proofs.Ytaoakololkcepaa
/- the plan of steps: the plain reading -/
namespace Go.Proofs.Ytaoakololkcepaa
open Go.RowKit
/-! the order of adjustments -/
structure Og (ads : List AdR) (out : List Nat) : Prop where
  nd : out.Nodup
  lt : ∀ x ∈ out, x < ads.length
  rd : ∀ k, k < out.length → rdyA (outN ads (out.take k)) (ads.getD (out.getD k 0) adz) = true
theorem hasT_mem {ns : List Txt} {s : Txt} : hasT ns s = true ↔ s ∈ ns := by
  unfold hasT
  rw [List.any_eq_true]
  constructor
  · rintro ⟨x, hx, h⟩
    have : x = s := of_decide_eq_true h
    exact this ▸ hx
  · intro h
    exact ⟨s, h, decide_eq_true rfl⟩
theorem og_snoc {ads : List AdR} {out : List Nat} (h : Og ads out) {i : Nat} (hi : i < ads.length) (hr : rdyA (outN ads out) (ads.getD i adz) = true) : Og ads (out ++ [i]) := by
  have hni : i ∉ out := by
    intro hm
    unfold rdyA at hr
    have : hasT (outN ads out) (ads.getD i adz).name = true := hasT_mem.2 (List.mem_map.2 ⟨i, hm, rfl⟩)
    rw [this] at hr
    simp at hr
  refine ⟨List.nodup_append.2 ⟨h.nd, by simp, fun a ha b hb => by rw [List.mem_singleton.1 hb]; rintro rfl; exact hni ha⟩, fun x hx => ?_, fun k hk => ?_⟩
  · rcases List.mem_append.1 hx with hx | hx
    · exact h.lt x hx
    · rw [List.mem_singleton.1 hx]; exact hi
  · rw [List.length_append, List.length_singleton] at hk
    rcases Nat.lt_or_ge k out.length with hk2 | hk2
    · have e : (out ++ [i]).getD k 0 = out.getD k 0 := by rw [List.getD_eq_getElem?_getD, List.getElem?_append_left hk2, ← List.getD_eq_getElem?_getD]
      rw [List.take_append_of_le_length (by omega), e]
      exact h.rd k hk2
    · obtain rfl : k = out.length := by omega
      have e : (out ++ [i]).getD out.length 0 = i := by rw [List.getD_eq_getElem?_getD, List.getElem?_append_right (Nat.le_refl _), Nat.sub_self]; rfl
      rw [List.take_append_of_le_length (Nat.le_refl _), List.take_length, e]
      exact hr
theorem og_ordF (ads : List AdR) : ∀ (n : Nat) (out : List Nat), Og ads out → Og ads (ordF ads n out)
  | 0, _, h => h
  | n + 1, out, h => by
    unfold ordF
    split
    · exact h
    · rename_i hn
      have e : nxtI ads out = fdx (rdyA (outN ads out)) ads := rfl
      rcases fdx_cases (rdyA (outN ads out)) ads adz with ⟨h1, _⟩ | ⟨i, hi, h1, h2, _⟩
      · omega
      · rw [e, h1, Int.toNat_natCast]
        exact og_ordF ads n _ (og_snoc h hi h2)
theorem og_ordB (ads : List AdR) : Og ads (ordB ads) := og_ordF ads _ _ ⟨List.nodup_nil, (fun x hx => absurd hx List.not_mem_nil), fun k hk => absurd hk (Nat.not_lt_zero _)⟩
theorem nodup_le : ∀ (n : Nat) (l : List Nat), l.Nodup → (∀ x ∈ l, x < n) → l.length ≤ n
  | 0, l, _, h => by
    cases l with
    | nil => exact Nat.le_refl _
    | cons a r => exact absurd (h a List.mem_cons_self) (Nat.not_lt_zero _)
  | n + 1, l, hd, h => by
    have ih := nodup_le n (l.erase n) (hd.erase n) fun x hx => by
      have h1 := (hd.mem_erase_iff).1 hx
      have := h x h1.2
      have := h1.1
      omega
    by_cases hm : n ∈ l
    · have := List.length_erase_of_mem hm
      omega
    · rw [List.erase_of_not_mem hm] at ih
      omega
theorem nodup_full {l : List Nat} {n : Nat} (hd : l.Nodup) (hl : ∀ x ∈ l, x < n) (hn : n ≤ l.length) : ∀ i, i < n → i ∈ l := by
  intro i hi
  refine Decidable.byContradiction fun hni => ?_
  have := nodup_le n (i :: l) (List.nodup_cons.2 ⟨hni, hd⟩) fun x hx => by
    rcases List.mem_cons.1 hx with rfl | hx
    · exact hi
    · exact hl x hx
  simp at this
  omega
theorem ordB_mem {b : BnR} (hk : Bok b) {i : Nat} (hi : i < b.ads.length) : i ∈ ordB b.ads := nodup_full (og_ordB b.ads).nd (og_ordB b.ads).lt hk.cy i hi
/-! passes -/
def clp (p x : Int) : Int := min (max x (-p)) p
def passI (b : BnR) (i : Nat) : Int := (b.ads.getD i adz).pass
def stpF (b : BnR) (left : List Int) (i : Nat) : Option StR := if clp (passI b i) (left.getD i 0) ≠ 0 then some ⟨i, clp (passI b i) (left.getD i 0)⟩ else none
def pasP (b : BnR) (left : List Int) (k : Nat) : List StR := ((ordB b.ads).take k).filterMap (stpF b left)
def lefP (b : BnR) (left : List Int) (k : Nat) : List Int := (List.range left.length).map fun i => if i ∈ (ordB b.ads).take k then left.getD i 0 - clp (passI b i) (left.getD i 0) else left.getD i 0
theorem lefP_length (b : BnR) (left : List Int) (k : Nat) : (lefP b left k).length = left.length := by simp [lefP]
theorem lefP_get {b : BnR} {left : List Int} {k i : Nat} (hi : i < left.length) : (lefP b left k).getD i 0 = if i ∈ (ordB b.ads).take k then left.getD i 0 - clp (passI b i) (left.getD i 0) else left.getD i 0 := rmap_get _ _ hi
theorem range_get (l : List Int) : (List.range l.length).map (fun i => l.getD i 0) = l := by
  refine List.ext_getElem (by simp) fun i h1 h2 => ?_
  simp only [List.getElem_map, List.getElem_range]
  rw [List.getD_eq_getElem?_getD, List.getElem?_eq_getElem h2]; rfl
theorem lefP_zero (b : BnR) (left : List Int) : lefP b left 0 = left := by
  unfold lefP
  simp only [List.take_zero, List.not_mem_nil, if_false]
  exact range_get left
theorem take_snoc {α : Type} {l : List α} {k : Nat} {d : α} (h : k < l.length) : l.take (k + 1) = l.take k ++ [l.getD k d] := by
  rw [List.take_succ_eq_append_getElem h, List.getD_eq_getElem?_getD, List.getElem?_eq_getElem h]; rfl
theorem not_mem_take {l : List Nat} (hd : l.Nodup) {k : Nat} (h : k < l.length) : l.getD k 0 ∉ l.take k := by
  intro hm
  obtain ⟨j, hj, e⟩ := List.getElem_of_mem hm
  rw [List.getElem_take] at e
  rw [List.length_take] at hj
  rw [List.getD_eq_getElem?_getD, List.getElem?_eq_getElem h] at e
  have := (List.getElem_inj hd).1 (show l[j] = l[k] from e)
  omega
theorem pasP_succ {b : BnR} {left : List Int} {k : Nat} (h : k < (ordB b.ads).length) : pasP b left (k + 1) = pasP b left k ++ (stpF b left ((ordB b.ads).getD k 0)).toList := by
  unfold pasP
  rw [take_snoc (d := 0) h, List.filterMap_append]
  congr 1
theorem lefP_at {b : BnR} {left : List Int} {k : Nat} (h : k < (ordB b.ads).length) (hi : (ordB b.ads).getD k 0 < left.length) : (lefP b left k).getD ((ordB b.ads).getD k 0) 0 = left.getD ((ordB b.ads).getD k 0) 0 := by
  rw [lefP_get hi, if_neg (not_mem_take (og_ordB b.ads).nd h)]
theorem lefP_succ {b : BnR} {left : List Int} {k : Nat} (h : k < (ordB b.ads).length) (hi : (ordB b.ads).getD k 0 < left.length) : lefP b left (k + 1) = (lefP b left k).set ((ordB b.ads).getD k 0) (left.getD ((ordB b.ads).getD k 0) 0 - clp (passI b ((ordB b.ads).getD k 0)) (left.getD ((ordB b.ads).getD k 0) 0)) := by
  refine List.ext_getElem (by simp [lefP]) fun i h1 h2 => ?_
  rw [List.getElem_set]
  simp only [lefP, List.getElem_map, List.getElem_range, take_snoc (d := 0) h, List.mem_append, List.mem_singleton]
  by_cases he : (ordB b.ads).getD k 0 = i
  · rw [if_pos he, if_pos (.inr he.symm), he]
  · rw [if_neg he]
    by_cases hm : i ∈ (ordB b.ads).take k
    · rw [if_pos hm, if_pos (.inl hm)]
    · rw [if_neg hm, if_neg (fun h => h.elim hm fun h => he h.symm)]
theorem lefP_same {b : BnR} {left : List Int} {k : Nat} (h : k < (ordB b.ads).length) (hi : (ordB b.ads).getD k 0 < left.length) (hz : clp (passI b ((ordB b.ads).getD k 0)) (left.getD ((ordB b.ads).getD k 0) 0) = 0) : lefP b left (k + 1) = lefP b left k := by
  rw [lefP_succ h hi, hz, Int.sub_zero, ← lefP_at h hi]
  refine List.ext_getElem (by simp) fun i h1 h2 => ?_
  rw [List.getElem_set]
  split
  · rename_i e
    subst e
    rw [List.getD_eq_getElem?_getD, List.getElem?_eq_getElem h2]; rfl
  · rfl
/-- what is left behind n passes -/
def lftN (b : BnR) (l : List Int) (n : Nat) : List Int := (List.range l.length).map fun i => l.getD i 0 - clp ((n : Int) * passI b i) (l.getD i 0)
theorem lftN_length (b : BnR) (l : List Int) (n : Nat) : (lftN b l n).length = l.length := by simp [lftN]
theorem lftN_get {b : BnR} {l : List Int} {n i : Nat} (h : i < l.length) : (lftN b l n).getD i 0 = l.getD i 0 - clp ((n : Int) * passI b i) (l.getD i 0) := rmap_get _ _ h
theorem lftN_zero (b : BnR) (l : List Int) : lftN b l 0 = l := by
  unfold lftN
  refine Eq.trans (List.map_congr_left fun i _ => ?_) (range_get l)
  rw [Int.natCast_zero, Int.zero_mul]
  unfold clp
  omega
theorem clp_next {p x : Int} {q : Int} (hp : 0 ≤ p) (hq : 0 ≤ q) : x - clp q x - clp p (x - clp q x) = x - clp (q + p) x := by
  unfold clp
  omega
theorem lftN_next {b : BnR} (hk : Bok b) {l : List Int} (hl : l.length = b.ads.length) (n : Nat) : lefP b (lftN b l n) (ordB b.ads).length = lftN b l (n + 1) := by
  refine List.ext_getElem (by simp [lefP, lftN]) fun i h1 h2 => ?_
  have hi : i < l.length := by rw [lftN_length] at h2; exact h2
  have e1 : (lefP b (lftN b l n) (ordB b.ads).length)[i] = (lefP b (lftN b l n) (ordB b.ads).length).getD i 0 := by rw [List.getD_eq_getElem?_getD, List.getElem?_eq_getElem h1]; rfl
  have e2 : (lftN b l (n + 1))[i] = (lftN b l (n + 1)).getD i 0 := by rw [List.getD_eq_getElem?_getD, List.getElem?_eq_getElem h2]; rfl
  rw [e1, e2, lefP_get (by rw [lftN_length]; exact hi), List.take_length, if_pos (ordB_mem hk (by omega)), lftN_get hi, lftN_get hi]
  have hp := (bnd_ok hk).pa i (by omega)
  have hq : (((n + 1 : Nat) : Int)) * passI b i = (n : Int) * passI b i + passI b i := by rw [Int.natCast_add, Int.add_mul]; simp
  rw [hq]
  exact clp_next (by unfold passI; omega) (Int.mul_nonneg (by omega) (by unfold passI; omega))
/-- the first passes of the plan of steps -/
def plO (b : BnR) (l : List Int) (n : Nat) : List (List StR) := (List.range n).map fun j => pasP b (lftN b l j) (ordB b.ads).length
theorem plO_length (b : BnR) (l : List Int) (n : Nat) : (plO b l n).length = n := by simp [plO]
theorem plO_succ (b : BnR) (l : List Int) (n : Nat) : plO b l (n + 1) = plO b l n ++ [pasP b (lftN b l n) (ordB b.ads).length] := by
  simp [plO, List.range_succ]
theorem plO_get {b : BnR} {l : List Int} {n i : Nat} (h : i < n) : (plO b l n).getD i [] = pasP b (lftN b l i) (ordB b.ads).length := rmap_get _ _ h
end Go.Proofs.Ytaoakololkcepaa
/- the plan of steps is accepted, and has these sums -/
namespace Go.Proofs.Ytaoakololkcepaa
open Go.RowKit
theorem aln_bok {b : BnR} (hk : Bok b) : Aln b.ads := aln_of hk.fa hk.ae
theorem name_inj {ads : List AdR} (h : Aln ads) {i j : Nat} (hi : i < ads.length) (hj : j < ads.length) (e : (ads.getD i adz).name = (ads.getD j adz).name) : i = j := by
  have h1 := fdx_name h hi
  have h2 := fdx_name h hj
  rw [e, h2] at h1
  omega
def befR (ads : List AdR) (x y : Nat) : Prop := x ≠ y ∧ (ads.getD y adz).name ∉ (ads.getD x adz).after
theorem ord_pw {ads : List AdR} (h : Aln ads) : (ordB ads).Pairwise (befR ads) := by
  have ho := og_ordB ads
  rw [List.pairwise_iff_getElem]
  intro a c ha hc hac
  refine ⟨fun e => by have := (List.getElem_inj ho.nd).1 e; omega, fun hm => ?_⟩
  have hr := ho.rd a ha
  have e1 : (ordB ads).getD a 0 = (ordB ads)[a] := by rw [List.getD_eq_getElem?_getD, List.getElem?_eq_getElem ha]; rfl
  rw [e1] at hr
  unfold rdyA at hr
  have h2 := List.all_eq_true.1 (Bool.and_eq_true_iff.1 hr).2 _ hm
  obtain ⟨x, hx, hx2⟩ := List.mem_map.1 (hasT_mem.1 h2)
  have hxl := ho.lt x (List.mem_of_mem_take hx)
  have hcl := ho.lt (ordB ads)[c] (List.getElem_mem hc)
  have : x = (ordB ads)[c] := name_inj h hxl hcl hx2
  subst this
  obtain ⟨j, hj, e⟩ := List.getElem_of_mem hx
  rw [List.getElem_take] at e
  rw [List.length_take] at hj
  have := (List.getElem_inj ho.nd).1 e
  omega
/-- which adjustments a pass turns -/
def pasQ (b : BnR) (left : List Int) : List Nat := (ordB b.ads).filter fun i => decide (clp (passI b i) (left.getD i 0) ≠ 0)
theorem pasP_eq (b : BnR) (left : List Int) : pasP b left (ordB b.ads).length = (pasQ b left).map fun (i : Nat) => (⟨(i : Int), clp (passI b i) (left.getD i 0)⟩ : StR) := by
  unfold pasP pasQ
  rw [List.take_length]
  generalize ordB b.ads = o
  induction o with
  | nil => rfl
  | cons i r ih =>
    rw [List.filterMap_cons, List.filter_cons]
    unfold stpF at ih ⊢
    by_cases h : clp (passI b i) (left.getD i 0) ≠ 0
    · rw [if_pos h, if_pos (decide_eq_true h), List.map_cons]
      exact congrArg _ ih
    · rw [if_neg h, if_neg (by simpa using h)]
      exact ih
theorem isT_no {s : Txt} {l : List Txt} (h : s ∉ l) : ¬ 0 ≤ fdx (isT s) l := by
  intro h0
  have h1 : l.any (isT s) = true := by rw [fdx_any]; exact decide_eq_true h0
  exact h (hasT_mem.1 h1)
theorem pas_ok {b : BnR} (hk : Bok b) (left : List Int) : psOk b.ads (pasP b left (ordB b.ads).length) := by
  have ho := og_ordB b.ads
  have hA := aln_bok hk
  have hbd := bnd_ok hk
  have hql : ∀ x ∈ pasQ b left, x < b.ads.length ∧ clp (passI b x) (left.getD x 0) ≠ 0 := fun x hx => by
    obtain ⟨h1, h2⟩ := List.mem_filter.1 hx
    exact ⟨ho.lt x h1, of_decide_eq_true h2⟩
  have hpw : (pasQ b left).Pairwise (befR b.ads) := (ord_pw hA).filter _
  have hlen : (pasQ b left).length ≤ 12 := by
    have h1 := List.length_filter_le (fun i => decide (clp (passI b i) (left.getD i 0) ≠ 0)) (ordB b.ads)
    have h2 := ordB_len b.ads
    have h3 := hk.fa
    unfold pasQ
    omega
  rw [pasP_eq]
  generalize hQ : pasQ b left = q at *
  rw [List.pairwise_iff_getElem] at hpw
  refine ⟨by rw [List.length_map]; exact hlen, fun i hi => ?_⟩
  rw [List.length_map] at hi
  have hg : ∀ j (hj : j < q.length), (q.map fun (i : Nat) => (⟨(i : Int), clp (passI b i) (left.getD i 0)⟩ : StR)).getD j stz = ⟨(q[j] : Int), clp (passI b q[j]) (left.getD q[j] 0)⟩ := fun j hj => by
    rw [List.getD_eq_getElem?_getD, List.getElem?_map, List.getElem?_eq_getElem hj]; rfl
  have hx := hql q[i] (List.getElem_mem hi)
  have hpa := hbd.pa q[i] hx.1
  unfold psErrAt
  rw [hg i hi]
  dsimp only
  rw [if_neg (by omega)]
  have hb1 : ¬ 0 ≤ fdx (isS (q[i] : Int)) ((q.map fun (i : Nat) => (⟨(i : Int), clp (passI b i) (left.getD i 0)⟩ : StR)).take i) := by
    refine bef_no (by rw [List.length_map]; omega) fun k hk2 => ?_
    rw [hg k (by omega)]
    have := (hpw k i (by omega) hi hk2).1
    dsimp only
    omega
  rw [if_neg hb1, if_neg hx.2, Int.toNat_natCast, if_neg (by
    have hcl : -(b.ads.getD q[i] adz).pass ≤ clp (passI b q[i]) (left.getD q[i] 0) ∧ clp (passI b q[i]) (left.getD q[i] 0) ≤ (b.ads.getD q[i] adz).pass := by
      unfold clp passI
      omega
    exact fun h => h hcl)]
  rw [if_neg]
  refine lat_no (hA.af q[i] hx.1).2 fun k hk1 hk2 n hn hnl => ?_
  rw [List.length_map] at hk2
  rw [hg k hk2] at hn
  dsimp only at hn
  obtain rfl : n = q[k] := by omega
  exact isT_no (hpw i k hi hk2 hk1).2
theorem addS_map (c : Nat → Int) {q : List Nat} (hd : q.Nodup) {s : List Int} (hl : ∀ x ∈ q, x < s.length) : ∀ k, k ≤ q.length → addS (q.map fun (i : Nat) => (⟨(i : Int), c i⟩ : StR)) s k = (List.range s.length).map fun i => if i ∈ q.take k then s.getD i 0 + c i else s.getD i 0
  | 0, _ => by
    simp only [addS, List.take_zero, List.not_mem_nil, if_false]
    exact (range_get s).symm
  | k + 1, hk => by
    have ih := addS_map c hd hl k (by omega)
    have hg : (q.map fun (i : Nat) => (⟨(i : Int), c i⟩ : StR)).getD k stz = ⟨(q.getD k 0 : Nat), c (q.getD k 0)⟩ := by
      rw [List.getD_eq_getElem?_getD, List.getElem?_map, List.getElem?_eq_getElem (show k < q.length by omega), List.getD_eq_getElem?_getD, List.getElem?_eq_getElem (show k < q.length by omega)]; rfl
    have hql := hl (q.getD k 0) (by rw [List.getD_eq_getElem?_getD, List.getElem?_eq_getElem (show k < q.length by omega)]; exact List.getElem_mem _)
    have hnm := not_mem_take hd (show k < q.length by omega)
    simp only [addS]
    rw [hg]
    dsimp only
    rw [Int.toNat_natCast, ih, rmap_get _ _ hql, if_neg hnm]
    refine List.ext_getElem (by simp) fun i h1 h2 => ?_
    rw [List.getElem_set]
    simp only [List.getElem_map, List.getElem_range, take_snoc (d := 0) (show k < q.length by omega), List.mem_append, List.mem_singleton]
    by_cases he : q.getD k 0 = i
    · rw [if_pos he, if_pos (.inr he.symm), he]
    · rw [if_neg he]
      by_cases hm : i ∈ q.take k
      · rw [if_pos hm, if_pos (.inl hm)]
      · rw [if_neg hm, if_neg (fun h => h.elim hm fun h => he h.symm)]
/-- the sums behind n passes -/
def sumN (b : BnR) (l : List Int) (n : Nat) : List Int := (List.range b.ads.length).map fun i => clp ((n : Int) * passI b i) (l.getD i 0)
theorem sumN_get {b : BnR} {l : List Int} {n i : Nat} (h : i < b.ads.length) : (sumN b l n).getD i 0 = clp ((n : Int) * passI b i) (l.getD i 0) := rmap_get _ _ h
theorem sumN_zero (b : BnR) (l : List Int) : sumN b l 0 = List.replicate b.ads.length 0 := by
  refine List.ext_getElem (by simp [sumN]) fun i h1 h2 => ?_
  simp only [sumN, List.getElem_map, List.getElem_range, List.getElem_replicate, Int.natCast_zero, Int.zero_mul]
  unfold clp
  omega
theorem pas_add {b : BnR} (hk : Bok b) {l : List Int} (hl : l.length = b.ads.length) (n : Nat) : addS (pasP b (lftN b l n) (ordB b.ads).length) (sumN b l n) (pasP b (lftN b l n) (ordB b.ads).length).length = sumN b l (n + 1) := by
  have ho := og_ordB b.ads
  have hsl : (sumN b l n).length = b.ads.length := by simp [sumN]
  rw [pasP_eq, List.length_map, addS_map (fun i => clp (passI b i) ((lftN b l n).getD i 0)) (q := pasQ b (lftN b l n)) (ho.nd.filter _) (fun x hx => by rw [hsl]; exact ho.lt x (List.mem_filter.1 hx).1) _ (Nat.le_refl _), List.take_length]
  unfold sumN
  rw [List.length_map, List.length_range]
  refine List.map_congr_left fun i hi => ?_
  have hi := List.mem_range.1 hi
  have e : ((List.range b.ads.length).map fun i => clp ((n : Int) * passI b i) (l.getD i 0)).getD i 0 = clp ((n : Int) * passI b i) (l.getD i 0) := rmap_get _ _ hi
  rw [e, lftN_get (by omega)]
  have hp := (bnd_ok hk).pa i hi
  have hq : (((n + 1 : Nat) : Int)) * passI b i = (n : Int) * passI b i + passI b i := by rw [Int.natCast_add, Int.add_mul]; simp
  have hc := clp_next (p := passI b i) (x := l.getD i 0) (q := (n : Int) * passI b i) (by unfold passI; omega) (Int.mul_nonneg (by omega) (by unfold passI; omega))
  rw [hq]
  by_cases hm : i ∈ pasQ b (lftN b l n)
  · rw [if_pos hm]
    omega
  · rw [if_neg hm]
    have hz : clp (passI b i) ((lftN b l n).getD i 0) = 0 := Decidable.byContradiction fun h => hm (List.mem_filter.2 ⟨ordB_mem hk hi, decide_eq_true h⟩)
    rw [lftN_get (by omega)] at hz
    omega
theorem plO_smK {b : BnR} (hk : Bok b) {l : List Int} (hl : l.length = b.ads.length) (n : Nat) : ∀ k, k ≤ n → smK b (plO b l n) k = sumN b l k
  | 0, _ => (sumN_zero b l).symm
  | k + 1, h => by
    rw [smK, plO_get (by omega), plO_smK hk hl n k (by omega)]
    exact pas_add hk hl k
theorem sumN_ok {b : BnR} (hk : Bok b) {l : List Int} (hst : stOk b.ads l) (n : Nat) : stOk b.ads (sumN b l n) := by
  refine ⟨by simp [sumN], fun i hi => ?_⟩
  rw [sumN_get hi]
  have h1 := hst.2 i hi
  have h2 := (bnd_ok hk).le i hi
  have h3 := (bnd_ok hk).mo i hi
  have h4 : 0 ≤ (n : Int) * passI b i := Int.mul_nonneg (by omega) (by have := (bnd_ok hk).pa i hi; unfold passI; omega)
  unfold clp
  omega
theorem pasK_ge {ads : List AdR} {l : List Int} {i : Nat} : ∀ {k : Nat}, i < k → pasA (l.getD i 0) (ads.getD i adz).pass ≤ pasK ads l k
  | k + 1, h => by
    rcases Nat.lt_or_ge i k with h1 | h1
    · have := pasK_ge (ads := ads) (l := l) h1
      simp only [pasK]
      split <;> omega
    · obtain rfl : i = k := by omega
      simp only [pasK]
      split <;> omega
theorem pasA_mul {s p : Int} (hp : 1 ≤ p) : (s.natAbs : Int) ≤ pasA s p * p := by
  unfold pasA
  have h1 := Int.mul_ediv_add_emod ((s.natAbs : Int) + p - 1) p
  have h2 := Int.emod_lt_of_pos ((s.natAbs : Int) + p - 1) (show 0 < p by omega)
  rw [Int.mul_comm]
  omega
theorem sumN_full {b : BnR} (hk : Bok b) {l : List Int} (hst : stOk b.ads l) {n : Nat} (hn : pasK b.ads l b.ads.length ≤ n) : sumN b l n = l := by
  refine List.ext_getElem (by simp [sumN, hst.1]) fun i h1 h2 => ?_
  have hi : i < b.ads.length := by have := hst.1; omega
  have e2 : l[i] = l.getD i 0 := by rw [List.getD_eq_getElem?_getD, List.getElem?_eq_getElem h2]; rfl
  simp only [sumN, List.getElem_map, List.getElem_range]
  rw [e2]
  have hp := (bnd_ok hk).pa i hi
  have h3 : pasA (l.getD i 0) (b.ads.getD i adz).pass ≤ n := Int.le_trans (pasK_ge hi) hn
  have h4 := pasA_mul (s := l.getD i 0) hp.1
  have h5 := Int.mul_le_mul_of_nonneg_right h3 (show 0 ≤ (b.ads.getD i adz).pass by omega)
  unfold clp passI
  omega
theorem plO_ok {b : BnR} (hk : Bok b) {l : List Int} (hst : stOk b.ads l) {n : Nat} (h50 : n ≤ 50) (hn : pasK b.ads l b.ads.length ≤ n) : smS b (plO b l n) = l ∧ smN b (plO b l n) = 0 ∧ smE b (plO b l n) = 0 := by
  have h0 : ∀ j, j < (plO b l n).length → plErrAt b (plO b l n) j = 0 := fun j hj => by
    rw [plO_length] at hj
    have h1 : (psV b.ads ((plO b l n).getD j [])).2 = 0 := by rw [plO_get hj]; exact psV_zero.2 (pas_ok hk _)
    unfold plErrAt
    rw [if_neg (by omega), plO_smK hk hst.1 n (j + 1) (by omega)]
    exact stErr_iff.2 (sumN_ok hk hst _)
  have := sm_no (by rw [plO_length]; exact h50) h0
  rw [plO_length, plO_smK hk hst.1 n n (Nat.le_refl _), sumN_full hk hst hn] at this
  exact this
end Go.Proofs.Ytaoakololkcepaa
