/- refusals with weights from -1 to 1: the plain reading -/
import Derived.Test.YtaoakololkcepaaBZ
set_option linter.unusedSimpArgs false
set_option linter.unusedVariables false
namespace Go.Proofs.Ytaoakololkcepaa
open Go.RowKit
def prvB (b : BnR) (ws : List Int) : Bool := !decide (mtW b ws)
def cntW (l : List Int) : Nat := (l.map Int.natAbs).sum
theorem cntW_nil : cntW [] = 0 := rfl
theorem cntW_snoc (l : List Int) (w : Int) : cntW (l ++ [w]) = cntW l + w.natAbs := by simp [cntW]
theorem cntW_app (l k : List Int) : cntW (l ++ k) = cntW l + cntW k := by simp [cntW]
theorem cntW_cons (w : Int) (l : List Int) : cntW (w :: l) = w.natAbs + cntW l := by simp [cntW]
/-- all weights, lexicographically -/
def allW : Nat → List (List Int)
  | 0 => [[]]
  | k + 1 => (allW k).map ((-1) :: ·) ++ ((allW k).map (0 :: ·) ++ (allW k).map (1 :: ·))
theorem allW_len : ∀ {k : Nat} {s : List Int}, s ∈ allW k → s.length = k
  | 0, s, h => by
    rw [allW, List.mem_singleton] at h
    subst h; rfl
  | k + 1, s, h => by
    simp only [allW, List.mem_append, List.mem_map] at h
    rcases h with ⟨a, ha, rfl⟩ | ⟨a, ha, rfl⟩ | ⟨a, ha, rfl⟩ <;> simp [allW_len ha]
theorem allW_cnt : ∀ {k : Nat} {s : List Int}, s ∈ allW k → cntW s ≤ k
  | 0, s, h => by
    rw [allW, List.mem_singleton] at h
    subst h; exact Nat.le_refl _
  | k + 1, s, h => by
    simp only [allW, List.mem_append, List.mem_map] at h
    rcases h with ⟨a, ha, rfl⟩ | ⟨a, ha, rfl⟩ | ⟨a, ha, rfl⟩ <;> rw [cntW_cons] <;> have := allW_cnt ha <;> omega
theorem allW_bd : ∀ {k : Nat} {s : List Int}, s ∈ allW k → ∀ x ∈ s, -1 ≤ x ∧ x ≤ 1
  | 0, s, h => by
    rw [allW, List.mem_singleton] at h
    subst h; intro x hx; cases hx
  | k + 1, s, h => by
    simp only [allW, List.mem_append, List.mem_map] at h
    rcases h with ⟨a, ha, rfl⟩ | ⟨a, ha, rfl⟩ | ⟨a, ha, rfl⟩ <;> intro x hx <;> rcases List.mem_cons.1 hx with rfl | hx <;> first | exact allW_bd ha x hx | omega
def fullW (p : List Int) (k : Nat) : List (List Int) := (allW k).map (p ++ ·)
theorem fullW_zero (p : List Int) : fullW p 0 = [p] := by simp [fullW, allW]
theorem fullW_succ (p : List Int) (k : Nat) : fullW p (k + 1) = fullW (p ++ [-1]) k ++ (fullW (p ++ [0]) k ++ fullW (p ++ [1]) k) := by
  simp [fullW, allW, Function.comp_def]
theorem fullW_cnt {p : List Int} {k : Nat} {w : List Int} (h : w ∈ fullW p k) : cntW p ≤ cntW w ∧ cntW w ≤ cntW p + k := by
  obtain ⟨s, hs, rfl⟩ := List.mem_map.1 h
  have := allW_cnt hs
  rw [cntW_app]
  omega
/-! the program's search -/
structure TrS where
  w : List Int
  best : Option (List Int)
  few : Nat
def tryF (b : BnR) : Nat → Nat → TrS → TrS
  | 0, used, s => if s.few ≤ used then s else if prvB b s.w = true then ⟨s.w, some s.w, used⟩ else s
  | k + 1, used, s => if s.few ≤ used then s else
    let s1 := tryF b k (used + 1) { s with w := s.w.set (s.w.length - (k + 1)) (-1) }
    let s2 := tryF b k used { s1 with w := s1.w.set (s1.w.length - (k + 1)) 0 }
    tryF b k (used + 1) { s2 with w := s2.w.set (s2.w.length - (k + 1)) 1 }
abbrev Bq := Option (List Int) × Nat
def stepW (b : BnR) (a : Bq) (w : List Int) : Bq := if cntW w < a.2 ∧ prvB b w = true then (some w, cntW w) else a
theorem fold_same {b : BnR} : ∀ {L : List (List Int)} {a : Bq}, (∀ w ∈ L, prvB b w = true → a.2 ≤ cntW w) → L.foldl (stepW b) a = a
  | [], _, _ => rfl
  | w :: L, a, h => by
    have e : stepW b a w = a := by
      unfold stepW
      rw [if_neg]
      rintro ⟨h1, h2⟩
      have := h w List.mem_cons_self h2
      omega
    rw [List.foldl_cons, e]
    exact fold_same fun w hw => h w (List.mem_cons_of_mem _ hw)
theorem take_set {l : List Int} {i : Nat} {v : Int} (h : i < l.length) : (l.set i v).take (i + 1) = l.take i ++ [v] := by
  rw [List.take_succ_eq_append_getElem (by rw [List.length_set]; exact h), List.take_set_of_le (Nat.le_refl _), List.getElem_set_self]
theorem tryF_spec (b : BnR) : ∀ (k used : Nat) (s : TrS), k ≤ s.w.length → used = cntW (s.w.take (s.w.length - k)) →
    (tryF b k used s).w.length = s.w.length ∧ (tryF b k used s).w.take (s.w.length - k) = s.w.take (s.w.length - k) ∧
    ((tryF b k used s).best, (tryF b k used s).few) = (fullW (s.w.take (s.w.length - k)) k).foldl (stepW b) (s.best, s.few)
  | 0, used, s, hk, hu => by
    rw [Nat.sub_zero, List.take_length] at hu ⊢
    rw [fullW_zero, List.foldl_cons, List.foldl_nil]
    unfold tryF stepW
    dsimp only
    by_cases h1 : s.few ≤ used
    · rw [if_pos h1, if_neg (by omega)]
      exact ⟨rfl, List.take_length, rfl⟩
    · rw [if_neg h1]
      by_cases h2 : prvB b s.w = true
      · rw [if_pos h2, if_pos ⟨by omega, h2⟩, hu]
        exact ⟨rfl, List.take_length, rfl⟩
      · rw [if_neg h2, if_neg (fun h => h2 h.2)]
        exact ⟨rfl, List.take_length, rfl⟩
  | k + 1, used, s, hk, hu => by
    unfold tryF
    by_cases h1 : s.few ≤ used
    · rw [if_pos h1]
      refine ⟨rfl, rfl, (fold_same fun w hw _ => ?_).symm⟩
      have := (fullW_cnt hw).1
      dsimp only
      omega
    · rw [if_neg h1]
      dsimp only
      obtain ⟨n, hn⟩ : ∃ n, s.w.length = n := ⟨_, rfl⟩
      have hi : n - (k + 1) < n := by omega
      have hik : n - (k + 1) + 1 = n - k := by omega
      rw [hn] at hu ⊢
      obtain ⟨a1, a2, a3⟩ := tryF_spec b k (used + 1) { s with w := s.w.set (n - (k + 1)) (-1) } (by simp; omega) (by
        dsimp only
        rw [List.length_set, hn, ← hik, take_set (by omega), cntW_snoc, ← hu]; rfl)
      dsimp only at a1 a2 a3
      rw [List.length_set, hn, ← hik, take_set (by omega)] at a2
      rw [List.length_set, hn] at a1
      rw [List.length_set, hn, ← hik, take_set (by omega)] at a3
      generalize tryF b k (used + 1) { s with w := s.w.set (n - (k + 1)) (-1) } = s1 at *
      have b0 : s1.w.take (n - (k + 1)) = s.w.take (n - (k + 1)) := by
        have := congrArg (List.take (n - (k + 1))) a2
        rw [List.take_take, Nat.min_eq_left (by omega), List.take_append_of_le_length (by rw [List.length_take]; omega), List.take_take, Nat.min_self] at this
        exact this
      rw [a1]
      obtain ⟨c1, c2, c3⟩ := tryF_spec b k used { s1 with w := s1.w.set (n - (k + 1)) 0 } (by simp; omega) (by
        dsimp only
        rw [List.length_set, a1, ← hik, take_set (by omega), cntW_snoc, b0, ← hu]; rfl)
      dsimp only at c1 c2 c3
      rw [List.length_set, a1, ← hik, take_set (by omega), b0] at c2
      rw [List.length_set, a1] at c1
      rw [List.length_set, a1, ← hik, take_set (by omega), b0] at c3
      generalize tryF b k used { s1 with w := s1.w.set (n - (k + 1)) 0 } = s2 at *
      have d0 : s2.w.take (n - (k + 1)) = s.w.take (n - (k + 1)) := by
        have := congrArg (List.take (n - (k + 1))) c2
        rw [List.take_take, Nat.min_eq_left (by omega), List.take_append_of_le_length (by rw [List.length_take]; omega), List.take_take, Nat.min_self] at this
        exact this
      rw [c1]
      obtain ⟨e1, e2, e3⟩ := tryF_spec b k (used + 1) { s2 with w := s2.w.set (n - (k + 1)) 1 } (by simp; omega) (by
        dsimp only
        rw [List.length_set, c1, ← hik, take_set (by omega), cntW_snoc, d0, ← hu]; rfl)
      dsimp only at e1 e2 e3
      rw [List.length_set, c1, ← hik, take_set (by omega), d0] at e2
      rw [List.length_set, c1] at e1
      rw [List.length_set, c1, ← hik, take_set (by omega), d0] at e3
      generalize tryF b k (used + 1) { s2 with w := s2.w.set (n - (k + 1)) 1 } = s3 at *
      refine ⟨e1, ?_, ?_⟩
      · have := congrArg (List.take (n - (k + 1))) e2
        rw [List.take_take, Nat.min_eq_left (by omega), List.take_append_of_le_length (by rw [List.length_take]; omega), List.take_take, Nat.min_self] at this
        exact this
      · rw [e3, c3, a3, fullW_succ, List.foldl_append, List.foldl_append]
/-! the reference's search -/
def rfO (b : BnR) : Nat → List Int → Int → List Int × Bool
  | 0, p, more => if more < 0 ∨ 0 < more then ([], false) else (p, prvB b p)
  | k + 1, p, more => if more < 0 ∨ (k + 1 : Int) < more then ([], false) else
    if (rfO b k (p ++ [-1]) (more - 1)).2 = true then rfO b k (p ++ [-1]) (more - 1) else
    if (rfO b k (p ++ [0]) more).2 = true then rfO b k (p ++ [0]) more else
    if (rfO b k (p ++ [1]) (more - 1)).2 = true then rfO b k (p ++ [1]) (more - 1) else ([], false)
def fndP (b : BnR) (c : Int) (w : List Int) : Bool := decide ((cntW w : Int) = c) && prvB b w
def fnd (b : BnR) (L : List (List Int)) (c : Int) : Option (List Int) := L.find? (fndP b c)
theorem fnd_out {b : BnR} {p : List Int} {k : Nat} {c : Int} (h : c < (cntW p : Int) ∨ ((cntW p + k : Nat) : Int) < c) : fnd b (fullW p k) c = none := by
  unfold fnd
  rw [List.find?_eq_none]
  intro w hw hf
  unfold fndP at hf
  rw [Bool.and_eq_true, decide_eq_true_eq] at hf
  have := fullW_cnt hw
  omega
theorem rfO_spec (b : BnR) : ∀ (k : Nat) (p : List Int) (more : Int), ((rfO b k p more).2 = false → fnd b (fullW p k) (cntW p + more) = none) ∧ ((rfO b k p more).2 = true → fnd b (fullW p k) (cntW p + more) = some (rfO b k p more).1)
  | 0, p, more => by
    rw [fullW_zero]
    unfold rfO
    split
    · rename_i h
      have := fnd_out (b := b) (p := p) (k := 0) (c := cntW p + more) (by omega)
      rw [fullW_zero] at this
      exact ⟨fun _ => this, (fun h => by cases h)⟩
    · rename_i h
      obtain rfl : more = 0 := by omega
      unfold fnd fndP
      dsimp only
      cases hp : prvB b p <;> simp [hp]
  | k + 1, p, more => by
    have i1 := rfO_spec b k (p ++ [-1]) (more - 1)
    have i2 := rfO_spec b k (p ++ [0]) more
    have i3 := rfO_spec b k (p ++ [1]) (more - 1)
    rw [cntW_snoc] at i1 i2 i3
    rw [show (((cntW p + (-1 : Int).natAbs : Nat) : Int) + (more - 1)) = cntW p + more by simp; omega] at i1
    rw [show (((cntW p + (0 : Int).natAbs : Nat) : Int) + more) = cntW p + more by simp] at i2
    rw [show (((cntW p + (1 : Int).natAbs : Nat) : Int) + (more - 1)) = cntW p + more by simp; omega] at i3
    unfold rfO
    by_cases h0 : more < 0 ∨ (k + 1 : Int) < more
    · rw [if_pos h0]
      exact ⟨fun _ => fnd_out (by omega), (fun h => by cases h)⟩
    · rw [if_neg h0, fullW_succ]
      unfold fnd at *
      rw [List.find?_append, List.find?_append]
      by_cases h1 : (rfO b k (p ++ [-1]) (more - 1)).2 = true
      · rw [if_pos h1, i1.2 h1]
        exact ⟨(fun h => by rw [h1] at h; cases h), fun _ => rfl⟩
      · rw [if_neg h1, i1.1 (by simpa using h1)]
        by_cases h2 : (rfO b k (p ++ [0]) more).2 = true
        · rw [if_pos h2, i2.2 h2]
          exact ⟨(fun h => by rw [h2] at h; cases h), fun _ => rfl⟩
        · rw [if_neg h2, i2.1 (by simpa using h2)]
          by_cases h3 : (rfO b k (p ++ [1]) (more - 1)).2 = true
          · rw [if_pos h3, i3.2 h3]
            exact ⟨(fun h => by rw [h3] at h; cases h), fun _ => rfl⟩
          · rw [if_neg h3, i3.1 (by simpa using h3)]
            exact ⟨fun _ => rfl, (fun h => by cases h)⟩
/-- the first proof with at least n weights, n not above m -/
def refN (b : BnR) (m : Nat) : Nat → Nat → Option (List Int)
  | 0, _ => none
  | f + 1, n => if (rfO b m [] n).2 = true then some (rfO b m [] n).1 else refN b m f (n + 1)
theorem refN_none {b : BnR} {m : Nat} : ∀ {f n : Nat}, refN b m f n = none → ∀ c, n ≤ c → c < n + f → fnd b (fullW [] m) c = none
  | 0, n, _, c, h1, h2 => by omega
  | f + 1, n, h, c, h1, h2 => by
    unfold refN at h
    split at h
    · cases h
    · rename_i hn
      rcases Nat.lt_or_ge n c with h3 | h3
      · exact refN_none h c (by omega) (by omega)
      · obtain rfl : c = n := by omega
        have := (rfO_spec b m [] c).1 (by simpa using hn)
        rw [cntW_nil] at this
        simpa using this
theorem refN_some {b : BnR} {m : Nat} {w : List Int} : ∀ {f n : Nat}, refN b m f n = some w → ∃ c : Nat, n ≤ c ∧ c < n + f ∧ fnd b (fullW [] m) c = some w ∧ ∀ c', n ≤ c' → c' < c → fnd b (fullW [] m) c' = none
  | 0, n, h => by cases h
  | f + 1, n, h => by
    unfold refN at h
    have hs := rfO_spec b m [] n
    rw [cntW_nil, Int.natCast_zero, Int.zero_add] at hs
    split at h
    · rename_i hn
      refine ⟨n, Nat.le_refl _, by omega, ?_, fun c' h1 h2 => by omega⟩
      rw [hs.2 hn]
      exact h
    · rename_i hn
      obtain ⟨c, h1, h2, h3, h4⟩ := refN_some h
      refine ⟨c, by omega, by omega, h3, fun c' g1 g2 => ?_⟩
      rcases Nat.lt_or_ge n c' with g3 | g3
      · exact h4 c' (by omega) g2
      · obtain rfl : c' = n := by omega
        exact hs.1 (by simpa using hn)
/-- both searches find the same -/
theorem ref_eq (b : BnR) (m : Nat) : ((fullW [] m).foldl (stepW b) (none, m + 1)).1 = refN b m (m + 1) 0 := by
  have hcn : ∀ w ∈ fullW [] m, cntW w ≤ m := fun w hw => by have := fullW_cnt hw; rw [cntW_nil] at this; omega
  cases hr : refN b m (m + 1) 0 with
  | none =>
    have hn := refN_none hr
    rw [fold_same]
    intro w hw hp
    have := hn (cntW w) (Nat.zero_le _) (by have := hcn w hw; omega)
    unfold fnd at this
    rw [List.find?_eq_none] at this
    exact absurd (show fndP b (cntW w) w = true by unfold fndP; rw [hp, Bool.and_true]; exact decide_eq_true rfl) (this w hw)
  | some w =>
    obtain ⟨c, _, h2, h3, h4⟩ := refN_some hr
    have hge : ∀ x ∈ fullW [] m, prvB b x = true → c ≤ cntW x := by
      intro x hx hp
      refine Nat.le_of_not_lt fun hlt => ?_
      have := h4 (cntW x) (Nat.zero_le _) hlt
      unfold fnd at this
      rw [List.find?_eq_none] at this
      exact absurd (show fndP b (cntW x) x = true by unfold fndP; rw [hp, Bool.and_true]; exact decide_eq_true rfl) (this x hx)
    unfold fnd at h3
    rw [List.find?_eq_some_iff_append] at h3
    obtain ⟨hw, L1, L2, hL, hL1⟩ := h3
    unfold fndP at hw
    rw [Bool.and_eq_true, decide_eq_true_eq] at hw
    have hcw : cntW w = c := by omega
    rw [hL] at hge ⊢
    have k1 : ∀ (L : List (List Int)) (a : Bq), c < a.2 → (∀ x ∈ L, prvB b x = true → c ≤ cntW x) → (∀ x ∈ L, (!fndP b c x) = true) → c < (L.foldl (stepW b) a).2 := by
      intro L
      induction L with
      | nil => intro a h _ _; exact h
      | cons x L ih =>
        intro a h g1 g2
        rw [List.foldl_cons]
        refine ih _ ?_ (fun y hy => g1 y (List.mem_cons_of_mem _ hy)) fun y hy => g2 y (List.mem_cons_of_mem _ hy)
        unfold stepW
        split
        · rename_i hx
          have e1 := g1 x List.mem_cons_self hx.2
          have e2 := g2 x List.mem_cons_self
          unfold fndP at e2
          rw [hx.2, Bool.and_true, Bool.not_eq_true', decide_eq_false_iff_not] at e2
          dsimp only
          omega
        · exact h
    have k2 := k1 L1 (none, m + 1) (by dsimp only; omega) (fun x hx => hge x (List.mem_append.2 (.inl hx))) hL1
    rw [List.foldl_append, List.foldl_cons]
    generalize L1.foldl (stepW b) (none, m + 1) = a at *
    have e : stepW b a w = (some w, c) := by
      unfold stepW
      rw [if_pos ⟨by omega, hw.2⟩, hcw]
    rw [e, fold_same]
    intro x hx hp
    exact hge x (List.mem_append.2 (.inr (List.mem_cons_of_mem _ hx))) hp
end Go.Proofs.Ytaoakololkcepaa
