import Derived.Test.YtmigenmibohnkaaYE
set_option linter.unusedSimpArgs false
set_option linter.unusedVariables false
/- values of curves: affine pieces, curves of curves, rising curves -/
namespace Go.Proofs.Ytmigenmibohnkaa
theorem cnt_pair {c : List Pt} (h : Asc c) {x : Rat} {i : Nat} (hi : i + 1 < c.length) (h1 : (at' c i).1 ≤ x) (h2 : x < (at' c (i + 1)).1) : cnt c x = i + 1 := by
  refine (cnt_uniq h (by omega) (fun j hj => ?_) fun j h3 h4 => ?_).symm
  · have := h.le (i := j) (j := i) (by omega) (by omega)
    grind
  · have := h.le (i := i + 1) (j := j) (by omega) (by omega)
    grind
theorem val_low {c : List Pt} (h : Asc c) (hp : 0 < c.length) {x : Rat} (hx : x < (at' c 0).1) : valE c x = (at' c 0).2 := by
  have : cnt c x = 0 := (cnt_uniq h (Nat.zero_le _) (fun j hj => absurd hj (Nat.not_lt_zero _)) fun j h3 h4 => by
    have := h.le (i := 0) (j := j) (by omega) h4
    grind).symm
  unfold valE; simp only [this, if_true]
theorem val_high {c : List Pt} (h : Asc c) (hp : 0 < c.length) {x : Rat} (hx : (at' c (c.length - 1)).1 ≤ x) : valE c x = (at' c (c.length - 1)).2 := by
  have : cnt c x = c.length := (cnt_uniq h (Nat.le_refl _) (fun j hj => by
    have := h.le (i := j) (j := c.length - 1) (by omega) (by omega)
    grind) fun j h3 h4 => by omega).symm
  unfold valE; simp only [this, if_true]
  rw [if_neg (by omega)]
theorem val_cnr {c : List Pt} (h : Asc c) {i : Nat} (hi : i < c.length) : valE c (at' c i).1 = (at' c i).2 := by
  have : cnt c (at' c i).1 = i + 1 := (cnt_uniq h (by omega) (fun j hj => h.le (by omega) hi) fun j h3 h4 => h.lt (by omega) h4).symm
  unfold valE; simp only [this]
  rw [if_neg (by omega), Nat.add_sub_cancel]
  split
  · rfl
  · rw [Rat.sub_self, Rat.zero_mul, Rat.add_zero]
theorem val_seg {c : List Pt} (h : Asc c) {x : Rat} {i : Nat} (hi : i + 1 < c.length) (h1 : (at' c i).1 ≤ x) (h2 : x ≤ (at' c (i + 1)).1) : valE c x = (at' c i).2 + (x - (at' c i).1) * sl (at' c i) (at' c (i + 1)) := by
  by_cases hx : x = (at' c (i + 1)).1
  · rw [hx, val_cnr h hi]
    have := sl_mul (h i hi)
    grind
  · have hn := cnt_pair h hi h1 (by grind)
    unfold valE; simp only [hn]
    rw [if_neg (by omega), if_neg (by omega), Nat.add_sub_cancel]
    unfold slN
    rw [Nat.add_sub_cancel]
/-- no corner strictly between -/
def noK (c : List Pt) (u v : Rat) : Prop := ∀ i, i < c.length → ¬ (u < (at' c i).1 ∧ (at' c i).1 < v)
theorem aff_gap {c : List Pt} (h : Asc c) (hp : 0 < c.length) {u v : Rat} (huv : u < v) (hn : noK c u v) : ∃ m k : Rat, ∀ y, u ≤ y → y ≤ v → valE c y = m * y + k := by
  have hc := cnt_le c u
  rcases Nat.eq_zero_or_pos (cnt c u) with h0 | h0
  · refine ⟨0, (at' c 0).2, fun y h1 h2 => ?_⟩
    have h3 := cnt_at (c := c) (x := u) (by omega)
    rw [h0] at h3
    have h4 := hn 0 hp
    rw [Rat.zero_mul, Rat.zero_add]
    by_cases hy : y < (at' c 0).1
    · exact val_low h hp hy
    · have : y = (at' c 0).1 := by grind
      rw [this, val_cnr h hp]
  · rcases Nat.lt_or_ge (cnt c u) c.length with h1 | h1
    · obtain ⟨i, hi⟩ : ∃ i, cnt c u = i + 1 := ⟨cnt c u - 1, by omega⟩
      have h3 := cnt_at (c := c) (x := u) h1
      have h4 := cnt_lt (c := c) (x := u) (i := i) (by omega)
      have h5 := hn (cnt c u) h1
      rw [hi] at h1 h3 h5
      refine ⟨sl (at' c i) (at' c (i + 1)), (at' c i).2 - (at' c i).1 * sl (at' c i) (at' c (i + 1)), fun y h6 h7 => ?_⟩
      rw [val_seg h h1 (by grind) (by grind)]
      grind
    · refine ⟨0, (at' c (c.length - 1)).2, fun y h6 h7 => ?_⟩
      have h4 := cnt_lt (c := c) (x := u) (i := c.length - 1) (by omega)
      rw [Rat.zero_mul, Rat.zero_add]
      exact val_high h hp (by grind)
/-- a value between two corners -/
theorem lerp {a b : Pt} {m k x : Rat} (hab : a.1 < b.1) (ha : a.2 = m * a.1 + k) (hb : b.2 = m * b.1 + k) : a.2 + (x - a.1) * sl a b = m * x + k := by
  have h1 := sl_mul hab
  have h2 : sl a b = m := by
    have h3 : sl a b * (b.1 - a.1) = m * (b.1 - a.1) := by rw [h1, ha, hb]; grind
    have h4 := sub_ne hab
    have h5 : sl a b * (b.1 - a.1) / (b.1 - a.1) = m * (b.1 - a.1) / (b.1 - a.1) := by rw [h3]
    rwa [Rat.mul_div_cancel h4, Rat.mul_div_cancel h4] at h5
  rw [h2, ha]; grind
/-- the corners of a curve of a curve -/
theorem cmp_mem {o c : List Pt} (ho : Valid o) (hc : Valid c) : ∀ {n : Nat}, n ≤ c.length → cmpG o c n = false → ∀ p, p ∈ cmpL o c n ↔ (∃ i, i < n ∧ p = ((at' c i).1, valE o (at' c i).2)) ∨ ∃ i, i < n ∧ i + 1 < c.length ∧ ∃ k ∈ midK o c i, p = (alE (at' c i) (at' c (i + 1)) k.1, k.2) ∧ sl (at' c i) (at' c (i + 1)) ≠ 0
  | 0, _, _, p => by simp [cmpL]
  | n + 1, hn, hg, p => by
    obtain ⟨g1, g2, g3⟩ := cmpG_step hg
    have ih := cmp_mem ho hc (n := n) (by omega) g1 p
    have hv : valK o c n = ((at' c n).1, valE o (at' c n).2) := by
      unfold valK
      by_cases hvo : valOk o (at' c n).2
      · rw [(vP_ok ho hvo false).1]
      · rw [valG, vG_bad ho hvo] at g2; cases g2
    simp only [cmpL, List.mem_append, List.mem_cons, ih, hv]
    have hm : p ∈ (if n + 1 < c.length then midL o c n (midK o c n) else []) ↔ n + 1 < c.length ∧ ∃ k ∈ midK o c n, p = (alE (at' c n) (at' c (n + 1)) k.1, k.2) ∧ sl (at' c n) (at' c (n + 1)) ≠ 0 := by
      by_cases h1 : n + 1 < c.length
      · rw [if_pos h1]
        have hup := hc.up n h1
        obtain ⟨s1, _⟩ := slP_ok (hc.sl n h1) hup false
        obtain ⟨_, m2⟩ := midG_ok (g3 h1)
        rw [s1] at m2
        unfold midL
        rw [List.mem_map, s1]
        constructor
        · rintro ⟨k, hk, rfl⟩
          obtain ⟨q1, q2⟩ := xG_ok (m2 k hk)
          refine ⟨h1, k, hk, ?_, q1⟩
          rw [q2]; unfold alE; rw [Rat.add_comm]
        · rintro ⟨_, k, hk, rfl, _⟩
          obtain ⟨q1, q2⟩ := xG_ok (m2 k hk)
          refine ⟨k, hk, ?_⟩
          rw [q2]; unfold alE; rw [Rat.add_comm]
      · rw [if_neg h1]; simp [h1]
    rw [hm]
    constructor
    · rintro ((⟨i, hi, e⟩ | ⟨i, hi, e⟩) | (e | ⟨h1, e⟩))
      · exact .inl ⟨i, by omega, e⟩
      · exact .inr ⟨i, by omega, e⟩
      · exact .inl ⟨n, by omega, e⟩
      · exact .inr ⟨n, by omega, h1, e⟩
    · rintro (⟨i, hi, e⟩ | ⟨i, hi, h1, e⟩)
      · rcases Nat.lt_or_ge i n with q | q
        · exact .inl (.inl ⟨i, q, e⟩)
        · have : i = n := by omega
          subst this; exact .inr (.inl e)
      · rcases Nat.lt_or_ge i n with q | q
        · exact .inl (.inr ⟨i, q, h1, e⟩)
        · have : i = n := by omega
          subst this; exact .inr (.inr ⟨h1, e⟩)
theorem midK_iff {o c : List Pt} {i : Nat} {k : Pt} : k ∈ midK o c i ↔ k ∈ o ∧ ((at' c i).2 < k.1 ∧ k.1 < (at' c (i + 1)).2 ∨ (at' c (i + 1)).2 < k.1 ∧ k.1 < (at' c i).2) := by
  have hb : ∀ lo hi, k ∈ betw o lo hi ↔ k ∈ o ∧ lo < k.1 ∧ k.1 < hi := by
    intro lo hi; unfold betw; rw [List.mem_filter, decide_eq_true_eq]
  unfold midK betwP
  split
  · rename_i h
    rw [List.mem_reverse, hb]
    constructor
    · rintro ⟨h1, h2⟩; exact ⟨h1, .inr h2⟩
    · rintro ⟨h1, h2 | h2⟩
      · exfalso; grind
      · exact ⟨h1, h2⟩
  · rename_i h
    rw [hb]
    constructor
    · rintro ⟨h1, h2⟩; exact ⟨h1, .inl h2⟩
    · rintro ⟨h1, h2 | h2⟩
      · exact ⟨h1, h2⟩
      · exfalso; grind
theorem rat_ne {m : Rat} (h : m ≠ 0) : m < 0 ∨ 0 < m := by
  rcases Classical.em (m < 0) with q | q
  · exact .inl q
  · exact .inr (by grind)
theorem mul_lt_in {m p q x : Rat} (h : p < x ∧ x < q) (hm : m ≠ 0) : m * p < m * x ∧ m * x < m * q ∨ m * q < m * x ∧ m * x < m * p := by
  rcases rat_ne hm with h1 | h1
  · have a := Rat.mul_lt_mul_of_pos_left h.1 (show 0 < -m by grind)
    have b := Rat.mul_lt_mul_of_pos_left h.2 (show 0 < -m by grind)
    grind
  · have a := Rat.mul_lt_mul_of_pos_left h.1 h1
    have b := Rat.mul_lt_mul_of_pos_left h.2 h1
    grind
/-- the value of a curve of a curve is the value of the one at the value of the other -/
theorem comp_val {o c l : List Pt} (ho : Valid o) (hc : Valid c) (h : compP o c = some l) (x : Rat) : valE l x = valE o (valE c x) := by
  have hl := compP_valid ho hc h
  obtain ⟨e1, e2⟩ := compP_ends hc h
  obtain ⟨hg, hL, _, _⟩ := compP_some h
  have hmem := cmp_mem ho hc (Nat.le_refl _) hg
  rw [← hL] at hmem
  have hcp := hc.pos
  have hlp := hl.pos
  have hop := ho.pos
  -- each corner is right
  have hpt : ∀ p ∈ l, p.2 = valE o (valE c p.1) := by
    intro p hp
    rcases (hmem p).1 hp with ⟨i, hi, rfl⟩ | ⟨i, hi, h1, k, hk, rfl, hs⟩
    · show valE o _ = _
      rw [val_cnr hc.asc hi]
    · show k.2 = valE o (valE c (alE (at' c i) (at' c (i + 1)) k.1))
      obtain ⟨hk1, hk2⟩ := midK_iff.1 hk
      have hin := alE_in (y := k.1) (hc.up i h1) (by grind)
      rw [val_seg hc.asc h1 (Rat.le_of_lt hin.1) hin.2, alE_val hs]
      obtain ⟨j, hj, rfl⟩ := at_mem hk1
      rw [val_cnr ho.asc hj]
  have hat : ∀ i, i < l.length → (at' l i).2 = valE o (valE c (at' l i).1) := fun i hi => hpt _ (mem_at hi)
  have hcn := cnt_le l x
  rcases Nat.eq_zero_or_pos (cnt l x) with h0 | h0
  · have h3 := cnt_at (c := l) (x := x) (by omega)
    rw [h0] at h3
    rw [val_low hl.asc hlp h3, hat 0 hlp, e1]
    congr 1
    rw [val_low (x := x) hc.asc hcp (by rw [← e1]; exact h3), val_cnr hc.asc hcp]
  · rcases Nat.lt_or_ge (cnt l x) l.length with h1 | h1
    · obtain ⟨j, hj⟩ : ∃ j, cnt l x = j + 1 := ⟨cnt l x - 1, by omega⟩
      have h3 := cnt_at (c := l) (x := x) h1
      have h4 := cnt_lt (c := l) (x := x) (i := j) (by omega)
      rw [hj] at h1 h3
      have hpq := hl.up j h1
      -- no corner of the curve strictly between
      have hno : ∀ p ∈ l, ¬ ((at' l j).1 < p.1 ∧ p.1 < (at' l (j + 1)).1) := by
        intro p hp hpp
        obtain ⟨i, hi, rfl⟩ := at_mem hp
        rcases Nat.lt_or_ge j i with q | q
        · have := hl.asc.le (i := j + 1) (j := i) (by omega) hi
          grind
        · have := hl.asc.le (i := i) (j := j) q (by omega)
          grind
      have hnc : noK c (at' l j).1 (at' l (j + 1)).1 := by
        intro i hi hh
        exact hno ((at' c i).1, valE o (at' c i).2) ((hmem _).2 (.inl ⟨i, hi, rfl⟩)) hh
      obtain ⟨m, k, hmk⟩ := aff_gap hc.asc hcp hpq hnc
      have vp := hmk _ Rat.le_refl (Rat.le_of_lt hpq)
      have vq := hmk _ (Rat.le_of_lt hpq) Rat.le_refl
      have vx := hmk x h4 (Rat.le_of_lt h3)
      have ap := hat j (by omega)
      have aq := hat (j + 1) h1
      rw [val_seg hl.asc h1 h4 (Rat.le_of_lt h3)]
      by_cases hm0 : m = 0
      · rw [hm0] at vp vq vx
        have : valE c (at' l j).1 = valE c x := by rw [vp, vx]; grind
        have h5 : valE c (at' l (j + 1)).1 = valE c x := by rw [vq, vx]; grind
        rw [this] at ap
        rw [h5] at aq
        have := lerp (x := x) (m := 0) (k := valE o (valE c x)) hpq (by rw [ap]; grind) (by rw [aq]; grind)
        rw [this]; grind
      · -- the ends of the piece lie within a stretch of the inner curve
        have hseg : ∃ i, i + 1 < c.length ∧ (at' c i).1 ≤ (at' l j).1 ∧ (at' l (j + 1)).1 ≤ (at' c (i + 1)).1 := by
          have r1 := hl.asc.le (i := 0) (j := j) (by omega) (by omega)
          have r2 := hl.asc.le (i := j + 1) (j := l.length - 1) (by omega) (by omega)
          rw [e1] at r1
          rw [e2] at r2
          have hcc := cnt_le c (at' l j).1
          have hpos := (cnt_iff hc.asc (x := (at' l j).1) hcp).2 r1
          have hlt : cnt c (at' l j).1 < c.length := by
            rcases Nat.lt_or_ge (cnt c (at' l j).1) c.length with q | q
            · exact q
            · exfalso
              have := cnt_lt (c := c) (x := (at' l j).1) (i := c.length - 1) (by omega)
              grind
          obtain ⟨i, hi⟩ : ∃ i, cnt c (at' l j).1 = i + 1 := ⟨cnt c (at' l j).1 - 1, by omega⟩
          have q1 := cnt_lt (c := c) (x := (at' l j).1) (i := i) (by omega)
          have q2 := cnt_at (c := c) (x := (at' l j).1) hlt
          rw [hi] at hlt q2
          have q3 := hnc (i + 1) hlt
          exact ⟨i, hlt, q1, by grind⟩
        obtain ⟨i, hi, i1, i2⟩ := hseg
        have hsi := hc.up i hi
        have sp := val_seg hc.asc (x := (at' l j).1) hi i1 (by grind)
        have sq := val_seg hc.asc (x := (at' l (j + 1)).1) hi (by grind) i2
        have hslm : sl (at' c i) (at' c (i + 1)) = m := by
          have h6 : sl (at' c i) (at' c (i + 1)) * ((at' l (j + 1)).1 - (at' l j).1) = m * ((at' l (j + 1)).1 - (at' l j).1) := by grind
          have h7 := sub_ne hpq
          have h8 : sl (at' c i) (at' c (i + 1)) * ((at' l (j + 1)).1 - (at' l j).1) / ((at' l (j + 1)).1 - (at' l j).1) = m * ((at' l (j + 1)).1 - (at' l j).1) / ((at' l (j + 1)).1 - (at' l j).1) := by rw [h6]
          rwa [Rat.mul_div_cancel h7, Rat.mul_div_cancel h7] at h8
        have hlin : ∀ u v : Rat, u < v → (u = valE c (at' l j).1 ∧ v = valE c (at' l (j + 1)).1 ∨ v = valE c (at' l j).1 ∧ u = valE c (at' l (j + 1)).1) → noK o u v := by
          intro u v huv hor n hn hh
          have hsm := sl_mul hsi
          rw [hslm] at hsm
          -- where the inner curve has this value
          have hk : at' o n ∈ midK o c i := by
            refine midK_iff.2 ⟨mem_at hn, ?_⟩
            have c1 : (at' c i).2 + ((at' l j).1 - (at' c i).1) * m = valE c (at' l j).1 := by rw [sp, hslm]
            have c2 : (at' c i).2 + ((at' l (j + 1)).1 - (at' c i).1) * m = valE c (at' l (j + 1)).1 := by rw [sq, hslm]
            rcases rat_ne hm0 with hneg | hpos
            · have z1 : 0 ≤ ((at' l j).1 - (at' c i).1) * (-m) := Rat.mul_nonneg (by grind) (by grind)
              have z2 : 0 ≤ ((at' c (i + 1)).1 - (at' l (j + 1)).1) * (-m) := Rat.mul_nonneg (by grind) (by grind)
              have z3 : 0 < ((at' l (j + 1)).1 - (at' l j).1) * (-m) := Rat.mul_pos (by grind) (by grind)
              refine .inr ?_
              grind
            · have z1 : 0 ≤ ((at' l j).1 - (at' c i).1) * m := Rat.mul_nonneg (by grind) (by grind)
              have z2 : 0 ≤ ((at' c (i + 1)).1 - (at' l (j + 1)).1) * m := Rat.mul_nonneg (by grind) (by grind)
              have z3 : 0 < ((at' l (j + 1)).1 - (at' l j).1) * m := Rat.mul_pos (by grind) (by grind)
              refine .inl ?_
              grind
          have hs0 : sl (at' c i) (at' c (i + 1)) ≠ 0 := by rw [hslm]; exact hm0
          have hp := (hmem (alE (at' c i) (at' c (i + 1)) (at' o n).1, (at' o n).2)).2 (.inr ⟨i, by omega, hi, at' o n, hk, rfl, hs0⟩)
          have hv := alE_val (y := (at' o n).1) hs0
          rw [hslm] at hv
          refine hno _ hp ?_
          show (at' l j).1 < alE (at' c i) (at' c (i + 1)) (at' o n).1 ∧ alE (at' c i) (at' c (i + 1)) (at' o n).1 < (at' l (j + 1)).1
          generalize alE (at' c i) (at' c (i + 1)) (at' o n).1 = z at hv
          rw [hslm] at sp sq
          have d1 : (at' o n).1 - valE c (at' l j).1 = (z - (at' l j).1) * m := by rw [sp]; grind
          have d2 : valE c (at' l (j + 1)).1 - (at' o n).1 = ((at' l (j + 1)).1 - z) * m := by rw [sq]; grind
          rcases rat_ne hm0 with hneg | hpos
          · refine ⟨?_, ?_⟩
            · refine Classical.byContradiction fun hc1 => ?_
              have z1 : 0 ≤ ((at' l j).1 - z) * (-m) := Rat.mul_nonneg (by grind) (by grind)
              have z3 : 0 < ((at' l (j + 1)).1 - (at' l j).1) * (-m) := Rat.mul_pos (by grind) (by grind)
              grind
            · refine Classical.byContradiction fun hc1 => ?_
              have z1 : 0 ≤ (z - (at' l (j + 1)).1) * (-m) := Rat.mul_nonneg (by grind) (by grind)
              have z3 : 0 < ((at' l (j + 1)).1 - (at' l j).1) * (-m) := Rat.mul_pos (by grind) (by grind)
              grind
          · refine ⟨?_, ?_⟩
            · refine Classical.byContradiction fun hc1 => ?_
              have z1 : 0 ≤ ((at' l j).1 - z) * m := Rat.mul_nonneg (by grind) (by grind)
              have z3 : 0 < ((at' l (j + 1)).1 - (at' l j).1) * m := Rat.mul_pos (by grind) (by grind)
              grind
            · refine Classical.byContradiction fun hc1 => ?_
              have z1 : 0 ≤ (z - (at' l (j + 1)).1) * m := Rat.mul_nonneg (by grind) (by grind)
              have z3 : 0 < ((at' l (j + 1)).1 - (at' l j).1) * m := Rat.mul_pos (by grind) (by grind)
              grind
        -- the outer curve between
        have haff : ∃ m2 k2 : Rat, valE o (valE c (at' l j).1) = m2 * valE c (at' l j).1 + k2 ∧ valE o (valE c (at' l (j + 1)).1) = m2 * valE c (at' l (j + 1)).1 + k2 ∧ valE o (valE c x) = m2 * valE c x + k2 := by
          rcases rat_ne hm0 with hneg | hpos
          · have z3 : 0 < ((at' l (j + 1)).1 - (at' l j).1) * (-m) := Rat.mul_pos (by grind) (by grind)
            have z1 : 0 ≤ (x - (at' l j).1) * (-m) := Rat.mul_nonneg (by grind) (by grind)
            have z2 : 0 ≤ ((at' l (j + 1)).1 - x) * (-m) := Rat.mul_nonneg (by grind) (by grind)
            have huv : valE c (at' l (j + 1)).1 < valE c (at' l j).1 := by grind
            obtain ⟨m2, k2, h9⟩ := aff_gap ho.asc hop huv (hlin _ _ huv (.inr ⟨rfl, rfl⟩))
            exact ⟨m2, k2, h9 _ (Rat.le_of_lt huv) Rat.le_refl, h9 _ Rat.le_refl (Rat.le_of_lt huv), h9 _ (by grind) (by grind)⟩
          · have z3 : 0 < ((at' l (j + 1)).1 - (at' l j).1) * m := Rat.mul_pos (by grind) (by grind)
            have z1 : 0 ≤ (x - (at' l j).1) * m := Rat.mul_nonneg (by grind) (by grind)
            have z2 : 0 ≤ ((at' l (j + 1)).1 - x) * m := Rat.mul_nonneg (by grind) (by grind)
            have huv : valE c (at' l j).1 < valE c (at' l (j + 1)).1 := by grind
            obtain ⟨m2, k2, h9⟩ := aff_gap ho.asc hop huv (hlin _ _ huv (.inl ⟨rfl, rfl⟩))
            exact ⟨m2, k2, h9 _ Rat.le_refl (Rat.le_of_lt huv), h9 _ (Rat.le_of_lt huv) Rat.le_refl, h9 _ (by grind) (by grind)⟩
        obtain ⟨m2, k2, f1, f2, f3⟩ := haff
        rw [lerp (x := x) (m := m2 * m) (k := m2 * k + k2) hpq (by rw [ap, f1, vp]; grind) (by rw [aq, f2, vq]; grind), f3, vx]
        grind
    · have h4 := cnt_lt (c := l) (x := x) (i := l.length - 1) (by omega)
      rw [val_high hl.asc hlp h4, hat _ (by omega), e2]
      congr 1
      rw [val_high (x := x) hc.asc hcp (by rw [← e2]; exact h4), val_cnr hc.asc (by omega)]
end Go.Proofs.Ytmigenmibohnkaa
/- rising curves; least places -/
namespace Go.Proofs.Ytmigenmibohnkaa
theorem y_le {c : List Pt} (hy : ∀ i, i + 1 < c.length → (at' c i).2 ≤ (at' c (i + 1)).2) {i : Nat} : ∀ {j : Nat}, i ≤ j → j < c.length → (at' c i).2 ≤ (at' c j).2
  | 0, hij, _ => by
    have : i = 0 := by omega
    subst this; exact Rat.le_refl
  | j + 1, hij, hj => by
    rcases Nat.lt_or_ge i (j + 1) with q | q
    · have h1 := y_le hy (i := i) (j := j) (by omega) (by omega)
      have h2 := hy j hj
      grind
    · have : i = j + 1 := by omega
      subst this; exact Rat.le_refl
theorem sl_nonneg {a b : Pt} (hab : a.1 < b.1) (h : a.2 ≤ b.2) : 0 ≤ sl a b := by
  refine Classical.byContradiction fun hn => ?_
  have h1 := sl_mul hab
  have h2 : 0 < (-sl a b) * (b.1 - a.1) := Rat.mul_pos (by grind) (by grind)
  grind
theorem val_bd {c : List Pt} (h : Asc c) (hp : 0 < c.length) (hy : ∀ i, i + 1 < c.length → (at' c i).2 ≤ (at' c (i + 1)).2) (u : Rat) : (0 < cnt c u → (at' c (cnt c u - 1)).2 ≤ valE c u) ∧ (cnt c u < c.length → valE c u ≤ (at' c (cnt c u)).2) := by
  have hcn := cnt_le c u
  rcases Nat.eq_zero_or_pos (cnt c u) with h0 | h0
  · refine ⟨fun q => by omega, fun q => ?_⟩
    have h3 := cnt_at (c := c) (x := u) q
    rw [h0] at h3 ⊢
    rw [val_low h hp h3]; exact Rat.le_refl
  · rcases Nat.lt_or_ge (cnt c u) c.length with h1 | h1
    · obtain ⟨i, hi⟩ : ∃ i, cnt c u = i + 1 := ⟨cnt c u - 1, by omega⟩
      have h3 := cnt_at (c := c) (x := u) h1
      have h4 := cnt_lt (c := c) (x := u) (i := i) (by omega)
      rw [hi] at h1 h3 ⊢
      rw [Nat.add_sub_cancel, val_seg h h1 h4 (Rat.le_of_lt h3)]
      have s1 := sl_nonneg (h i h1) (hy i h1)
      have s2 := sl_mul (h i h1)
      have z1 : 0 ≤ (u - (at' c i).1) * sl (at' c i) (at' c (i + 1)) := Rat.mul_nonneg (by grind) s1
      have z2 : 0 ≤ ((at' c (i + 1)).1 - u) * sl (at' c i) (at' c (i + 1)) := Rat.mul_nonneg (by grind) s1
      exact ⟨fun _ => by grind, fun _ => by grind⟩
    · have he : cnt c u = c.length := by omega
      refine ⟨fun _ => ?_, fun q => by omega⟩
      have h4 := cnt_lt (c := c) (x := u) (i := c.length - 1) (by omega)
      rw [he, val_high h hp h4]; exact Rat.le_refl
theorem val_mono {c : List Pt} (h : Asc c) (hp : 0 < c.length) (hy : ∀ i, i + 1 < c.length → (at' c i).2 ≤ (at' c (i + 1)).2) {u v : Rat} (huv : u ≤ v) : valE c u ≤ valE c v := by
  have hcu := cnt_le c u
  have hcv := cnt_le c v
  have hle : cnt c u ≤ cnt c v := by
    rcases Nat.lt_or_ge (cnt c v) (cnt c u) with q | q
    · exfalso
      have h1 := cnt_lt q
      have h2 := cnt_at (c := c) (x := v) (by omega)
      grind
    · exact q
  rcases Nat.lt_or_ge (cnt c u) (cnt c v) with q | q
  · have h1 := (val_bd h hp hy u).2 (by omega)
    have h2 := (val_bd h hp hy v).1 (by omega)
    have h3 := y_le hy (i := cnt c u) (j := cnt c v - 1) (by omega) (by omega)
    grind
  · have he : cnt c v = cnt c u := by omega
    rcases Nat.eq_zero_or_pos (cnt c u) with h0 | h0
    · have h3 := cnt_at (c := c) (x := v) (by omega)
      rw [he, h0] at h3
      rw [val_low h hp (by grind), val_low h hp h3]; exact Rat.le_refl
    · rcases Nat.lt_or_ge (cnt c u) c.length with h1 | h1
      · obtain ⟨i, hi⟩ : ∃ i, cnt c u = i + 1 := ⟨cnt c u - 1, by omega⟩
        have h3 := cnt_at (c := c) (x := v) (by omega)
        have h4 := cnt_lt (c := c) (x := u) (i := i) (by omega)
        rw [he, hi] at h3
        rw [hi] at h1
        rw [val_seg h h1 h4 (by grind), val_seg h h1 (by grind) (Rat.le_of_lt h3)]
        have s1 := sl_nonneg (h i h1) (hy i h1)
        have z1 : 0 ≤ (v - u) * sl (at' c i) (at' c (i + 1)) := Rat.mul_nonneg (by grind) s1
        grind
      · have h4 := cnt_lt (c := c) (x := u) (i := c.length - 1) (by omega)
        rw [val_high h hp h4, val_high h hp (by grind)]; exact Rat.le_refl
/-- no part's curve falls -/
def upP (a : ActR) : Prop := ∀ i, i < a.parts.length → ∀ k, k + 1 < (a.parts.getD i p0).cor.length → ((a.parts.getD i p0).cor.getD k rk0).2.1 ≤ ((a.parts.getD i p0).cor.getD (k + 1) rk0).2.1
theorem at_map {l : List Rk} {k : Nat} (h : k < l.length) : at' (l.map toP) k = toP (l.getD k rk0) := by
  unfold at'
  rw [List.getD_eq_getElem?_getD, List.getElem?_map, rk_getD h]; rfl
theorem part_up {a : ActR} (h : PtsOk a) (hu : upP a) {i : Nat} (hi : i < a.parts.length) : ∀ k, k + 1 < ((a.parts.getD i p0).cor.map toP).length → (at' ((a.parts.getD i p0).cor.map toP) k).2 ≤ (at' ((a.parts.getD i p0).cor.map toP) (k + 1)).2 := by
  intro k hk
  rw [List.length_map] at hk
  have hkn := (ptErr_zero (h.pt i hi)).2.2.2.1
  have h1 := hu i hi k hk
  rw [at_map (by omega), at_map hk]
  unfold knErr at hkn
  split at hkn
  · simp at hkn
  · have hz := firstE_zero.1 hkn
    have z1 := (knErrAt_zero (hz k (by omega))).1.2
    have z2 := (knErrAt_zero (hz (k + 1) hk)).1.2
    show toQ _ ≤ toQ _
    have e1 : ((a.parts.getD i p0).cor.getD k rk0).2 = (((a.parts.getD i p0).cor.getD k rk0).2.1, 1) := Prod.ext rfl z1
    have e2 : ((a.parts.getD i p0).cor.getD (k + 1) rk0).2 = (((a.parts.getD i p0).cor.getD (k + 1) rk0).2.1, 1) := Prod.ext rfl z2
    rw [e1, e2, toQ_one, toQ_one]
    exact Rat.intCast_le_intCast.2 h1
theorem curP_mono {a : ActR} (h : PtsOk a) (hu : upP a) : ∀ {n i : Nat} {l : List Pt}, i < a.parts.length → curP a n i = some l → ∀ {u v : Rat}, u ≤ v → valE l u ≤ valE l v
  | 0, i, l, _, hl => by simp [curP] at hl
  | n + 1, i, l, hi, hl => by
    rename_i u v
    intro huv
    have kv := (knee_valid (ptErr_zero (h.pt i hi)).2.2.2.1).1
    have hup := part_up h hu hi
    unfold curP at hl
    by_cases hd : (a.parts.getD i p0).driver = []
    · rw [if_pos hd] at hl
      have hdv := dipC_valid h
      rw [comp_val kv hdv hl, comp_val kv hdv hl]
      refine val_mono kv.asc kv.pos hup (val_mono hdv.asc hdv.pos ?_ huv)
      intro j hj
      have : j = 0 := by
        have : (dipC a).length = 2 := rfl
        omega
      subst this
      show (0 : Rat) ≤ (a.dip : Rat)
      have := h.dip
      have hz := (Rat.intCast_le_intCast (a := 0) (b := a.dip)).2 (by omega)
      simpa using hz
    · rw [if_neg hd] at hl
      cases hc : curP a n (drv a (a.parts.getD i p0)) with
      | none => rw [hc] at hl; cases hl
      | some d =>
        rw [hc] at hl
        have hlt := (drv_lt h hi hd).1
        have hv := curP_valid h (n := n) (i := drv a (a.parts.getD i p0)) (by omega) hc
        have ih := curP_mono h hu (n := n) (i := drv a (a.parts.getD i p0)) (by omega) hc huv
        have hl' : compP _ d = some l := hl
        rw [comp_val kv hv hl', comp_val kv hv hl']
        exact val_mono kv.asc kv.pos hup ih
/-- at the place of a level the level is reached -/
theorem rch_val {c : List Pt} (hc : Valid c) {lv x : Rat} {f : Bool} {e : Int} (h : rch c lv f = (some x, e)) : rchd f lv (x, valE c x) = true := by
  rcases rch_cases c lv f with h1 | ⟨h1, h2⟩ | ⟨i, h1, h2, h3⟩
  · rw [rch_none h1] at h; cases h
  · rw [rch_zero h1 h2] at h; cases h
    rw [val_cnr hc.asc h1]; exact h2
  · rw [rch_succ h1 h2 h3] at h
    split at h
    · cases h
      obtain ⟨k1, k2, k3⟩ := rchd_y (h2 i (by omega)) h3
      have hin := alE_in (y := lv) (hc.up i h1) (by cases f <;> simp_all)
      rw [val_seg hc.asc h1 (Rat.le_of_lt hin.1) hin.2, alE_val (sl_ne (hc.up i h1) k1)]
      unfold rchd
      split <;> simp [Rat.le_refl]
    · cases h
theorem seg_lt {a b : Pt} {x lv : Rat} (hab : a.1 < b.1) (h1 : a.1 ≤ x) (h2 : x ≤ b.1) (ha : a.2 < lv) (hb : b.2 < lv) : a.2 + (x - a.1) * sl a b < lv := by
  have s := sl_mul hab
  rcases Classical.em (0 ≤ sl a b) with q | q
  · have z2 : 0 ≤ (b.1 - x) * sl a b := Rat.mul_nonneg (by grind) q
    grind
  · have z1 : 0 ≤ (x - a.1) * (-sl a b) := Rat.mul_nonneg (by grind) (by grind)
    grind
/-- .. and at no lesser one behind the first corner -/
theorem rch_least {c : List Pt} (hc : Valid c) {lv x : Rat} {e : Int} (h : rch c lv false = (some x, e)) {y : Rat} (h0 : (at' c 0).1 ≤ y) (hy : y < x) : valE c y < lv := by
  rcases rch_cases c lv false with h1 | ⟨h1, h2⟩ | ⟨i, h1, h2, h3⟩
  · rw [rch_none h1] at h; cases h
  · rw [rch_zero h1 h2] at h; cases h
    exfalso; grind
  · rw [rch_succ h1 h2 h3] at h
    split at h
    · cases h
      have hlo : ∀ j, j < i + 1 → (at' c j).2 < lv := by
        intro j hj
        have := h2 j hj
        unfold rchd at this
        simpa [Rat.not_le] using this
      obtain ⟨k1, k2, _⟩ := rchd_y (h2 i (by omega)) h3
      have k2 := k2 rfl
      have hin := alE_in (y := lv) (hc.up i h1) (.inl k2)
      -- the stretch of y
      by_cases hs : (at' c i).1 ≤ y
      · rw [val_seg hc.asc h1 hs (by grind)]
        have hv := alE_val (y := lv) (sl_ne (hc.up i h1) k1)
        have hsp : 0 < sl (at' c i) (at' c (i + 1)) := by
          have s1 := sl_nonneg (hc.up i h1) (by grind)
          have s2 := sl_ne (hc.up i h1) k1
          grind
        have z1 : 0 < (alE (at' c i) (at' c (i + 1)) lv - y) * sl (at' c i) (at' c (i + 1)) := Rat.mul_pos (by grind) hsp
        grind
      · have hcn := cnt_le c y
        have hlt : cnt c y < i + 1 := by
          rcases Nat.lt_or_ge (cnt c y) (i + 1) with q | q
          · exact q
          · exfalso
            have := cnt_lt (c := c) (x := y) (i := i) (by omega)
            exact hs this
        have hpos := (cnt_iff hc.asc (x := y) hc.pos).2 h0
        obtain ⟨j, hj⟩ : ∃ j, cnt c y = j + 1 := ⟨cnt c y - 1, by omega⟩
        have q1 := cnt_lt (c := c) (x := y) (i := j) (by omega)
        have q2 := cnt_at (c := c) (x := y) (by omega)
        rw [hj] at q2
        rw [val_seg hc.asc (i := j) (by omega) q1 (Rat.le_of_lt q2)]
        exact seg_lt (hc.up j (by omega)) q1 (Rat.le_of_lt q2) (hlo j (by omega)) (hlo (j + 1) (by omega))
    · cases h
theorem rch_more {c : List Pt} (hc : Valid c) {lv lv2 x y : Rat} {e e2 : Int} (hl : lv ≤ lv2) (h : rch c lv false = (some x, e)) (h' : rch c lv2 false = (some y, e2)) : x ≤ y := by
  refine Classical.byContradiction fun hn => ?_
  obtain ⟨_, _, b1, _⟩ := sm_rch hc h'
  have h1 := rch_least hc h b1 (by grind)
  have h2 := rch_val hc h'
  unfold rchd at h2
  simp only [Bool.false_eq_true, if_false, decide_eq_true_eq] at h2
  grind
end Go.Proofs.Ytmigenmibohnkaa
