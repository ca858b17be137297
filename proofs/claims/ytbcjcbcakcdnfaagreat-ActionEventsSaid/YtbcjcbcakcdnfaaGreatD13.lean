/- a curve of a curve, as the reference makes it: corner by corner, each put into its place -/
import Derived.Test.YtbcjcbcakcdnfaaGreatYE
set_option linter.unusedSimpArgs false
set_option linter.unusedVariables false
namespace Go.Proofs.YtbcjcbcakcdnfaaGreat
open Go.RowKit
theorem tw_at {α : Type} {f : α → Bool} {d : α} : ∀ {l : List α} {n : Nat}, n ≤ l.length → (∀ j, j < n → f (l.getD j d) = true) → (n = l.length ∨ f (l.getD n d) = false) → (l.takeWhile f).length = n
  | [], n, hn, _, _ => by simp at hn; subst hn; rfl
  | a :: l, 0, _, _, h2 => by
    rcases h2 with h2 | h2
    · simp at h2
    · have : f a = false := h2
      rw [List.takeWhile_cons_of_neg (by rw [this]; decide)]; rfl
  | a :: l, n + 1, hn, h, h2 => by
    have h0 : f a = true := h 0 (Nat.succ_pos _)
    rw [List.takeWhile_cons_of_pos h0, List.length_cons]
    have hn' : n ≤ l.length := by simpa using hn
    rw [tw_at (d := d) hn' (fun j hj => h (j + 1) (by omega)) (by
      rcases h2 with h2 | h2
      · exact .inl (by simpa using h2)
      · exact .inr h2)]
/-- the place of a corner among ascending ones -/
def kinN (l : List Pt) (x : Rat) : Nat := (l.takeWhile fun p => decide (p.1 < x)).length
def kinP (l : List Pt) (k : Pt) : List Pt := l.take (kinN l k.1) ++ k :: l.drop (kinN l k.1)
theorem kinN_at {l : List Pt} {x : Rat} {n : Nat} (hn : n ≤ l.length) (h : ∀ j, j < n → (at' l j).1 < x) (h2 : n = l.length ∨ ¬ (at' l n).1 < x) : kinN l x = n :=
  tw_at (d := (0, 0)) hn (fun j hj => decide_eq_true (h j hj)) (h2.imp_right fun h => decide_eq_false h)
theorem kinP_mid {L M : List Pt} {k : Pt} (h1 : ∀ p ∈ L, p.1 < k.1) (h2 : ∀ p ∈ M, ¬ p.1 < k.1) : kinP (L ++ M) k = L ++ k :: M := by
  have e : kinN (L ++ M) k.1 = L.length := by
    unfold kinN
    rw [List.takeWhile_append_of_pos fun p hp => decide_eq_true (h1 p hp), List.length_append]
    have : M.takeWhile (fun p => decide (p.1 < k.1)) = [] := by
      cases M with
      | nil => rfl
      | cons q r => exact List.takeWhile_cons_of_neg (by simpa using h2 q List.mem_cons_self)
    rw [this]; rfl
  unfold kinP
  rw [e, List.take_left, List.drop_left]
theorem kinP_end {L : List Pt} {k : Pt} (h1 : ∀ p ∈ L, p.1 < k.1) : kinP L k = L ++ [k] := by
  have := kinP_mid (M := []) h1 (fun p hp => by cases hp)
  rw [List.append_nil] at this
  exact this
/-- a corner of the outer curve that lies within the stretch -/
def inR (u v x : Rat) : Prop := u < x ∧ x < v ∨ v < x ∧ x < u
theorem betwP_zero (o : List Pt) (u v : Rat) : betwP (o.take 0) u v = [] := by unfold betwP; split <;> rfl
theorem betwP_no {o : List Pt} {u v : Rat} {n : Nat} (hn : n < o.length) (h : ¬ inR u v (at' o n).1) : betwP (o.take (n + 1)) u v = betwP (o.take n) u v := by
  unfold inR at h
  unfold betwP
  split
  · rw [betw_succ hn, if_neg (by grind), List.append_nil]
  · rw [betw_succ hn, if_neg (by grind), List.append_nil]
theorem betwP_yes {o : List Pt} {u v : Rat} {n : Nat} (hn : n < o.length) (h : inR u v (at' o n).1) : betwP (o.take (n + 1)) u v = if v < u then at' o n :: betwP (o.take n) u v else betwP (o.take n) u v ++ [at' o n] := by
  unfold inR at h
  unfold betwP
  by_cases hv : v < u
  · rw [if_pos hv, if_pos hv, if_pos hv, betw_succ hn, if_pos (by grind), List.reverse_append]
    rfl
  · rw [if_neg hv, if_neg hv, if_neg hv, betw_succ hn, if_pos (by grind)]
theorem betwP_mem {o : List Pt} {u v : Rat} {n : Nat} {k : Pt} (h : k ∈ betwP (o.take n) u v) : inR u v k.1 ∧ ∃ j, j < n ∧ j < o.length ∧ at' o j = k := by
  have key : k ∈ o.take n ∧ inR u v k.1 := by
    unfold betwP at h
    unfold inR
    split at h
    · have := betw_mem (List.mem_reverse.1 h); exact ⟨this.1, .inr this.2⟩
    · have := betw_mem h; exact ⟨this.1, .inl this.2⟩
  refine ⟨key.2, ?_⟩
  obtain ⟨j, hj, e⟩ := List.getElem_of_mem key.1
  rw [List.length_take] at hj
  refine ⟨j, by omega, by omega, ?_⟩
  rw [← e, List.getElem_take]
  exact (at_getE (by omega)).symm
def alAll (o c : List Pt) (i n : Nat) : Prop := ∀ k ∈ betwP (o.take n) (at' c i).2 (at' c (i + 1)).2, alOk (at' c i) (at' c (i + 1)) k.1
/-- all corners before the outer one with number n, on the stretch behind corner i -/
def rcm (o c : List Pt) (i n : Nat) : List Pt := cmpL o c i ++ valK o c i :: midL o c i (betwP (o.take n) (at' c i).2 (at' c (i + 1)).2)
section
variable {o c : List Pt} {i n : Nat}
theorem rcm_zero : rcm o c i 0 = cmpL o c i ++ [valK o c i] := by unfold rcm; rw [betwP_zero]; rfl
theorem val_ins (ho : Valid o) (hc : Valid c) (hi : i < c.length) (hg : cmpG o c i = false) : kinP (cmpL o c i) (valK o c i) = rcm o c i 0 := by
  rw [rcm_zero]
  exact kinP_end fun p hp => (cmpL_asc ho hc (by omega) hg).2 p hp hi
theorem rcm_no (hn : n < o.length) (h : ¬ inR (at' c i).2 (at' c (i + 1)).2 (at' o n).1) : rcm o c i (n + 1) = rcm o c i n := by unfold rcm; rw [betwP_no hn h]
theorem alAll_no (hn : n < o.length) (h : ¬ inR (at' c i).2 (at' c (i + 1)).2 (at' o n).1) (ha : alAll o c i n) : alAll o c i (n + 1) := by unfold alAll at *; rw [betwP_no hn h]; exact ha
theorem alAll_yes (hn : n < o.length) (h : inR (at' c i).2 (at' c (i + 1)).2 (at' o n).1) (ha : alAll o c i n) (hk : alOk (at' c i) (at' c (i + 1)) (at' o n).1) : alAll o c i (n + 1) := by
  unfold alAll at *
  rw [betwP_yes hn h]
  split
  · intro k hm
    rcases List.mem_cons.1 hm with rfl | hm
    · exact hk
    · exact ha k hm
  · intro k hm
    rcases List.mem_append.1 hm with hm | hm
    · exact ha k hm
    · rw [List.mem_singleton.1 hm]; exact hk
theorem inR_ne {u v x : Rat} (h : inR u v x) : u ≠ v := by unfold inR at h; grind
theorem al_x (hc : Valid c) (hi : i + 1 < c.length) {x : Rat} (hx : inR (at' c i).2 (at' c (i + 1)).2 x) (hk : alOk (at' c i) (at' c (i + 1)) x) : xG false (at' c i) (slP (at' c i) (at' c (i + 1))) x = false ∧ xP (at' c i) (slP (at' c i) (at' c (i + 1))) x = alE (at' c i) (at' c (i + 1)) x := by
  rw [(slP_ok (hc.sl i hi) (hc.up i hi) false).1]
  exact (xG_al (sl_ne (hc.up i hi) (inR_ne hx)) false).1 hk
theorem rcm_yes (ho : Valid o) (hc : Valid c) (hi : i + 1 < c.length) (hg : cmpG o c i = false) (hn : n < o.length) (h : inR (at' c i).2 (at' c (i + 1)).2 (at' o n).1) (ha : alAll o c i n) (hk : alOk (at' c i) (at' c (i + 1)) (at' o n).1) :
    kinP (rcm o c i n) (alE (at' c i) (at' c (i + 1)) (at' o n).1, (at' o n).2) = rcm o c i (n + 1) := by
  have hu := hc.up i hi
  have hm := slP_mul hc hi
  obtain ⟨x1, x2⟩ := al_x hc hi h hk
  have hs0 : slP (at' c i) (at' c (i + 1)) ≠ 0 := (xG_ok x1).1
  have hval : ∀ x, xG false (at' c i) (slP (at' c i) (at' c (i + 1))) x = false → xP (at' c i) (slP (at' c i) (at' c (i + 1))) x = (x - (at' c i).2) / slP (at' c i) (at' c (i + 1)) + (at' c i).1 := fun x h => (xG_ok h).2
  have hin : (at' c i).1 < xP (at' c i) (slP (at' c i) (at' c (i + 1))) (at' o n).1 := (stretch_in hu hm (hval _ x1) hs0 h).1
  have hL : ∀ p ∈ cmpL o c i ++ [valK o c i], p.1 < xP (at' c i) (slP (at' c i) (at' c (i + 1))) (at' o n).1 := by
    intro p hp
    rcases List.mem_append.1 hp with hp | hp
    · have := (cmpL_asc ho hc (by omega) hg).2 p hp (by omega)
      grind
    · rw [List.mem_singleton.1 hp]; exact hin
  have hM : ∀ p ∈ midL o c i (betwP (o.take n) (at' c i).2 (at' c (i + 1)).2), ((at' c (i + 1)).2 < (at' c i).2 → ¬ p.1 < xP (at' c i) (slP (at' c i) (at' c (i + 1))) (at' o n).1) ∧ (¬ (at' c (i + 1)).2 < (at' c i).2 → p.1 < xP (at' c i) (slP (at' c i) (at' c (i + 1))) (at' o n).1) := by
    intro p hp
    unfold midL at hp
    obtain ⟨k, hk1, rfl⟩ := List.mem_map.1 hp
    obtain ⟨b1, j, b2, b3, rfl⟩ := betwP_mem hk1
    obtain ⟨y1, _⟩ := al_x hc hi b1 (ha _ hk1)
    have hjn := ho.asc.lt b2 hn
    refine ⟨fun hv => ?_, fun hv => ?_⟩
    · exact Rat.not_lt.2 (Rat.le_of_lt (stretch_lt hu hm (hval _ x1) (hval _ y1) hs0 (.inr ⟨hv, hjn⟩)))
    · have hne := inR_ne h
      exact stretch_lt hu hm (hval _ y1) (hval _ x1) hs0 (.inl ⟨by grind, hjn⟩)
  rw [← x2]
  unfold rcm
  rw [betwP_yes hn h]
  have e : ∀ M : List Pt, cmpL o c i ++ valK o c i :: M = (cmpL o c i ++ [valK o c i]) ++ M := fun M => by simp
  rw [e (midL o c i (betwP (o.take n) (at' c i).2 (at' c (i + 1)).2))]
  split
  · rename_i hv
    rw [kinP_mid hL fun p hp => (hM p hp).1 hv, List.append_assoc]
    rfl
  · rename_i hv
    rw [kinP_end fun p hp => by
      rcases List.mem_append.1 hp with hp | hp
      · exact hL p hp
      · exact (hM p hp).2 hv]
    rw [midL_snoc, List.append_assoc, List.append_assoc]
    rfl
theorem rcm_all (hi : i + 1 < c.length) : rcm o c i o.length = cmpL o c (i + 1) := by
  unfold rcm
  rw [List.take_of_length_le (Nat.le_refl _)]
  simp only [cmpL]
  rw [if_pos hi]
  rfl
theorem rcm_last (hi : ¬ i + 1 < c.length) : rcm o c i 0 = cmpL o c (i + 1) := by
  rw [rcm_zero]
  simp only [cmpL]
  rw [if_neg hi]
theorem midG_of {l : List Pt} (h : ∀ k ∈ l, xG false (at' c i) (slP (at' c i) (at' c (i + 1))) k.1 = false) : midG c i l false = false := by
  induction l with
  | nil => rfl
  | cons k l ih =>
    unfold midG
    rw [List.foldl_cons, h k List.mem_cons_self]
    exact ih fun k hk => h k (List.mem_cons_of_mem _ hk)
theorem cmpG_next (ho : Valid o) (hc : Valid c) (hi : i < c.length) (hg : cmpG o c i = false) (hv : valOk o (at' c i).2) (ha : i + 1 < c.length → alAll o c i o.length) : cmpG o c (i + 1) = false := by
  have hvg : valG o c i (cmpG o c i) = false := by unfold valG; rw [hg]; exact (vP_ok ho hv false).2
  simp only [cmpG]
  rw [hvg]
  split
  · rename_i h
    rw [(slP_ok (hc.sl i h) (hc.up i h) false).2]
    have ha := ha h
    unfold alAll at ha
    rw [List.take_of_length_le (Nat.le_refl _)] at ha
    refine midG_of fun k hk => ?_
    have hk' : k ∈ betwP (o.take o.length) (at' c i).2 (at' c (i + 1)).2 := by rw [List.take_of_length_le (Nat.le_refl _)]; exact hk
    exact (al_x hc h (betwP_mem hk').1 (ha k hk)).1
  · rfl
theorem cmpG_dn {j : Nat} (h : cmpG o c j = false) (hij : i ≤ j) : cmpG o c i = false := by
  induction j with
  | zero => have : i = 0 := by omega
            subst this; exact h
  | succ j ih =>
    rcases Nat.lt_or_ge i (j + 1) with q | q
    · exact ih (cmpG_step h).1 (by omega)
    · have : i = j + 1 := by omega
      subst this; exact h
theorem cmpG_badV (ho : Valid o) (hi : i < c.length) (hv : ¬ valOk o (at' c i).2) : cmpG o c c.length = true := by
  cases h : cmpG o c c.length with
  | true => rfl
  | false =>
    exfalso
    have h1 := cmpG_dn (i := i + 1) h (by omega)
    have h2 := (cmpG_step h1).2.1
    unfold valG at h2
    rw [vG_bad ho hv] at h2
    cases h2
theorem cmpG_badA (hc : Valid c) (hi : i + 1 < c.length) (hn : n < o.length) (h : inR (at' c i).2 (at' c (i + 1)).2 (at' o n).1) (hk : ¬ alOk (at' c i) (at' c (i + 1)) (at' o n).1) : cmpG o c c.length = true := by
  cases hcp : cmpG o c c.length with
  | true => rfl
  | false =>
    exfalso
    have h1 := cmpG_dn (i := i + 1) hcp (by omega)
    obtain ⟨_, h2⟩ := midG_ok ((cmpG_step h1).2.2 hi)
    have hm : at' o n ∈ midK o c i := by
      have h3 : at' o n ∈ betwP (o.take (n + 1)) (at' c i).2 (at' c (i + 1)).2 := by
        rw [betwP_yes hn h]
        split <;> simp
      unfold midK
      unfold betwP betw at h3 ⊢
      split at h3
      · rw [if_pos (by assumption), List.mem_reverse, List.mem_filter] at *
        exact ⟨mem_at hn, h3.2⟩
      · rw [if_neg (by assumption), List.mem_filter] at *
        exact ⟨mem_at hn, h3.2⟩
    have h4 := h2 _ hm
    rw [(slP_ok (hc.sl i hi) (hc.up i hi) false).1] at h4
    rw [(xG_al (sl_ne (hc.up i hi) (inR_ne h)) false).2 hk] at h4
    cases h4
theorem rcm_len : (rcm o c i n).length ≤ (cmpL o c i).length + 1 + o.length := by
  unfold rcm
  rw [List.length_append, List.length_cons, midL_len]
  have : (betwP (o.take n) (at' c i).2 (at' c (i + 1)).2).length ≤ o.length := by
    unfold betwP
    split
    · rw [List.length_reverse]; have := betw_len (o.take n) (at' c (i + 1)).2 (at' c i).2; rw [List.length_take] at this; omega
    · have := betw_len (o.take n) (at' c i).2 (at' c (i + 1)).2; rw [List.length_take] at this; omega
  omega
theorem cmpL_len : ∀ {i : Nat}, (cmpL o c i).length ≤ i * (o.length + 1)
  | 0 => by simp [cmpL]
  | i + 1 => by
    have h1 := cmpL_len (i := i)
    have h2 := midK_len o c i
    simp only [cmpL, List.length_append, List.length_cons]
    rw [Nat.succ_mul]
    split
    · rw [midL_len]; omega
    · simp; omega
theorem rcm_sm (ho : Valid o) (hc : Valid c) (hi : i < c.length) : ∀ p ∈ rcm o c i n, sm p.1 ∧ sm p.2 := by
  intro p hp
  unfold rcm at hp
  rcases List.mem_append.1 hp with hp | hp
  · exact sm_cmpL ho hc (by omega) p hp
  · rcases List.mem_cons.1 hp with rfl | hp
    · exact ⟨(hc.sm i hi).1, sm_vP ho _⟩
    · unfold midL at hp
      obtain ⟨k, hk, rfl⟩ := List.mem_map.1 hp
      obtain ⟨_, j, _, b3, rfl⟩ := betwP_mem hk
      exact ⟨sm_cut _, (ho.sm j b3).2⟩
theorem compP_cu (ho : Valid o) (hc : Valid c) (hg : cmpG o c c.length = false) : (cuErr ((cmpL o c c.length).map raw) = 0 ∧ compP o c = some (cmpL o c c.length)) ∨ (cuErr ((cmpL o c c.length).map raw) ≠ 0 ∧ compP o c = none) := by
  by_cases h : cuErr ((cmpL o c c.length).map raw) = 0
  · refine .inl ⟨h, ?_⟩
    obtain ⟨hv, _⟩ := cuErr_ok h
    rw [map_toP_raw] at hv
    unfold compP
    rw [if_neg]
    rintro (h1 | h1 | h1)
    · rw [hg] at h1; cases h1
    · have := hv.few; omega
    · rw [slsG_of fun i hi => (slG_iff (hv.up i (by omega))).2 (hv.sl i (by omega))] at h1
      cases h1
  · refine .inr ⟨h, ?_⟩
    cases hcp : compP o c with
    | none => rfl
    | some l =>
      exfalso
      have h1 := (compP_some hcp).2.1
      have h2 := cuErr_valid (compP_valid ho hc hcp)
      rw [h1] at h2
      exact h h2
end
end Go.Proofs.YtbcjcbcakcdnfaaGreat
