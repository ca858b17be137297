/- who disturbs whom, and the sort of pairs: the plain reading -/
import Derived.Test.YtaoakololkcepaaBS
import Derived.Test.YtaoakololkcepaaBF
set_option linter.unusedSimpArgs false
set_option linter.unusedVariables false
namespace Go.Proofs.Ytaoakololkcepaa
open Go.RowKit
abbrev Pr := Nat × Nat
def pr0 : Pr := (0, 0)
def prV (p : Pr) : List V := [.int .i64 (p.1 : Int), .int .i64 (p.2 : Int)]
def prsV (l : List Pr) : List (List V) := l.map prV
theorem prsV_length {l : List Pr} : (prsV l).length = l.length := by simp [prsV]
theorem prsV_snoc (l : List Pr) (p : Pr) : prsV (l ++ [p]) = prsV l ++ [prV p] := by simp [prsV]
theorem prsV_get {l : List Pr} {i : Nat} (h : i < l.length) : (prsV l)[i]? = some (prV (l.getD i pr0)) := by
  unfold prsV; rw [List.getElem?_map, List.getD_eq_getElem?_getD, List.getElem?_eq_getElem h]; rfl
theorem prsV_set {l : List Pr} {i : Nat} {p : Pr} : (prsV l).set i (prV p) = prsV (l.set i p) := by simp [prsV, List.map_set]
theorem prsV_flat (l : List Pr) : (prsV l).all flatL = true := by
  rw [List.all_eq_true]
  intro e he
  obtain ⟨p, _, rfl⟩ := List.mem_map.1 he
  rfl
theorem prsV_pl (l : List Pr) : (prsV l).all plainL = true := by
  rw [List.all_eq_true]
  intro e he
  obtain ⟨p, _, rfl⟩ := List.mem_map.1 he
  rfl
theorem prsV_plain (l : List Pr) : plainLL (prsV l) = true := plainLL_of fun e he => by
  obtain ⟨p, _, rfl⟩ := List.mem_map.1 he
  rfl
/-! pairs by their first numbers, then by their second ones -/
def leP (p q : Pr) : Prop := p.1 < q.1 ∨ (p.1 = q.1 ∧ p.2 ≤ q.2)
instance (p q : Pr) : Decidable (leP p q) := inferInstanceAs (Decidable (_ ∨ _))
theorem leP_tot {p q : Pr} (h : ¬ leP p q) : leP q p := by unfold leP at *; omega
theorem leP_trans {p q r : Pr} (h1 : leP p q) (h2 : leP q r) : leP p r := by unfold leP at *; omega
theorem leP_anti {p q : Pr} (h1 : leP p q) (h2 : leP q p) : p = q := by
  unfold leP at *
  exact Prod.ext (by omega) (by omega)
def cmpN (x y : Nat) : Int := if x < y then -1 else if y < x then 1 else 0
def cmpP (p q : Pr) : Int := if cmpN p.1 q.1 ≠ 0 then cmpN p.1 q.1 else cmpN p.2 q.2
theorem cmpP_lt {p q : Pr} : cmpP p q < 0 ↔ ¬ leP q p := by
  unfold cmpP cmpN leP
  (repeat' split) <;> omega
/-- the first i pairs are in order -/
def srtI (l cur : List Pr) (i : Nat) : Prop := cur.Perm l ∧ ∀ a c, a < c → c < i → leP (cur.getD a pr0) (cur.getD c pr0)
/-- the pair with number i is on its way, at j -/
def srtJ (l cur : List Pr) (i j : Nat) : Prop := cur.Perm l ∧ (∀ a c, a < c → c ≤ i → a ≠ j → c ≠ j → leP (cur.getD a pr0) (cur.getD c pr0)) ∧ ∀ c, j < c → c ≤ i → leP (cur.getD j pr0) (cur.getD c pr0)
def swpP (cur : List Pr) (j : Nat) : List Pr := (cur.set (j + 1) (cur.getD j pr0)).set j (cur.getD (j + 1) pr0)
theorem srtI_one (l : List Pr) : srtI l l 1 := ⟨List.Perm.refl _, fun a c h1 h2 => by omega⟩
theorem srtJ_start {l cur : List Pr} {i : Nat} (h : srtI l cur i) : srtJ l cur i i := ⟨h.1, fun a c h1 h2 h3 h4 => h.2 a c h1 (by omega), fun c h1 h2 => by omega⟩
theorem srtJ_zero {l cur : List Pr} {i : Nat} (h : srtJ l cur i 0) : srtI l cur (i + 1) := ⟨h.1, fun a c h1 h2 => by
  by_cases ha : a = 0
  · subst ha; exact h.2.2 c h1 (by omega)
  · exact h.2.1 a c h1 (by omega) ha (by omega)⟩
theorem srtJ_stop {l cur : List Pr} {i j : Nat} (h : srtJ l cur i (j + 1)) (hj : j + 1 ≤ i) (hle : leP (cur.getD j pr0) (cur.getD (j + 1) pr0)) : srtI l cur (i + 1) := ⟨h.1, fun a c h1 h2 => by
  by_cases ha : a = j + 1
  · subst ha; exact h.2.2 c h1 (by omega)
  · by_cases hc : c = j + 1
    · subst hc
      by_cases haj : a = j
      · subst haj; exact hle
      · exact leP_trans (h.2.1 a j (by omega) (by omega) ha (by omega)) hle
    · exact h.2.1 a c h1 (by omega) ha hc⟩
theorem getD_setP (l : List Pr) (k i : Nat) (v : Pr) : (l.set k v).getD i pr0 = if i = k ∧ k < l.length then v else l.getD i pr0 := by
  rw [List.getD_eq_getElem?_getD, List.getElem?_set, List.getD_eq_getElem?_getD]
  by_cases h : k = i
  · subst h
    by_cases h2 : k < l.length
    · rw [if_pos rfl, if_pos h2, if_pos ⟨rfl, h2⟩]; rfl
    · rw [if_pos rfl, if_neg h2, if_neg (fun h => h2 h.2), List.getElem?_eq_none (by omega)]
  · rw [if_neg h, if_neg (fun h2 => h h2.1.symm)]
theorem swpP_get {cur : List Pr} {j i : Nat} (hj : j + 1 < cur.length) : (swpP cur j).getD i pr0 = if i = j then cur.getD (j + 1) pr0 else if i = j + 1 then cur.getD j pr0 else cur.getD i pr0 := by
  unfold swpP
  rw [getD_setP, getD_setP, List.length_set]
  by_cases h1 : i = j
  · rw [if_pos ⟨h1, by omega⟩, if_pos h1]
  · rw [if_neg (fun h => h1 h.1), if_neg h1]
    by_cases h2 : i = j + 1
    · rw [if_pos ⟨h2, by omega⟩, if_pos h2]
    · rw [if_neg (fun h => h2 h.1), if_neg h2]
theorem swpP_perm {cur : List Pr} {j : Nat} (hj : j + 1 < cur.length) : (swpP cur j).Perm cur := by
  have h := @List.set_set_perm _ cur (j + 1) j hj (by omega)
  unfold swpP
  rw [List.getD_eq_getElem?_getD, List.getElem?_eq_getElem (show j < cur.length by omega), List.getD_eq_getElem?_getD, List.getElem?_eq_getElem hj]
  exact h
theorem srtJ_step {l cur : List Pr} {i j : Nat} (h : srtJ l cur i (j + 1)) (hj : j + 1 ≤ i) (hi : i < cur.length) (hlt : ¬ leP (cur.getD j pr0) (cur.getD (j + 1) pr0)) : srtJ l (swpP cur j) i j := by
  have hg := fun i => swpP_get (cur := cur) (j := j) (i := i) (by omega)
  obtain ⟨h1, h2, h3⟩ := h
  refine ⟨(swpP_perm (by omega)).trans h1, fun a c hac hci ha hc => ?_, fun c hjc hci => ?_⟩
  · rw [hg, hg, if_neg ha, if_neg hc]
    by_cases ha1 : a = j + 1
    · rw [if_pos ha1, if_neg (by omega)]
      exact h2 j c (by omega) hci (by omega) (by omega)
    · rw [if_neg ha1]
      by_cases hc1 : c = j + 1
      · rw [if_pos hc1]
        exact h2 a j (by omega) (by omega) ha1 (by omega)
      · rw [if_neg hc1]
        exact h2 a c hac hci ha1 hc1
  · rw [hg, hg, if_pos rfl, if_neg (by omega)]
    by_cases hc1 : c = j + 1
    · rw [if_pos hc1]; exact leP_tot hlt
    · rw [if_neg hc1]; exact h3 c (by omega) hci
theorem srtI_end {l cur T : List Pr} (h : srtI l cur cur.length) (hp : T.Perm l) (hs : T.Pairwise leP) : cur = T := by
  refine List.Perm.eq_of_pairwise (le := leP) (fun a b _ _ h1 h2 => leP_anti h1 h2) ?_ hs (h.1.trans hp.symm)
  rw [List.pairwise_iff_getElem]
  intro a c ha hc hac
  have := h.2 a c hac hc
  rwa [List.getD_eq_getElem?_getD, List.getElem?_eq_getElem ha, List.getD_eq_getElem?_getD, List.getElem?_eq_getElem hc] at this
/-! who disturbs whom -/
def dstB (b : BnR) (i k : Nat) : Bool := decide (0 ≤ mainL b.ms (b.ads.getD k adz).effs ∧ byN b i (mainL b.ms (b.ads.getD k adz).effs).toNat ≠ 0)
def dsR (b : BnR) (o : List Nat) (i j : Nat) : List Pr := ((o.take j).filter (dstB b (o.getD i 0))).map fun k => (o.getD i 0, k)
def dsK (b : BnR) (o : List Nat) (i : Nat) : List Pr := (List.range i).flatMap fun i => dsR b o i i
theorem dsR_succ {b : BnR} {o : List Nat} {i j : Nat} (h : j < o.length) : dsR b o i (j + 1) = if dstB b (o.getD i 0) (o.getD j 0) = true then dsR b o i j ++ [(o.getD i 0, o.getD j 0)] else dsR b o i j := by
  unfold dsR
  have e : o.getD j 0 = o[j] := by rw [List.getD_eq_getElem?_getD, List.getElem?_eq_getElem h]; rfl
  rw [List.take_succ_eq_append_getElem h, List.filter_append, List.map_append, e]
  by_cases hd : dstB b (o.getD i 0) o[j] = true
  · rw [if_pos hd, List.filter_cons_of_pos hd]; rfl
  · rw [if_neg hd, List.filter_cons_of_neg hd]; simp
theorem dsK_succ (b : BnR) (o : List Nat) (i : Nat) : dsK b o (i + 1) = dsK b o i ++ dsR b o i i := by
  unfold dsK; rw [List.range_succ, List.flatMap_append]; simp
theorem dsR_len (b : BnR) (o : List Nat) (i j : Nat) : (dsR b o i j).length ≤ j := by
  unfold dsR
  rw [List.length_map]
  have := List.length_filter_le (dstB b (o.getD i 0)) (o.take j)
  rw [List.length_take] at this
  omega
theorem dsK_len (b : BnR) (o : List Nat) : ∀ i, 2 * (dsK b o i).length + i ≤ i * i
  | 0 => by simp [dsK]
  | i + 1 => by
    have ih := dsK_len b o i
    have h := dsR_len b o i i
    have e : (i + 1) * (i + 1) = i * i + 2 * i + 1 := by grind
    rw [dsK_succ, List.length_append, e]
    omega
def dqR (b : BnR) (o : List Nat) (i k : Nat) : List Pr := ((List.range k).filter fun k => decide (o.idxOf k < o.idxOf i) && dstB b i k).map fun k => (i, k)
def dqK (b : BnR) (o : List Nat) (i : Nat) : List Pr := (List.range i).flatMap fun i => dqR b o i o.length
theorem dqR_succ (b : BnR) (o : List Nat) (i k : Nat) : dqR b o i (k + 1) = if o.idxOf k < o.idxOf i ∧ dstB b i k = true then dqR b o i k ++ [(i, k)] else dqR b o i k := by
  unfold dqR
  rw [List.range_succ, List.filter_append, List.map_append]
  by_cases h : o.idxOf k < o.idxOf i ∧ dstB b i k = true
  · rw [if_pos h]; simp [h.1, h.2]
  · rw [if_neg h]
    have : (decide (o.idxOf k < o.idxOf i) && dstB b i k) = false := by
      rw [Bool.eq_false_iff]
      intro hh
      rw [Bool.and_eq_true, decide_eq_true_eq] at hh
      exact h hh
    simp [this]
theorem dqK_succ (b : BnR) (o : List Nat) (i : Nat) : dqK b o (i + 1) = dqK b o i ++ dqR b o i o.length := by
  unfold dqK; rw [List.range_succ, List.flatMap_append]; simp
theorem dqR_len (b : BnR) (o : List Nat) (i k : Nat) : (dqR b o i k).length ≤ k := by
  unfold dqR
  rw [List.length_map]
  have := List.length_filter_le (fun k => decide (o.idxOf k < o.idxOf i) && dstB b i k) (List.range k)
  rw [List.length_range] at this
  exact this
theorem dqK_len (b : BnR) (o : List Nat) : ∀ i, (dqK b o i).length ≤ i * o.length
  | 0 => by simp [dqK]
  | i + 1 => by
    have ih := dqK_len b o i
    have h := dqR_len b o i o.length
    rw [dqK_succ, List.length_append, Nat.succ_mul]
    omega
theorem mem_dsR {b : BnR} {o : List Nat} {i j : Nat} {p : Pr} : p ∈ dsR b o i j ↔ p.1 = o.getD i 0 ∧ p.2 ∈ o.take j ∧ dstB b (o.getD i 0) p.2 = true := by
  unfold dsR
  rw [List.mem_map]
  constructor
  · rintro ⟨k, hk, rfl⟩
    rw [List.mem_filter] at hk
    exact ⟨rfl, hk.1, hk.2⟩
  · rintro ⟨h1, h2, h3⟩
    exact ⟨p.2, List.mem_filter.2 ⟨h2, h3⟩, Prod.ext h1.symm rfl⟩
theorem mem_dqR {b : BnR} {o : List Nat} {i k : Nat} {p : Pr} : p ∈ dqR b o i k ↔ p.1 = i ∧ p.2 < k ∧ o.idxOf p.2 < o.idxOf i ∧ dstB b i p.2 = true := by
  unfold dqR
  rw [List.mem_map]
  constructor
  · rintro ⟨k', hk, rfl⟩
    rw [List.mem_filter, List.mem_range, Bool.and_eq_true, decide_eq_true_eq] at hk
    exact ⟨rfl, hk.1, hk.2⟩
  · rintro ⟨h1, h2, h3, h4⟩
    exact ⟨p.2, List.mem_filter.2 ⟨List.mem_range.2 h2, by rw [Bool.and_eq_true, decide_eq_true_eq]; exact ⟨h3, h4⟩⟩, Prod.ext h1.symm rfl⟩
theorem dqK_srt (b : BnR) (o : List Nat) (n : Nat) : (dqK b o n).Pairwise leP := by
  unfold dqK
  rw [List.pairwise_flatMap]
  refine ⟨fun i _ => ?_, ?_⟩
  · unfold dqR
    rw [List.pairwise_map]
    exact (List.pairwise_lt_range (n := o.length)).filter _ |>.imp fun h => .inr ⟨rfl, Nat.le_of_lt h⟩
  · exact (List.pairwise_lt_range (n := n)).imp fun h x hx y hy => .inl (by rw [(mem_dqR.1 hx).1, (mem_dqR.1 hy).1]; exact h)
theorem dqK_nd (b : BnR) (o : List Nat) (n : Nat) : (dqK b o n).Nodup := by
  unfold dqK List.Nodup
  rw [List.pairwise_flatMap]
  refine ⟨fun i _ => ?_, ?_⟩
  · unfold dqR
    rw [List.pairwise_map]
    exact (List.pairwise_lt_range (n := o.length)).filter _ |>.imp fun h e => by injection e; omega
  · exact (List.pairwise_lt_range (n := n)).imp fun h x hx y hy e => by
      have := (mem_dqR.1 hx).1
      have := (mem_dqR.1 hy).1
      subst e
      omega
theorem nd_getD {o : List Nat} (h : o.Nodup) {i j : Nat} (hi : i < o.length) (hj : j < o.length) (e : o.getD i 0 = o.getD j 0) : i = j := by
  rw [List.getD_eq_getElem?_getD, List.getElem?_eq_getElem hi, List.getD_eq_getElem?_getD, List.getElem?_eq_getElem hj] at e
  exact (List.getElem_inj h).1 e
theorem dsK_nd (b : BnR) {o : List Nat} (ho : o.Nodup) : ∀ n, n ≤ o.length → (dsK b o n).Nodup := by
  intro n hn
  unfold dsK List.Nodup
  rw [List.pairwise_flatMap]
  refine ⟨fun i _ => ?_, ?_⟩
  · unfold dsR
    rw [List.pairwise_map]
    have h1 : ((o.take i).filter (dstB b (o.getD i 0))).Pairwise (· ≠ ·) := (List.Pairwise.take ho).filter _
    exact h1.imp fun h e => by injection e with _ e2; exact h e2
  · rw [List.pairwise_iff_getElem]
    intro a c ha hc hac x hx y hy e
    rw [List.getElem_range] at hx hy
    rw [List.length_range] at ha hc
    have h1 := (mem_dsR.1 hx).1
    have h2 := (mem_dsR.1 hy).1
    subst e
    have := nd_getD ho (by omega) (by omega) (h1.symm.trans h2)
    omega
theorem idx_getD {o : List Nat} (ho : o.Nodup) {i : Nat} (hi : i < o.length) : o.idxOf (o.getD i 0) = i := by
  rw [List.getD_eq_getElem?_getD, List.getElem?_eq_getElem hi]
  exact ho.idxOf_getElem i hi
theorem getD_idx {o : List Nat} {x : Nat} (h : x ∈ o) : o.getD (o.idxOf x) 0 = x := by
  rw [List.getD_eq_getElem?_getD, List.getElem?_eq_getElem (List.idxOf_lt_length_of_mem h)]
  exact List.getElem_idxOf _
theorem mem_takeI {o : List Nat} (ho : o.Nodup) {x i : Nat} (hi : i ≤ o.length) (hx : x ∈ o) : x ∈ o.take i ↔ o.idxOf x < i := by
  constructor
  · intro h
    obtain ⟨j, hj, rfl⟩ := List.getElem_of_mem h
    rw [List.length_take] at hj
    rw [List.getElem_take, ho.idxOf_getElem]
    omega
  · intro h
    have h2 := List.idxOf_lt_length_of_mem hx
    refine List.mem_take_iff_getElem.2 ⟨o.idxOf x, by omega, List.getElem_idxOf _⟩
theorem ds_perm (b : BnR) {o : List Nat} (ho : o.Nodup) (hl : ∀ x ∈ o, x < o.length) : (dqK b o o.length).Perm (dsK b o o.length) := by
  have hf := nodup_full ho hl (Nat.le_refl _)
  rw [List.perm_iff_count]
  intro p
  rw [(dqK_nd b o _).count, (dsK_nd b ho _ (Nat.le_refl _)).count]
  have key : p ∈ dqK b o o.length ↔ p ∈ dsK b o o.length := by
    unfold dqK dsK
    rw [List.mem_flatMap, List.mem_flatMap]
    constructor
    · rintro ⟨i, hi, hp⟩
      obtain ⟨h1, h2, h3, h4⟩ := mem_dqR.1 hp
      rw [List.mem_range] at hi
      have hio := hf i hi
      have hlt := List.idxOf_lt_length_of_mem hio
      refine ⟨o.idxOf i, List.mem_range.2 hlt, mem_dsR.2 ?_⟩
      rw [getD_idx hio]
      exact ⟨h1, (mem_takeI ho (by omega) (hf _ h2)).2 h3, h4⟩
    · rintro ⟨i, hi, hp⟩
      obtain ⟨h1, h2, h3⟩ := mem_dsR.1 hp
      rw [List.mem_range] at hi
      have hm : p.2 ∈ o := List.mem_of_mem_take h2
      have hg : o.getD i 0 ∈ o := by
        rw [List.getD_eq_getElem?_getD, List.getElem?_eq_getElem hi]; exact List.getElem_mem hi
      refine ⟨o.getD i 0, List.mem_range.2 (hl _ hg), mem_dqR.2 ⟨h1, hl _ hm, ?_, h3⟩⟩
      rw [idx_getD ho hi]
      exact (mem_takeI ho (by omega) hm).1 h2
  by_cases h : p ∈ dqK b o o.length
  · rw [if_pos h, if_pos (key.1 h)]
  · rw [if_neg h, if_neg (fun h2 => h (key.2 h2))]
/-- places in an order -/
def plcK (o : List Nat) (i : Nat) : List Int := (List.range o.length).map fun x => if x ∈ o.take i then (o.idxOf x : Int) else 0
theorem plcK_len (o : List Nat) (i : Nat) : (plcK o i).length = o.length := by simp [plcK]
theorem plcK_zero (o : List Nat) : nsV (plcK o 0) = List.replicate o.length [V.int .i64 0] := by
  unfold nsV plcK
  rw [List.map_map]
  refine List.ext_getElem (by simp) fun i h1 h2 => ?_
  simp
theorem plcK_succ {o : List Nat} (ho : o.Nodup) (hl : ∀ x ∈ o, x < o.length) {i : Nat} (hi : i < o.length) : (plcK o i).set (o.getD i 0) (i : Int) = plcK o (i + 1) := by
  have e : o.getD i 0 = o[i] := by rw [List.getD_eq_getElem?_getD, List.getElem?_eq_getElem hi]; rfl
  have hx := idx_getD ho hi
  rw [e] at hx ⊢
  refine List.ext_getElem (by simp [plcK]) fun j h1 h2 => ?_
  rw [List.getElem_set]
  simp only [plcK, List.getElem_map, List.getElem_range]
  rw [List.take_succ_eq_append_getElem hi]
  by_cases h : o[i] = j
  · rw [if_pos h, if_pos (List.mem_append.2 (.inr (List.mem_singleton.2 h.symm))), ← h, hx]
  · rw [if_neg h]
    by_cases hm : j ∈ o.take i
    · rw [if_pos hm, if_pos (List.mem_append.2 (.inl hm))]
    · rw [if_neg hm, if_neg]
      intro h3
      rcases List.mem_append.1 h3 with h3 | h3
      · exact hm h3
      · exact h (List.mem_singleton.1 h3).symm
theorem plcK_get {o : List Nat} (ho : o.Nodup) (hl : ∀ x ∈ o, x < o.length) {x : Nat} (hx : x < o.length) : (plcK o o.length).getD x 0 = (o.idxOf x : Int) := by
  have hm := nodup_full ho hl (Nat.le_refl _) x hx
  unfold plcK
  rw [rmap_get _ _ hx, if_pos (by rw [List.take_length]; exact hm)]
end Go.Proofs.Ytaoakololkcepaa
