import Derived.Test.YteogokmbedmkjaaF5
/- stores and new blocks -/
namespace Go.Proofs.Yteogokmbedmkjaa
open Go.RowKit

theorem splice_get {α : Type} (l v : List α) (p k : Nat) (h : p + v.length ≤ l.length) :
    (l.take p ++ v ++ l.drop (p + v.length))[k]? = if k < p then l[k]? else if k < p + v.length then v[k - p]? else l[k]? := by
  have h1 : (l.take p).length = p := by simp; omega
  by_cases hk : k < p
  · rw [if_pos hk, List.append_assoc, List.getElem?_append_left (by omega), List.getElem?_take_of_lt hk]
  · rw [if_neg hk]
    by_cases hk2 : k < p + v.length
    · rw [if_pos hk2, List.append_assoc, List.getElem?_append_right (by omega), h1, List.getElem?_append_left (by omega)]
    · rw [if_neg hk2, List.getElem?_append_right (by simp; omega), List.getElem?_drop]
      congr 1
      simp; omega

theorem After.of_push {w w' : World} {ρ : List Re} {m : Mem} (h : RelM w ρ m) (hb : Below w.heap.size w w') {g cap sz : Nat} {blk : Blk} (hg : w.heap.size ≤ g) (hM : RelM w' (ρ ++ [⟨g, cap, sz⟩]) (m ++ [blk])) :
    After w ρ m w' (ρ ++ [⟨g, cap, sz⟩]) (m ++ [blk]) :=
  ⟨Keep.of_below hb, fun _ _ h => prefix_get h, hM, fun k hk ho => (owned_snoc h.len ho).resolve_right (fun e => by subst e; exact absurd hg (Nat.not_le.2 hk)), fun k hk ho => (owned_snoc h.len ho).resolve_right (fun e => by subst e; exact absurd hg (Nat.not_le.2 hk))⟩

/-- a new block for one element -/
theorem new_sound {w : World} {ρ : List Re} {m : Mem} (h : RelM w ρ m) (T : TypeId) {x : Value} {cs : List V} (hl : cs.length = x.cells.size) (hp : 0 < cs.length)
    (hv : ∀ (j : Nat) c y, cs[j]? = some c → x.cells[j]? = some y → c.one = true ∧ y.oneCell' = true ∧ RelV w ρ (bad m ρ) c y) :
    After w ρ m (w.alloc (.cells x.cells T)) (ρ ++ [⟨w.heap.size, 1, cs.length⟩]) (m ++ [.cells .own T cs.length [cs]]) ∧
    RelV (w.alloc (.cells x.cells T)) (ρ ++ [⟨w.heap.size, 1, cs.length⟩]) (bad (m ++ [.cells .own T cs.length [cs]]) (ρ ++ [⟨w.heap.size, 1, cs.length⟩])) (.ptr m.length 0 0) (.pointer (some ⟨w.heap.size, 0, none⟩)) := by
  have hb : Below w.heap.size w (w.alloc (.cells x.cells T)) := (Below.refl _ _).alloc (Nat.le_refl _) _
  refine ⟨After.of_push h hb (Nat.le_refl _) (h.push hb w.heap.size 1 T cs.length [cs] x.cells (Nat.le_refl _) hp (heap_alloc_new w _) (by omega) (by simp) (by unfold maxLen; omega) (by simp) ?_), ?_⟩
  · intro i j e v h1 h2
    rcases i with _ | i
    · simp at h1
      subst h1
      have hj : j < x.cells.size := by rw [← hl]; exact (List.getElem?_eq_some_iff.1 h2).1
      have hy : x.cells[j]? = some (x.cells[j]) := Array.getElem?_eq_getElem hj
      obtain ⟨a1, _, a3⟩ := hv j v _ h2 hy
      exact ⟨a1, _, by rw [Nat.zero_mul, Nat.zero_add]; exact hy, a3⟩
    · simp at h1
  · have := RelV.ptr (w := w.alloc (.cells x.cells T)) (B := bad (m ++ [.cells .own T cs.length [cs]]) (ρ ++ [⟨w.heap.size, 1, cs.length⟩])) m.length 0 0 ⟨w.heap.size, 1, cs.length⟩ (ρ := ρ ++ [⟨w.heap.size, 1, cs.length⟩]) (by rw [← h.len]; simp)
    rw [Nat.zero_mul] at this
    exact this

theorem store_sound {P : Program} {w : World} {ρ : List Re} {m : Mem} (hM : RelM w ρ m) {b ty sz : Nat} {es : List (List V)} (hb : m[b]? = some (.cells .own ty sz es)) {r : Re} (hr : ρ[b]? = some r)
    {i o T : Nat} {e : List V} (he : es[i]? = some e) {v : V} {x : Value} {xs : List V} (hx : RelV w ρ (bad m ρ) v x) (hc : cellsV v = some xs) (hl : xs.length = szT P T) (hp : 0 < xs.length) (ho : o + xs.length ≤ sz) :
    ∃ w', (storeVar T ⟨r.blk, i * r.sz + o, none⟩ x).run P w = .ok () w' ∧ After w ρ m w' ρ (m.set b (.cells .own ty sz (es.set i (setAt e o xs)))) ∧ w'.heap.size = w.heap.size ∧ ∀ k, k ≠ r.blk → w'.heap[k]? = w.heap[k]? := by
  obtain ⟨r0, cur, k1, k2, k3, k4, k5, k6, k7, k8, k9⟩ := hM.cells b .own ty sz es hb
  rw [hr] at k1
  cases k1
  obtain ⟨c1, c2⟩ := cellsV_rel hx hc
  have hi : i < es.length := (List.getElem?_eq_some_iff.1 he).1
  have hesz : e.length = sz := k8 e (List.mem_of_getElem? he)
  have hmul : i * sz + sz ≤ r.cap * sz := by
    have : (i + 1) * sz ≤ r.cap * sz := Nat.mul_le_mul_right _ (by omega)
    rw [Nat.succ_mul] at this; exact this
  have hlen : x.cells.toList.length = xs.length := by simp [c1]
  have hfit : i * sz + o + x.cells.toList.length ≤ cur.toList.length := by simp [k5]; simp at hlen; omega
  have h1c : ∀ y ∈ x.cells.toList, y.oneCell' = true := by
    intro y hy
    obtain ⟨j, hj⟩ := List.getElem?_of_mem hy
    have hj' : x.cells[j]? = some y := by simpa using hj
    have hjl : j < xs.length := by rw [c1]; exact (Array.getElem?_eq_some_iff.1 hj').1
    exact (c2 j _ y (List.getElem?_eq_getElem hjl) hj').2.1
  have hrun := run_storeCells_at (P := P) r.blk (i * r.sz + o) ty x.cells.toList 0 cur w k4 (by rw [k2]; simpa using hfit) h1c
  rw [k2] at hrun
  simp only [Nat.add_zero] at hrun
  refine ⟨w.setRow r.blk (cur.toList.take (i * sz + o) ++ x.cells.toList ++ cur.toList.drop (i * sz + o + x.cells.toList.length)).toArray, ?_, ?_, by simp, fun k hne => setRow_other _ _ _ _ hne⟩
  · simp only [storeVar, Sem.run_bind, run_sizeOf (by omega : 0 < szT P T), Result.andThen_ok, k2]
    rw [if_neg (by simp; omega)]
    exact hrun
  · refine ⟨⟨rfl, rfl, rfl, by simp, fun k hk hn => setRow_other _ _ _ _ (fun e => hn ⟨b, _, r, hb, rfl, hr, e.symm⟩)⟩, fun _ _ h => h, ?_, fun k hk h => owned_set_cells (es' := es.set i (setAt e o xs)) hb rfl h, fun k hk h => owned_set_cells (p := Blk.bad) (es' := es.set i (setAt e o xs)) hb rfl h⟩
    refine hM.turn hb hr (cur.toList.take (i * sz + o) ++ x.cells.toList ++ cur.toList.drop (i * sz + o + x.cells.toList.length)).toArray (by simp) (fun k hk hne => setRow_other _ _ _ _ hne) (setRow_heap _ _ _ _ _ _ k4) ?_ (by simpa using k6) ?_ ?_
    · simp at hfit hlen ⊢; omega
    · intro e' he'
      rcases List.mem_or_eq_of_mem_set he' with h | h
      · exact k8 e' h
      · subst h
        simp [setAt]; omega
    · intro i' j e' v' a1 a2
      have hget : ∀ q, (cur.toList.take (i * sz + o) ++ x.cells.toList ++ cur.toList.drop (i * sz + o + x.cells.toList.length)).toArray[q]? = if q < i * sz + o then cur[q]? else if q < i * sz + o + xs.length then x.cells[q - (i * sz + o)]? else cur[q]? := by
        intro q
        have := splice_get cur.toList x.cells.toList (i * sz + o) q hfit
        rw [hlen] at this
        simpa [hlen] using this
      rw [List.getElem?_set] at a1
      by_cases hii : i = i'
      · subst hii
        rw [if_pos rfl, if_pos hi] at a1
        cases a1
        unfold setAt at a2
        rw [splice_get e xs o j (by omega)] at a2
        by_cases q1 : j < o
        · rw [if_pos q1] at a2
          obtain ⟨b1, y, b2, b3⟩ := k9 i j e v' he a2
          exact ⟨b1, y, by rw [hget, if_pos (by omega)]; exact b2, b3⟩
        · rw [if_neg q1] at a2
          by_cases q2 : j < o + xs.length
          · rw [if_pos q2] at a2
            have hjs : j - o < x.cells.size := by omega
            have hy : x.cells[j - o]? = some (x.cells[j - o]) := Array.getElem?_eq_getElem hjs
            obtain ⟨b1, b2, b3⟩ := c2 (j - o) v' _ a2 hy
            refine ⟨b1, x.cells[j - o], ?_, b3⟩
            rw [hget, if_neg (by omega), if_pos (by omega), ← hy]
            congr 1; omega
          · rw [if_neg q2] at a2
            obtain ⟨b1, y, b2, b3⟩ := k9 i j e v' he a2
            exact ⟨b1, y, by rw [hget, if_neg (by omega), if_neg (by omega)]; exact b2, b3⟩
      · rw [if_neg hii] at a1
        obtain ⟨b1, y, b2, b3⟩ := k9 i' j e' v' a1 a2
        have hj : j < sz := by
          have := (List.getElem?_eq_some_iff.1 a2).1
          rw [k8 e' (List.mem_of_getElem? a1)] at this; exact this
        refine ⟨b1, y, ?_, b3⟩
        rw [hget]
        rcases Nat.lt_or_ge i' i with h | h
        · have : (i' + 1) * sz ≤ i * sz := Nat.mul_le_mul_right _ h
          rw [Nat.succ_mul] at this
          rw [if_pos (by omega)]; exact b2
        · have : (i + 1) * sz ≤ i' * sz := Nat.mul_le_mul_right _ (by omega)
          rw [Nat.succ_mul] at this
          rw [if_neg (by omega), if_neg (by omega)]; exact b2
end Go.Proofs.Yteogokmbedmkjaa
