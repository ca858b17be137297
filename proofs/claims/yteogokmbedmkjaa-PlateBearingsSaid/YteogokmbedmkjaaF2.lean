import Derived.Test.YteogokmbedmkjaaF1
/- how the call's memory turns: a new block, a store, a block given up -/
namespace Go.Proofs.Yteogokmbedmkjaa
open Go.RowKit

theorem RelM.lt {w : World} {ρ : List Re} {m : Mem} (h : RelM w ρ m) {k : Nat} (ho : bad m ρ k) : k < w.heap.size := by
  obtain ⟨b, blk, r, hb, hd, hr, rfl⟩ := ho
  cases blk with
  | cells wr ty sz es =>
    obtain ⟨r', cur, hr', _, _, hh, _⟩ := h.cells b wr ty sz es hb
    rw [hr] at hr'
    cases hr'
    rcases Nat.lt_or_ge r.blk w.heap.size with hlt | hge
    · exact hlt
    · rw [Array.getElem?_eq_none hge] at hh; cases hh
  | map kt et es => exact (h.maps b kt et es hb).elim
  | dead => simp [Blk.bad] at hd

theorem heap_lt {w : World} {k : Nat} {o : Obj} (h : w.heap[k]? = some o) : k < w.heap.size := by
  rcases Nat.lt_or_ge k w.heap.size with hlt | hge
  · exact hlt
  · rw [Array.getElem?_eq_none hge] at h; cases h

theorem RelM.mono {w w' : World} {ρ : List Re} {m : Mem} (h : RelM w ρ m) (hb : Below w.heap.size w w') : RelM w' ρ m where
  len := h.len
  cells := fun b wr ty sz es hm => by
    obtain ⟨r, cur, h1, h2, h3, h4, h5, h6, h7, h8, h9⟩ := h.cells b wr ty sz es hm
    refine ⟨r, cur, h1, h2, h3, (hb.block _ (heap_lt h4)).trans h4, h5, h6, h7, h8, fun i j e v a1 a2 => ?_⟩
    obtain ⟨b1, y, b2, b3⟩ := h9 i j e v a1 a2
    exact ⟨b1, y, b2, b3.mono hb.size (fun k hk _ => hb.block k hk) (fun _ _ h => h) (fun _ _ h => h)⟩
  inj := h.inj
  maps := h.maps

theorem RelM.nil (w : World) : RelM w [] [] :=
  ⟨rfl, fun b wr ty sz es h => by simp at h, fun b b' blk blk' r r' h => by simp at h, fun b kt et es h => by simp at h⟩

theorem owned_nil {p : Blk → Bool} (k : Nat) : ¬ has p [] [] k := by rintro ⟨b, blk, r, h, _⟩; simp at h

theorem owned_snoc {p : Blk → Bool} {m : Mem} {ρ : List Re} {blk : Blk} {r : Re} (hl : ρ.length = m.length) {k : Nat} (h : has p (m ++ [blk]) (ρ ++ [r]) k) : has p m ρ k ∨ k = r.blk := by
  obtain ⟨b, blk', r', h1, h2, h3, h4⟩ := h
  rcases Nat.lt_or_ge b m.length with hlt | hge
  · rw [List.getElem?_append_left hlt] at h1
    rw [List.getElem?_append_left (by omega)] at h3
    exact .inl ⟨b, blk', r', h1, h2, h3, h4⟩
  · rw [List.getElem?_append_right hge] at h1
    rw [List.getElem?_append_right (by omega)] at h3
    rw [hl] at h3
    rcases hb : b - m.length with _ | q
    · rw [hb] at h1 h3
      simp at h1 h3
      subst h3
      exact .inr h4.symm
    · rw [hb] at h1
      simp at h1

theorem prefix_get {ρ : List Re} {r : Re} {b : Nat} {q : Re} (h : ρ[b]? = some q) : (ρ ++ [r])[b]? = some q := by
  rw [List.getElem?_append_left (List.getElem?_eq_some_iff.1 h).1]
  exact h

/-- a new block of the call's own -/
theorem RelM.push {w w' : World} {ρ : List Re} {m : Mem} (h : RelM w ρ m) (hb : Below w.heap.size w w') (g cap ty sz : Nat) (es : List (List V)) (cur : Array Value) (hg : w.heap.size ≤ g)
    (hs : 0 < sz) (hh : w'.heap[g]? = some (.cells cur ty (0, 0))) (hc : cur.size = cap * sz) (he : es.length ≤ cap) (hcm : cap ≤ maxLen) (hes : ∀ e ∈ es, e.length = sz)
    (hv : ∀ (i j : Nat) e v, es[i]? = some e → e[j]? = some v → v.one = true ∧ ∃ y, cur[i * sz + j]? = some y ∧ RelV w ρ (bad m ρ) v y) :
    RelM w' (ρ ++ [⟨g, cap, sz⟩]) (m ++ [Blk.cells .own ty sz es]) := by
  have hlt : g < w'.heap.size := by
    rcases Nat.lt_or_ge g w'.heap.size with hlt | hge
    · exact hlt
    · rw [Array.getElem?_eq_none hge] at hh; cases hh
  have h' := h.mono hb
  have hOld : ∀ {v : V} {x : Value}, RelV w ρ (bad m ρ) v x → RelV w' (ρ ++ [⟨g, cap, sz⟩]) (bad (m ++ [.cells .own ty sz es]) (ρ ++ [⟨g, cap, sz⟩])) v x := fun hr =>
    hr.mono hb.size (fun k hk _ => hb.block k hk) (fun k hk ho => (owned_snoc h.len ho).resolve_right (fun e => by simp at e; omega)) (fun b r hr => prefix_get hr)
  refine ⟨by simp [h.len], fun b wr' ty' sz' es' hm => ?_, fun b b' blk blk' r r' h1 h2 h3 h4 h5 h6 h7 => ?_, fun b kt et es' hm => ?_⟩
  · rcases Nat.lt_or_ge b m.length with hlt' | hge
    · rw [List.getElem?_append_left hlt'] at hm
      obtain ⟨r, cur', g1, g2, g3, g4, g5, g6, g7, g8, g9⟩ := h.cells b wr' ty' sz' es' hm
      refine ⟨r, cur', prefix_get g1, g2, g3, (hb.block _ (heap_lt g4)).trans g4, g5, g6, g7, g8, fun i j e v a1 a2 => ?_⟩
      obtain ⟨b1, y, b2, b3⟩ := g9 i j e v a1 a2
      exact ⟨b1, y, b2, hOld b3⟩
    · rw [List.getElem?_append_right hge] at hm
      rcases hbm : b - m.length with _ | q
      · rw [hbm] at hm
        simp at hm
        obtain ⟨rfl, rfl, rfl, rfl⟩ := hm
        refine ⟨⟨g, cap, sz⟩, cur, ?_, rfl, hs, hh, hc, he, hcm, hes, fun i j e v a1 a2 => ?_⟩
        · have hle : ρ.length ≤ b := by have := h.len; omega
          rw [List.getElem?_append_right hle, h.len, hbm]; rfl
        · obtain ⟨b1, y, b2, b3⟩ := hv i j e v a1 a2
          exact ⟨b1, y, b2, hOld b3⟩
      · rw [hbm] at hm
        simp at hm
  · have key : ∀ (c : Nat) (blk : Blk) (r : Re), (m ++ [Blk.cells .own ty sz es])[c]? = some blk → blk ≠ Blk.dead → (ρ ++ [⟨g, cap, sz⟩])[c]? = some r → (c < m.length ∧ m[c]? = some blk ∧ ρ[c]? = some r ∧ r.blk < w.heap.size) ∨ (c = m.length ∧ r.blk = g) := by
      intro c blk r k1 k2 k3
      rcases Nat.lt_or_ge c m.length with hlt' | hge
      · rw [List.getElem?_append_left hlt'] at k1
        rw [List.getElem?_append_left (by rw [h.len]; exact hlt')] at k3
        refine .inl ⟨hlt', k1, k3, ?_⟩
        cases blk with
        | cells wr0 ty0 sz0 es0 =>
          obtain ⟨r', cur', g1, _, _, g4, _⟩ := h.cells c wr0 ty0 sz0 es0 k1
          rw [k3] at g1
          cases g1
          exact heap_lt g4
        | map kt et es0 => exact (h.maps c kt et es0 k1).elim
        | dead => exact (k2 rfl).elim
      · rw [List.getElem?_append_right hge] at k1
        rw [List.getElem?_append_right (by rw [h.len]; exact hge), h.len] at k3
        rcases hbm : c - m.length with _ | q
        · rw [hbm] at k3
          simp at k3
          subst k3
          exact .inr ⟨by omega, rfl⟩
        · rw [hbm] at k1
          simp at k1
    have hd4 : blk' ≠ Blk.dead := fun e => by subst e; simp [Blk.bad] at h4
    rcases key b blk r h1 h2 h5 with ⟨a1, a2, a3, a4⟩ | ⟨a1, a2⟩ <;> rcases key b' blk' r' h3 hd4 h6 with ⟨c1, c2, c3, c4⟩ | ⟨c1, c2⟩
    · exact h.inj b b' blk blk' r r' a2 h2 c2 h4 a3 c3 h7
    · omega
    · omega
    · omega
  · rcases Nat.lt_or_ge b m.length with hlt' | hge
    · rw [List.getElem?_append_left hlt'] at hm; exact h.maps b kt et es' hm
    · rw [List.getElem?_append_right hge] at hm
      rcases hbm : b - m.length with _ | q <;> rw [hbm] at hm <;> simp at hm

/-- a block that is given up, or read from now on alone -/
theorem owned_demote {p : Blk → Bool} {m : Mem} {ρ : List Re} {b k : Nat} {blk0 : Blk} (h0 : p blk0 = false) (h : has p (m.set b blk0) ρ k) : has p m ρ k := by
  obtain ⟨c, blk, r, h1, h2, h3, h4⟩ := h
  rw [List.getElem?_set] at h1
  split at h1
  · split at h1
    · simp at h1; subst h1; rw [h0] at h2; cases h2
    · cases h1
  · exact ⟨c, blk, r, h1, h2, h3, h4⟩

/-- what is given up, or read from now on alone, is owned no more -/
theorem not_owned {w : World} {ρ : List Re} {m : Mem} (h : RelM w ρ m) {b : Nat} {blk : Blk} {r : Re} (hb : m[b]? = some blk) (hd : blk ≠ .dead) (hr : ρ[b]? = some r) {blk0 : Blk} (h0 : blk0.bad = false) : ¬ bad (m.set b blk0) ρ r.blk := by
  rintro ⟨c, blk', r', h1, h2, h3, h4⟩
  rw [List.getElem?_set] at h1
  by_cases hne : b = c
  · rw [if_pos hne] at h1
    split at h1
    · cases h1; rw [h0] at h2; cases h2
    · cases h1
  · rw [if_neg hne] at h1
    exact hne (h.inj b c blk blk' r r' hb hd h1 h2 hr h3 h4.symm)

theorem RelM.demote {w : World} {ρ : List Re} {m : Mem} (h : RelM w ρ m) (b : Nat) (blk0 : Blk) (h0 : blk0 = .dead ∨ ∃ st ty sz es, m[b]? = some (.cells st ty sz es) ∧ blk0 = .cells .ro ty sz es) : RelM w ρ (m.set b blk0) := by
  have ho : blk0.bad = false := by
    rcases h0 with rfl | ⟨wr, ty, sz, es, _, rfl⟩ <;> rfl
  have get : ∀ {c : Nat} {blk : Blk}, (m.set b blk0)[c]? = some blk → blk ≠ .dead → ∃ blk1, m[c]? = some blk1 ∧ blk1 ≠ .dead ∧ (blk.bad = true → blk = blk1) ∧ (∀ wr ty sz es, blk = .cells wr ty sz es → ∃ wr', blk1 = .cells wr' ty sz es) ∧ (∀ kt et es, blk = .map kt et es → blk1 = blk) := by
    intro c blk h1 h2
    rw [List.getElem?_set] at h1
    split at h1
    · rename_i e
      subst e
      split at h1
      · simp at h1
        subst h1
        rcases h0 with rfl | ⟨wr, ty, sz, es, hm, rfl⟩
        · exact (h2 rfl).elim
        · exact ⟨_, hm, by simp, by simp [Blk.bad], fun wr' ty' sz' es' e => (by cases e; exact ⟨_, rfl⟩), by simp⟩
      · cases h1
    · exact ⟨blk, h1, h2, fun _ => rfl, fun wr' ty' sz' es' e => ⟨_, e⟩, fun _ _ _ _ => rfl⟩
  refine ⟨by simp [h.len], fun c wr ty sz es hm => ?_, fun c c' blk blk' r r' h1 h2 h3 h4 h5 h6 h7 => ?_, fun c kt et es hm => ?_⟩
  · obtain ⟨blk1, q1, q2, q3, q4, q5⟩ := get hm (by simp)
    obtain ⟨wr', rfl⟩ := q4 wr ty sz es rfl
    obtain ⟨r, cur, g1, g2, g3, g4, g5, g6, g7, g8, g9⟩ := h.cells c wr' ty sz es q1
    refine ⟨r, cur, g1, g2, g3, g4, g5, g6, g7, g8, fun i j e v a1 a2 => ?_⟩
    obtain ⟨b1, y, b2, b3⟩ := g9 i j e v a1 a2
    exact ⟨b1, y, b2, b3.mono (Nat.le_refl _) (fun _ _ _ => rfl) (fun k _ ho' => owned_demote ho ho') (fun _ _ h => h)⟩
  · obtain ⟨b1, q1, q2, q3, q4, q5⟩ := get h1 h2
    obtain ⟨b2, p1, p2, p3, p4, p5⟩ := get h3 (fun e => by subst e; simp [Blk.bad] at h4)
    rw [p3 h4] at h4
    exact h.inj c c' b1 b2 r r' q1 q2 p1 h4 h5 h6 h7
  · obtain ⟨blk1, q1, q2, q3, q4, q5⟩ := get hm (by simp)
    rw [q5 kt et es rfl] at q1
    exact h.maps c kt et es q1

theorem owned_set_cells {p : Blk → Bool} {m : Mem} {ρ : List Re} {b ty sz : Nat} {es es' : List (List V)} (hb : m[b]? = some (.cells .own ty sz es)) (hp : p (.cells .own ty sz es) = p (.cells .own ty sz es')) {k : Nat} (h : has p (m.set b (.cells .own ty sz es')) ρ k) : has p m ρ k := by
  obtain ⟨c, blk, r, h1, h2, h3, h4⟩ := h
  rw [List.getElem?_set] at h1
  split at h1
  · rename_i e
    subst e
    split at h1
    · simp at h1; subst h1; exact ⟨b, _, r, hb, hp.trans h2, h3, h4⟩
    · cases h1
  · exact ⟨c, blk, r, h1, h2, h3, h4⟩

/-- a block's content is turned -/
theorem RelM.turn {w w' : World} {ρ : List Re} {m : Mem} (h : RelM w ρ m) {b ty sz : Nat} {es es' : List (List V)} (hb : m[b]? = some (.cells .own ty sz es)) {r : Re} (hr : ρ[b]? = some r) (cur' : Array Value)
    (hs : w.heap.size ≤ w'.heap.size) (hk : ∀ k, k < w.heap.size → k ≠ r.blk → w'.heap[k]? = w.heap[k]?) (hh : w'.heap[r.blk]? = some (.cells cur' ty (0, 0))) (hc : cur'.size = r.cap * sz)
    (hl : es'.length ≤ r.cap) (he : ∀ e ∈ es', e.length = sz)
    (hv : ∀ (i j : Nat) e v, es'[i]? = some e → e[j]? = some v → v.one = true ∧ ∃ y, cur'[i * sz + j]? = some y ∧ RelV w ρ (bad m ρ) v y) :
    RelM w' ρ (m.set b (Blk.cells .own ty sz es')) := by
  have hown : bad m ρ r.blk := ⟨b, _, r, hb, rfl, hr, rfl⟩
  have hblt : b < m.length := (List.getElem?_eq_some_iff.1 hb).1
  have hOld : ∀ {v : V} {x : Value}, RelV w ρ (bad m ρ) v x → RelV w' ρ (bad (m.set b (Blk.cells .own ty sz es')) ρ) v x := fun hr' =>
    hr'.mono hs (fun k hk' hn => hk k hk' (fun e => hn (e ▸ hown))) (fun k _ ho => owned_set_cells (p := Blk.bad) (es' := es') hb rfl ho) (fun _ _ h => h)
  have get : ∀ {c : Nat} {blk : Blk}, (m.set b (Blk.cells .own ty sz es'))[c]? = some blk → c ≠ b → m[c]? = some blk := by
    intro c blk h1 h2
    rw [List.getElem?_set, if_neg (fun e => h2 e.symm)] at h1
    exact h1
  have hb' : (m.set b (Blk.cells .own ty sz es'))[b]? = some (Blk.cells .own ty sz es') := by rw [List.getElem?_set, if_pos rfl, if_pos hblt]
  obtain ⟨r0, cur0, k1, k2, k3, k4, k5, k6, k7, k8, k9⟩ := h.cells b .own ty sz es hb
  rw [hr] at k1
  cases k1
  refine ⟨by simp [h.len], fun c wr' ty' sz' es'' hm => ?_, fun c c' blk blk' r1 r2 h1 h2 h3 h4 h5 h6 h7 => ?_, fun c kt et es'' hm => ?_⟩
  · by_cases hcb : c = b
    · subst hcb
      rw [hb'] at hm
      simp at hm
      obtain ⟨rfl, rfl, rfl, rfl⟩ := hm
      refine ⟨r, cur', hr, k2, k3, hh, hc, hl, k7, he, fun i j e v a1 a2 => ?_⟩
      obtain ⟨b1, y, b2, b3⟩ := hv i j e v a1 a2
      exact ⟨b1, y, b2, hOld b3⟩
    · have hm' := get hm hcb
      obtain ⟨r1, cur1, g1, g2, g3, g4, g5, g6, g7, g8, g9⟩ := h.cells c wr' ty' sz' es'' hm'
      refine ⟨r1, cur1, g1, g2, g3, (hk _ (heap_lt g4) (fun e => hcb (h.inj c b _ _ r1 r hm' (by simp) hb rfl g1 hr e))).trans g4, g5, g6, g7, g8, fun i j e v a1 a2 => ?_⟩
      obtain ⟨b1, y, b2, b3⟩ := g9 i j e v a1 a2
      exact ⟨b1, y, b2, hOld b3⟩
  · have key : ∀ {c : Nat} {blk : Blk}, (m.set b (Blk.cells .own ty sz es'))[c]? = some blk → ∃ blk0 : Blk, m[c]? = some blk0 ∧ (blk ≠ .dead → blk0 ≠ .dead) ∧ (blk.bad = true → blk0.bad = true) := by
      intro c blk a1
      by_cases hcb : c = b
      · subst hcb; exact ⟨_, hb, fun _ => by simp, fun _ => rfl⟩
      · exact ⟨blk, get a1 hcb, fun h => h, fun h => h⟩
    obtain ⟨b1, q1, q2, _⟩ := key h1
    obtain ⟨b2, q3, _, q4⟩ := key h3
    exact h.inj c c' b1 b2 r1 r2 q1 (q2 h2) q3 (q4 h4) h5 h6 h7
  · by_cases hcb : c = b
    · subst hcb; rw [hb'] at hm; simp at hm
    · exact h.maps c kt et es'' (get hm hcb)
end Go.Proofs.Yteogokmbedmkjaa
