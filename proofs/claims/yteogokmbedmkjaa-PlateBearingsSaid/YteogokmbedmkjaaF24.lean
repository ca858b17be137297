import Derived.Test.YteogokmbedmkjaaF23
/- blocks that a loop's round has made, and of which nothing more is known: they may be let go -/
namespace Go.Proofs.Yteogokmbedmkjaa
open Go.RowKit

def Blk.foreign : Blk → Bool
  | .cells .own _ _ _ => false
  | _ => true
theorem lend_foreign {m : Mem} {b : Nat} {blk : Blk} (h : (lend m)[b]? = some blk) : blk.foreign = true := by
  obtain ⟨blk0, _, rfl⟩ := lend_get h
  cases blk0 with
  | cells st ty sz es => cases st <;> rfl
  | map kt et es => rfl
  | dead => rfl
theorem After.drop {w w1 : World} {ρ ρ1 : List Re} {m m2 ext : Mem} (hM : RelM w ρ m) (af : After w ρ m w1 ρ1 (m2 ++ ext)) (hlen : m2.length = m.length)
    (hb : ∀ (b : Nat) blk, m2[b]? = some blk → blk.flat = true ∨ (m[b]? = some blk ∧ blk.foreign = true)) :
    After w ρ m w1 ρ m2 ∧ (∀ k, bad m2 ρ k → bad (m2 ++ ext) ρ1 k) := by
  have hρ : ∀ (b : Nat) blk r, m2[b]? = some blk → ρ1[b]? = some r → ρ[b]? = some r := by
    intro b blk r h1 h2
    have hlt : b < ρ.length := by rw [hM.len, ← hlen]; exact (List.getElem?_eq_some_iff.1 h1).1
    have h3 : ρ[b]? = some ρ[b] := List.getElem?_eq_getElem hlt
    have := af.pre b _ h3
    rw [h2] at this
    cases this
    exact h3
  have hbad : ∀ k, bad m2 ρ k → bad (m2 ++ ext) ρ1 k := by
    rintro k ⟨b, blk, r, h1, h2, h3, h4⟩
    exact ⟨b, blk, r, pre_get h1, h2, af.pre b r h3, h4⟩
  have hown : ∀ k, owned m2 ρ k → owned (m2 ++ ext) ρ1 k := by
    rintro k ⟨b, blk, r, h1, h2, h3, h4⟩
    exact ⟨b, blk, r, pre_get h1, h2, af.pre b r h3, h4⟩
  refine ⟨⟨af.keep, fun _ _ h => h, ⟨hM.len.trans hlen.symm, ?_, ?_, ?_⟩, fun k hk ho => af.own k hk (hown k ho), fun k hk ho => af.bd k hk (hbad k ho)⟩, hbad⟩
  · intro b st ty sz es h
    obtain ⟨r, cur, k1, k2, k3, k4, k5, k6, k7, k8, k9⟩ := af.mem.cells b st ty sz es (pre_get h)
    have hr := hρ b _ r h k1
    refine ⟨r, cur, hr, k2, k3, k4, k5, k6, k7, k8, fun i j e v e1 e2 => ?_⟩
    obtain ⟨g1, y, g2, g3⟩ := k9 i j e v e1 e2
    refine ⟨g1, y, g2, ?_⟩
    rcases hb b _ h with hf | ⟨hm, ho⟩
    · simp only [Blk.flat, List.all_eq_true] at hf
      exact flat_rel g3 (flatL_mem (hf e (List.mem_of_getElem? e1)) v (List.mem_of_getElem? e2))
    · obtain ⟨r0, cur0, q1, q2, q3, q4, q5, q6, q7, q8, q9⟩ := hM.cells b st ty sz es hm
      rw [hr] at q1
      cases q1
      have hno : ¬ owned m ρ r.blk := by
        rintro ⟨b', blk', r', a1, a2, a3, a4⟩
        have := hM.inj b b' _ _ _ _ hm (by simp) a1 (Blk.bad_of_own a2) hr a3 a4.symm
        subst this
        rw [hm] at a1
        cases a1
        cases st <;> simp [Blk.foreign, Blk.own] at ho a2
      have hsame := af.keep.block r.blk (heap_lt q4) hno
      rw [q4] at hsame
      rw [k4] at hsame
      cases hsame
      obtain ⟨_, y', g2', g3'⟩ := q9 i j e v e1 e2
      rw [g2] at g2'
      cases g2'
      exact g3'.mono af.keep.size (fun k hk hn => af.keep.block k hk (fun ho => hn (bad_of_owned ho))) (fun k hk hh => af.bd k hk (hbad k hh)) (fun _ _ h => h)
  · intro b b' blk blk' r r' h1 h2 h3 h4 h5 h6 h7
    exact af.mem.inj b b' blk blk' r r' (pre_get h1) h2 (pre_get h3) h4 (af.pre b r h5) (af.pre b' r' h6) h7
  · intro b kt et es h
    exact af.mem.maps b kt et es (pre_get h)

/-- may a slot's value be kept where blocks from number n on are let go -/
def V.keeps (n : Nat) : V → Bool
  | .ptr b _ _ => decide (b < n)
  | .sl b _ => decide (b < n)
  | v => v.plain
theorem keeps_rel {w1 : World} {ρ ρ1 : List Re} {B B' : Nat → Prop} {n : Nat} (hn : ρ.length = n) (hpre : ∀ (b : Nat) r, ρ[b]? = some r → ρ1[b]? = some r) (hB : ∀ k, k < w1.heap.size → B' k → B k) {v : V} {x : Value} (h : RelV w1 ρ1 B v x) (hk : v.keeps n = true) : RelV w1 ρ B' v x := by
  have key : ∀ (b : Nat) r, b < n → ρ1[b]? = some r → ρ[b]? = some r := by
    intro b r hb h2
    have h3 : ρ[b]? = some ρ[b] := List.getElem?_eq_getElem (by omega)
    have := hpre b _ h3
    rw [h2] at this
    cases this
    exact h3
  unfold V.keeps at hk
  split at hk
  · cases h with
    | ptr _ _ _ r hr => exact .ptr _ _ _ r (key _ r (by simpa using hk) hr)
  · cases h with
    | sl _ _ r hr h1 h2 => exact .sl _ _ r (key _ r (by simpa using hk) hr) h1 h2
  · exact plain_rel hB h hk

theorem zipT_cases : ∀ (ks : List Nat) (vs : List V) (t : List (Nat × V)), ks.map (tget t) = vs → ∀ i, (tget (zipT ks vs) i = .any ∧ i ∉ ks) ∨ (tget (zipT ks vs) i = tget t i ∧ tget t i ∈ vs)
  | [], _, _, _, _ => .inl ⟨rfl, by simp⟩
  | k :: ks, [], _, h, _ => by simp at h
  | k :: ks, v :: vs, t, h, i => by
    simp only [List.map_cons, List.cons.injEq] at h
    show (tget ((k, v) :: zipT ks vs) i = _ ∧ _) ∨ (tget ((k, v) :: zipT ks vs) i = _ ∧ _)
    by_cases e : k = i
    · subst e; exact .inr ⟨by simp [tget, h.1], by rw [h.1]; exact List.mem_cons_self⟩
    · have e1 : tget ((k, v) :: zipT ks vs) i = tget (zipT ks vs) i := by simp [tget, e]
      rw [e1]
      rcases zipT_cases ks vs t h.2 i with ⟨q1, q2⟩ | ⟨q1, q2⟩
      · exact .inl ⟨q1, by simp [q2]; exact fun h => e h.symm⟩
      · exact .inr ⟨q1, List.mem_cons_of_mem _ q2⟩
section
variable {P : Program} {N : Nat} {t : List (Nat × V)} {m : Mem}
/-- a loop whose rounds make blocks and let them go -/
theorem WA_whileD {c : Code} {Q : Exit → List (Nat × V) → Mem → Prop} {σ : Type} (ks : List Nat) (st : σ → List V) (me : σ → Mem) (inv : σ → Prop) (μ : σ → Nat) (s0 : σ) (h0 : inv s0) (ht : ks.map (tget t) = st s0) (hm : m = me s0)
    (hlen : ∀ s, (me s).length = m.length) (hst : ∀ s, ∀ v ∈ st s, v.keeps m.length = true) (hb : ∀ s s' (b : Nat) blk, (me s')[b]? = some blk → blk.flat = true ∨ ((me s)[b]? = some blk ∧ blk.foreign = true))
    (hr : ∀ s, inv s → ∀ K : List (Nat × V) → Mem → Prop, (∀ s' t' m' ext, ks.map (tget t') = st s' → m' = me s' ++ ext → inv s' → μ s' < μ s → K t' m') → WA P N c (zipT ks (st s)) (me s) (qThen K Q)) : WA P N (.loop c) t m Q := by
  refine WA_loop (fun n t m => ∃ s, inv s ∧ n = μ s ∧ ks.map (tget t) = st s ∧ m = me s) (n := μ s0) ⟨s0, h0, rfl, ht, hm⟩ ?_
  rintro n t m1 ⟨s, h1, rfl, h2, rfl⟩
  refine WA_forget _ (zipT_get ks _ t h2) ?_
  have h := hr s h1 (fun t' m' => ∃ s' ext, inv s' ∧ μ s' < μ s ∧ ks.map (tget t') = st s' ∧ m' = me s' ++ ext) (fun s' t' m' ext e1 e2 e3 e4 => ⟨s', ext, e3, e4, e1, e2⟩)
  intro w ρ a hR
  refine wp_mono (h w ρ a hR) ?_
  rintro e a1 w1 ⟨t', m', ρ', hq, hR', af⟩
  cases e with
  | normal =>
    obtain ⟨s', ext, e3, e4, e1, rfl⟩ := hq
    obtain ⟨af', hbad⟩ := af.drop hR.mem ((hlen s').trans (hlen s).symm) (hb s s')
    refine ⟨zipT ks (st s'), me s', ρ, ⟨μ s', e4, s', e3, rfl, ?_, rfl⟩, ⟨af'.mem, fun i => ?_, hR'.size, hR'.defers⟩, af'⟩
    · rw [← e1]
      apply List.map_congr_left
      intro k hk
      rcases zipT_cases ks _ t' rfl k with ⟨_, q⟩ | ⟨q, _⟩
      · exact absurd hk q
      · exact q
    · rcases zipT_cases ks _ t' e1 i with ⟨q, _⟩ | ⟨q, qm⟩
      · rw [q]; exact .any _
      · rw [q]
        exact keeps_rel (hR.mem.len.trans (hlen s)) af.pre (fun k _ h => hbad k h) (hR'.tm i) (hst s' _ qm)
  | _ => exact ⟨t', m', ρ', hq, hR', af⟩
/-- .. where the call's own blocks hold plain cells alone -/
theorem WA_whileL {c : Code} {Q : Exit → List (Nat × V) → Mem → Prop} {σ : Type} {L : Mem} (ks : List Nat) (st : σ → List V) (E : σ → Mem) (k : Nat) (inv : σ → Prop) (μ : σ → Nat) (s0 : σ) (h0 : inv s0) (ht : ks.map (tget t) = st s0) (hm : m = lend L ++ E s0)
    (hlen : ∀ s, (E s).length = k) (hst : ∀ s, ∀ v ∈ st s, v.keeps ((lend L).length + k) = true) (hb : ∀ s, (E s).all Blk.flat = true)
    (hr : ∀ s, inv s → ∀ K : List (Nat × V) → Mem → Prop, (∀ s' t' m' ext, ks.map (tget t') = st s' → m' = lend L ++ (E s' ++ ext) → inv s' → μ s' < μ s → K t' m') → WA P N c (zipT ks (st s)) (lend L ++ E s) (qThen K Q)) : WA P N (.loop c) t m Q := by
  have hml : m.length = (lend L).length + k := by rw [hm, List.length_append, hlen]
  refine WA_whileD ks st (fun s => lend L ++ E s) inv μ s0 h0 ht hm (fun s => by rw [List.length_append, hlen, hml]) (fun s v hv => by rw [hml]; exact hst s v hv) ?_ (fun s hs K hK => hr s hs K fun s' t' m' ext e1 e2 e3 e4 => hK s' t' m' ext e1 (by rw [e2, List.append_assoc]) e3 e4)
  intro s s' b blk h
  rcases Nat.lt_or_ge b (lend L).length with hl | hl
  · rw [List.getElem?_append_left hl] at h
    exact .inr ⟨by rw [List.getElem?_append_left hl]; exact h, lend_foreign h⟩
  · rw [List.getElem?_append_right hl] at h
    exact .inl (List.all_eq_true.1 (hb s') _ (List.mem_of_getElem? h))
end
end Go.Proofs.Yteogokmbedmkjaa
