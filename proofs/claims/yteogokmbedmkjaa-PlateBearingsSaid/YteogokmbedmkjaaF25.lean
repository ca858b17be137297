import Derived.Test.YteogokmbedmkjaaF24
/- loops whose rounds make blocks, move them and let them go -/
namespace Go.Proofs.Yteogokmbedmkjaa
open Go.RowKit

def TV.ok (n k : Nat) : TV → Bool
  | .v x => x.keeps n
  | .ptr i _ _ => decide (i < k)
  | .sl i _ => decide (i < k)
theorem zipT_map : ∀ (ks : List Nat) (vs : List V), ks.Nodup → ks.length = vs.length → ks.map (tget (zipT ks vs)) = vs
  | [], [], _, _ => rfl
  | [], _ :: _, _, h => by simp at h
  | _ :: _, [], _, h => by simp at h
  | k :: ks, v :: vs, hn, hl => by
    have hn' := List.nodup_cons.1 hn
    show tget ((k, v) :: zipT ks vs) k :: ks.map (tget ((k, v) :: zipT ks vs)) = v :: vs
    have e1 : tget ((k, v) :: zipT ks vs) k = v := by simp [tget]
    have e2 : ks.map (tget ((k, v) :: zipT ks vs)) = ks.map (tget (zipT ks vs)) := by
      apply List.map_congr_left
      intro q hq
      have : ¬ k = q := fun e => hn'.1 (e ▸ hq)
      simp [tget, this]
    rw [e1, e2, zipT_map ks vs hn'.2 (by simpa using hl)]
theorem zipT_at : ∀ (ks : List Nat) (vs : List V) (i : Nat), tget (zipT ks vs) i = .any ∨ ∃ p : Nat, ks[p]? = some i ∧ vs[p]? = some (tget (zipT ks vs) i)
  | [], _, _ => .inl rfl
  | _ :: _, [], _ => .inl rfl
  | k :: ks, v :: vs, i => by
    show tget ((k, v) :: zipT ks vs) i = .any ∨ ∃ p : Nat, (k :: ks)[p]? = some i ∧ (v :: vs)[p]? = some (tget ((k, v) :: zipT ks vs) i)
    by_cases e : k = i
    · subst e; exact .inr ⟨0, rfl, by simp [tget]⟩
    · have : tget ((k, v) :: zipT ks vs) i = tget (zipT ks vs) i := by simp [tget, e]
      rw [this]
      rcases zipT_at ks vs i with h | ⟨p, h1, h2⟩
      · exact .inl h
      · exact .inr ⟨p + 1, by simpa using h1, by simpa using h2⟩
section
variable {P : Program} {N : Nat} {t : List (Nat × V)} {m : Mem}
/-- what is told where a round ends: the kept blocks stand at the places 'js' behind B -/
def RoundEnd (B : Mem) (ks : List Nat) (vs : List TV) (E : Mem) (js : List Nat) (t' : List (Nat × V)) (m' : Mem) : Prop :=
  ∃ X, m' = B ++ X ∧ ks.map (tget t') = vs.map (TV.inst fun i => B.length + js.getD i 0) ∧ js.map (fun j => X[j]?) = E.map some ∧ js.Nodup
theorem WA_whileM {c : Code} {Q : Exit → List (Nat × V) → Mem → Prop} {σ : Type} {L : Mem} (ks : List Nat) (st : σ → List TV) (E : σ → Mem) (inv : σ → Prop) (μ : σ → Nat) (s0 : σ) (h0 : inv s0) (ht : ks.map (tget t) = (st s0).map (TV.inst fun i => L.length + i)) (hm : m = L ++ E s0)
    (hks : ks.Nodup) (hst : ∀ s, inv s → (st s).all (TV.ok L.length (E s).length) = true) (hf : ∀ s, inv s → (E s).all Blk.flat = true)
    (hr : ∀ s, inv s → ∀ B : Mem, (∃ D, B = L ++ D) → ∀ K : List (Nat × V) → Mem → Prop, (∀ s' js t' m', RoundEnd B ks (st s') (E s') js t' m' → inv s' → μ s' < μ s → K t' m') → WA P N c (zipT ks ((st s).map (TV.inst fun i => B.length + i))) (B ++ E s) (qThen K Q)) : WA P N (.loop c) t m Q := by
  refine WA_loop (fun n t m => ∃ s B, inv s ∧ n = μ s ∧ ks.map (tget t) = (st s).map (TV.inst fun i => B.length + i) ∧ m = B ++ E s ∧ ∃ D, B = L ++ D) (n := μ s0) ⟨s0, L, h0, rfl, ht, hm, [], by simp⟩ ?_
  rintro n t m1 ⟨s, B, h1, rfl, h2, rfl, hB⟩
  refine WA_forget _ (zipT_get ks _ t h2) ?_
  have h := hr s h1 B hB (fun t' m' => ∃ s' js, RoundEnd B ks (st s') (E s') js t' m' ∧ inv s' ∧ μ s' < μ s) (fun s' js t' m' e1 e2 e3 => ⟨s', js, e1, e2, e3⟩)
  intro w ρ a hR
  refine wp_mono (h w ρ a hR) ?_
  rintro e a1 w1 ⟨t', m', ρ', hq, hR', af⟩
  cases e with
  | normal =>
    obtain ⟨s', js, ⟨X, rfl, e2, e3, e4⟩, e5, e6⟩ := hq
    have hl : js.length = (E s').length := by simpa using congrArg List.length e3
    have hb : ∀ (i j : Nat), js[i]? = some j → X[j]? = (E s')[i]? := by
      intro i j h
      have hi : i < (E s').length := by rw [← hl]; exact (List.getElem?_eq_some_iff.1 h).1
      have := congrArg (fun l => l[i]?) e3
      simp only [List.getElem?_map, h, Option.map_some] at this
      rw [List.getElem?_eq_getElem hi] at this ⊢
      simpa using this
    obtain ⟨ρ'', hM'', af'', hn''⟩ := renorm hR'.mem hl e4 hb (hf s' e5)
    obtain ⟨D, rfl⟩ := hB
    refine ⟨zipT ks ((st s').map (TV.inst fun i => ((L ++ D) ++ deadB X).length + i)), ((L ++ D) ++ deadB X) ++ E s', ρ'', ⟨μ s', e6, s', (L ++ D) ++ deadB X, e5, rfl, ?_, rfl, D ++ deadB X, by simp⟩, ⟨hM'', fun i => ?_, hR'.size, hR'.defers⟩, af.trans af''⟩
    · exact zipT_map ks _ hks (by simpa using congrArg List.length e2)
    · rcases zipT_at ks ((st s').map (TV.inst fun i => ((L ++ D) ++ deadB X).length + i)) i with h | ⟨p, p1, p2⟩
      · rw [h]; exact .any _
      · rw [List.getElem?_map, Option.map_eq_some_iff] at p2
        obtain ⟨tv, q1, q2⟩ := p2
        rw [← q2]
        have hv : tget t' i = TV.inst (fun i => (L ++ D).length + js.getD i 0) tv := by
          have := congrArg (fun l => l[p]?) e2
          simpa [List.getElem?_map, p1, q1] using this
        have hx := hR'.tm i
        rw [hv] at hx
        generalize a1.tmps.getD i undef = y at hx
        have hok := List.all_eq_true.1 (hst s' e5) tv (List.mem_of_getElem? q1)
        have hjs : ∀ q, q < (E s').length → js[q]? = some (js.getD q 0) := by
          intro q hq
          rw [List.getD_eq_getElem?_getD, List.getElem?_eq_getElem (by omega)]; rfl
        cases tv with
        | v x =>
          simp only [TV.inst, TV.ok] at hx hok ⊢
          unfold V.keeps at hok
          split at hok
          · cases hx with | ptr _ _ _ r hr => exact .ptr _ _ _ r (af''.pre _ _ hr)
          · cases hx with | sl _ _ r hr h1 h2 => exact .sl _ _ r (af''.pre _ _ hr) h1 h2
          · exact plain_rel (fun k hk h => af''.bd k hk h) hx hok
        | ptr q a o =>
          simp only [TV.inst, TV.ok, decide_eq_true_eq] at hx hok ⊢
          cases hx with | ptr _ _ _ r hr => exact .ptr _ _ _ r (hn'' q _ r (hjs q hok) hr)
        | sl q k =>
          simp only [TV.inst, TV.ok, decide_eq_true_eq] at hx hok ⊢
          cases hx with | sl _ _ r hr h1 h2 => exact .sl _ _ r (hn'' q _ r (hjs q hok) hr) h1 h2
  | _ => exact ⟨t', m', ρ', hq, hR', af⟩
end
end Go.Proofs.Yteogokmbedmkjaa
