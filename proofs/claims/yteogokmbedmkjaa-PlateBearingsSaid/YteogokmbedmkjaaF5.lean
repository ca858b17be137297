import Derived.Test.YteogokmbedmkjaaF4
/- loads, parts, stores, new variables -/
namespace Go.Proofs.Yteogokmbedmkjaa
open Go.RowKit

theorem addr_add (b o j : Nat) : (⟨b, o, none⟩ : Addr).add j = ⟨b, o + j, none⟩ := by
  unfold Addr.add; split
  · subst j; rfl
  · rfl

theorem partV_load {P : Program} {w : World} {ρ : List Re} {B : Nat → Prop} {T : TypeId} {cs : List V} {o b off : Nat} {Y : Nat → Value} {v : V}
    (hY : ∀ (j : Nat) c, cs[j]? = some c → w.cell? ⟨b, off + j, none⟩ = some (Y j)) (hV : ∀ (j : Nat) c, cs[j]? = some c → RelV w ρ B c (Y j)) (h : partV P T cs o = some v) :
    ∃ x, (loadVar T ⟨b, off + o, none⟩).run P w = .ok x w ∧ RelV w ρ B v x := by
  unfold partV at h
  cases ha : agT P T with
  | none => rw [ha] at h; cases h
  | some q =>
    rw [ha] at h
    cases q with
    | true =>
      simp only at h
      split at h
      · rename_i hle
        cases h
        have hc : ∀ j, j < szT P T → w.cell? ((⟨b, off + o, none⟩ : Addr).add j) = some (Y (o + j)) := by
          intro j hj
          rw [addr_add, Nat.add_assoc]
          exact hY (o + j) _ (List.getElem?_eq_getElem (by omega))
        refine ⟨.agg ((List.range (szT P T)).map fun j => Y (o + j)).toArray, ?_, ?_⟩
        · simp only [loadVar, Sem.run_bind, run_isAgg ha, Result.andThen_ok, if_true, run_sizeOf_ag ha, run_loadCells w _ _ (fun j => Y (o + j)) hc, Sem.run_pure]
        · refine .agg _ _ ?_ ?_
          · simp; omega
          · intro i c x h1 h2
            have hi : i < szT P T := by
              rcases Nat.lt_or_ge i (szT P T) with h | h
              · exact h
              · simp [List.getElem?_take] at h1; omega
            rw [List.getElem?_take_of_lt hi, List.getElem?_drop] at h1
            simp [hi] at h2
            subst h2
            exact hV _ _ h1
      · cases h
    | false =>
      simp only at h
      exact ⟨Y o, by simp only [loadVar, Sem.run_bind, run_isAgg ha, Result.andThen_ok, Bool.false_eq_true, if_false]; simp [run_load, hY o v h], hV o v h⟩

theorem partV_part {P : Program} {w : World} {ρ : List Re} {B : Nat → Prop} {T : TypeId} {cs : List V} {xs : Array Value} {o : Nat} {v : V}
    (hl : cs.length = xs.size) (hV : ∀ (j : Nat) c x, cs[j]? = some c → xs[j]? = some x → RelV w ρ B c x) (h : partV P T cs o = some v) :
    ∃ x, (part T xs o).run P w = .ok x w ∧ RelV w ρ B v x := by
  unfold partV at h
  cases ha : agT P T with
  | none => rw [ha] at h; cases h
  | some q =>
    rw [ha] at h
    cases q with
    | true =>
      simp only at h
      split at h
      · rename_i hle
        cases h
        refine ⟨.agg (xs.extract o (o + szT P T)), ?_, ?_⟩
        · simp only [part, Sem.run_bind, run_isAgg ha, Result.andThen_ok, if_true, run_sizeOf_ag ha, Sem.run_pure]
        · refine .agg _ _ ?_ ?_
          · simp; omega
          · intro i c x h1 h2
            have hi : i < szT P T := by
              rcases Nat.lt_or_ge i (szT P T) with h | h
              · exact h
              · simp [List.getElem?_take] at h1; omega
            rw [List.getElem?_take_of_lt hi, List.getElem?_drop] at h1
            rw [Array.getElem?_extract] at h2
            split at h2
            · exact hV _ _ _ h1 h2
            · cases h2
      · cases h
    | false =>
      simp only at h
      have hlt : o < cs.length := (List.getElem?_eq_some_iff.1 h).1
      have hx : xs[o]? = some (xs[o]'(by omega)) := Array.getElem?_eq_getElem (by omega)
      exact ⟨_, by simp only [part, Sem.run_bind, run_isAgg ha, Result.andThen_ok, Bool.false_eq_true, if_false, hx, Sem.run_pure], hV o v _ h hx⟩

/-- the cells of a value that is stored -/
theorem cellsV_rel {w : World} {ρ : List Re} {B : Nat → Prop} {v : V} {x : Value} {cs : List V} (h : RelV w ρ B v x) (hc : cellsV v = some cs) :
    cs.length = x.cells.size ∧ (∀ (j : Nat) c y, cs[j]? = some c → x.cells[j]? = some y → c.one = true ∧ y.oneCell' = true ∧ RelV w ρ B c y) := by
  have one : v.one = true → cellsV v = some [v] → cs.length = x.cells.size ∧ (∀ (j : Nat) c y, cs[j]? = some c → x.cells[j]? = some y → c.one = true ∧ y.oneCell' = true ∧ RelV w ρ B c y) := by
    intro ho hc'
    rw [hc'] at hc
    cases hc
    obtain ⟨h1, h2⟩ := h.one ho
    rw [h2]
    refine ⟨rfl, fun j c y a1 a2 => ?_⟩
    rcases j with _ | j
    · simp at a1 a2
      subst a1; subst a2
      exact ⟨ho, h1, h⟩
    · simp at a1
  cases h with
  | agg cs' xs hl hh =>
    unfold cellsV at hc
    simp only at hc
    split at hc
    · rename_i hall
      cases hc
      refine ⟨hl, fun j c y a1 a2 => ?_⟩
      have ho : c.one = true := List.all_eq_true.1 hall c (List.mem_of_getElem? a1)
      exact ⟨ho, ((hh j c y a1 a2).one ho).1, hh j c y a1 a2⟩
    · cases hc
  | any => simp [cellsV, V.one] at hc
  | tup => simp [cellsV, V.one] at hc
  | _ => exact one rfl rfl
end Go.Proofs.Yteogokmbedmkjaa
