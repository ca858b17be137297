import Derived.Test.YteogokmbedmkjaaF7
/- every operation that is no call -/
namespace Go.Proofs.Yteogokmbedmkjaa
open Go.RowKit

/-- reads alone -/
def isPure : Op → Bool
  | .move _ | .assign _ | .pick .. | .load .. | .binOp .. | .unOp .. | .extract .. | .fieldAddr .. | .field .. | .indexAddr .. | .index .. | .makeFunc .. | .build .. | .convert .. | .slice .. => true
  | .call ⟨.builtin .len, _, _⟩ | .call ⟨.builtin .max, _, _⟩ | .call ⟨.builtin .min, _, _⟩ => true
  | _ => false
/-- makes a new block, and that is all -/
def isFresh : Op → Bool
  | .alloc _ | .box .. | .makeSlice .. | .buildSlice .. => true
  | _ => false
def Gentle (o : Op) (w : World) (ρ : List Re) (w' : World) (ρ' : List Re) : Prop := (isPure o = true → w' = w ∧ ρ' = ρ) ∧ (isFresh o = true → Below w.heap.size w w')
def OpOk (P : Program) (w : World) (ρ : List Re) (m : Mem) (a : Act) (o : Oper) (v : V) (m' : Mem) : Prop :=
  ∃ n w' ρ', (execOp a.eval o).run P w = .ok n w' ∧ After w ρ m w' ρ' m' ∧ ((∃ x, n = .value x ∧ RelV w' ρ' (bad m' ρ') v x) ∨ (n = .skip ∧ v = .any)) ∧ Gentle o.op w ρ w' ρ'

theorem run_v {P : Program} {w w' : World} {s : Sem Value} {x : Value} (h : s.run P w = .ok x w') : (do pure (Next.value (← s)) : Sem Next).run P w = .ok (.value x) w' := by
  simp [h]

section
variable {P : Program} {w : World} {ρ : List Re} {m : Mem} {a : Act} {t : List (Nat × V)} {o : Oper} {v : V} {m' : Mem} {p : Prop}

theorem opok_pure (hM : RelM w ρ m) {x : Value} (h : (execOp a.eval o).run P w = .ok (.value x) w) (hv : RelV w ρ (bad m ρ) v x) : OpOk P w ρ m a o v m :=
  ⟨_, w, ρ, h, After.refl hM, .inl ⟨x, rfl, hv⟩, fun _ => ⟨rfl, rfl⟩, fun _ => Below.refl _ _⟩

theorem sound_move (hM : RelM w ρ m) (hT : RelT w ρ m t a) {x : Operand} (ho : o.op = .move x ∨ o.op = .assign x) : OpOk P w ρ m a o (evO t x) m := by
  refine opok_pure hM (x := a.eval x) ?_ (evO_rel hT x)
  rcases ho with ho | ho <;> simp [execOp, ho]

theorem sound_pick (hM : RelM w ρ m) (hT : RelT w ρ m t a) {c x y : Operand} (ho : o.op = .pick c x y) {b : Bool} (hc : evO t c = .bool b) : OpOk P w ρ m a o (if b = true then evO t x else evO t y) m := by
  have h := evO_rel hT c
  rw [hc] at h
  generalize he : a.eval c = ec at h
  cases h
  refine opok_pure hM (x := if b = true then a.eval x else a.eval y) ?_ ?_
  · simp only [execOp, ho, he, asBool, Sem.run_bind, Sem.run_pure, Result.andThen_ok]
  · cases b
    · exact evO_rel hT y
    · exact evO_rel hT x

theorem sound_load (hM : RelM w ρ m) (hT : RelT w ρ m t a) {T : TypeId} {x : Operand} (ho : o.op = .load T x) (h : evOp P t m (.load T x) = some (p, v, m')) : OpOk P w ρ m a o v m' := by
  have hx := evO_rel hT x
  simp only [evOp] at h
  generalize he : a.eval x = ex at hx
  cases hv : evO t x <;> rw [hv] at h hx <;> try (simp at h; done)
  case bp cs q =>
    cases hx with
    | bp _ _ b off Y h1 h2 h3 h4 h5 =>
      simp only [okO] at h
      split at h
      · rename_i u hu
        simp only [Option.some.injEq, Prod.mk.injEq] at h
        obtain ⟨_, rfl, rfl⟩ := h
        obtain ⟨y, hr, hv'⟩ := partV_load h3 h4 hu
        refine opok_pure hM (x := y) ?_ hv'
        simp only [execOp, ho, he]
        exact run_v (by simpa [Instr.loadAt, Instr.sureAddr, go_sem] using hr)
      · cases h
  case ptr b i q =>
    cases hx with
    | ptr _ _ _ r hr =>
      simp only at h
      split at h
      · rename_i wr ty sz es hb
        split at h
        · rename_i e hes
          simp only [okO] at h
          split at h
          · rename_i u hu
            simp only [Option.some.injEq, Prod.mk.injEq] at h
            obtain ⟨_, rfl, rfl⟩ := h
            obtain ⟨r0, cur, k1, k2, k3, k4, k5, k6, k7, k8, k9⟩ := hM.cells b wr ty sz es hb
            rw [hr] at k1
            cases k1
            have hcell : ∀ j, w.cell? ⟨r.blk, i * r.sz + j, none⟩ = cur[i * r.sz + j]? := fun j => by simp [World.cell?, k4]
            obtain ⟨y, hrun, hv'⟩ := partV_load (w := w) (ρ := ρ) (B := bad m ρ) (b := r.blk) (off := i * r.sz) (Y := fun j => (cur[i * r.sz + j]?).getD undef)
              (fun j c hc => by
                obtain ⟨_, y, hy, _⟩ := k9 i j e c hes hc
                rw [hcell, k2, hy]; rfl)
              (fun j c hc => by
                obtain ⟨_, y, hy, hr'⟩ := k9 i j e c hes hc
                rw [k2, hy]; exact hr') hu
            refine opok_pure hM (x := y) ?_ hv'
            simp only [execOp, ho, he]
            exact run_v (by simpa [Instr.loadAt, Instr.sureAddr, go_sem] using hrun)
          · cases h
        · cases h
      · cases h

theorem sound_store (hM : RelM w ρ m) (hT : RelT w ρ m t a) {T : TypeId} {x y : Operand} (ho : o.op = .store T x y) (h : evOp P t m (.store T x y) = some (p, v, m')) : OpOk P w ρ m a o v m' := by
  have hx := evO_rel hT x
  have hy := evO_rel hT y
  simp only [evOp] at h
  generalize he : a.eval x = ex at hx
  split at h
  · rename_i b i q xs hvx hcy
    rw [hvx] at hx
    cases hx with
    | ptr _ _ _ r hr =>
      split at h
      · rename_i ty sz es hb
        split at h
        · rename_i e hes
          split at h
          · rename_i hc
            simp only [Option.some.injEq, Prod.mk.injEq] at h
            obtain ⟨_, rfl, rfl⟩ := h
            obtain ⟨w', hrun, haf, _⟩ := store_sound (P := P) hM hb hr hes hy hcy hc.1 hc.2.1 hc.2.2
            refine ⟨.skip, w', ρ, ?_, haf, .inr ⟨rfl, rfl⟩, by simp [isPure, ho], by simp [isFresh, ho]⟩
            simp only [execOp, ho, he, Instr.storeAt, Instr.sureAddr, Sem.run_bind, Sem.run_pure, Result.andThen_ok, hrun]
          · cases h
        · cases h
      · cases h
  · cases h

theorem store_frame (hM : RelM w ρ m) (hT : RelT w ρ m t a) {T : TypeId} {x y : Operand} (ho : o.op = .store T x y) (h : evOp P t m (.store T x y) = some (p, v, m')) {b i q : Nat} (hb : evO t x = .ptr b i q) :
    ∃ w' r, (execOp a.eval o).run P w = .ok .skip w' ∧ ρ[b]? = some r ∧ w'.heap.size = w.heap.size ∧ ∀ k, k ≠ r.blk → w'.heap[k]? = w.heap[k]? := by
  have hx := evO_rel hT x
  have hy := evO_rel hT y
  simp only [evOp, hb] at h
  generalize he : a.eval x = ex at hx
  split at h
  · rename_i b' i' q' xs hvx hcy
    cases hvx
    rw [hb] at hx
    cases hx with
    | ptr _ _ _ r hr =>
      split at h
      · rename_i ty sz es hb
        split at h
        · rename_i e hes
          split at h
          · rename_i hc
            obtain ⟨w', hrun, haf, h1, h2⟩ := store_sound (P := P) hM hb hr hes hy hcy hc.1 hc.2.1 hc.2.2
            refine ⟨w', r, ?_, hr, h1, h2⟩
            simp only [execOp, ho, he, Instr.storeAt, Instr.sureAddr, Sem.run_bind, Sem.run_pure, Result.andThen_ok, hrun]
          · cases h
        · cases h
      · cases h
  · cases h

theorem sound_box (hM : RelM w ρ m) (hT : RelT w ρ m t a) {T : TypeId} {x : Operand} (ho : o.op = .box T x) (h : evOp P t m (.box T x) = some (p, v, m')) : OpOk P w ρ m a o v m' := by
  have hx := evO_rel hT x
  simp only [evOp] at h
  split at h
  · rename_i xs hc
    split at h
    · rename_i hp
      simp only [Option.some.injEq, Prod.mk.injEq] at h
      obtain ⟨_, rfl, rfl⟩ := h
      obtain ⟨c1, c2⟩ := cellsV_rel hx hc
      obtain ⟨s1, s2⟩ := new_sound hM T c1 hp.1 c2
      refine ⟨_, _, _, ?_, s1, .inl ⟨_, rfl, s2⟩, by simp [isPure, ho], fun _ => (Below.refl _ _).alloc (Nat.le_refl _) _⟩
      simp only [execOp, ho]
      simp [Instr.box, newVar, newRow, go_sem]
    · cases h
  · cases h

theorem sound_alloc (hM : RelM w ρ m) {T : TypeId} (ho : o.op = .alloc T) (h : evOp P t m (.alloc T) = some (p, v, m')) : OpOk P w ρ m a o v m' := by
  simp only [evOp] at h
  split at h
  · rename_i zs hz
    split at h
    · rename_i hp
      simp only [Option.some.injEq, Prod.mk.injEq] at h
      obtain ⟨_, rfl, rfl⟩ := h
      unfold zeT at hz
      cases hi : P.info? T with
      | none => rw [hi] at hz; cases hz
      | some i =>
        rw [hi] at hz
        simp only [Option.bind_some] at hz
        cases hzz : i.zero with
        | none => rw [hzz] at hz; cases hz
        | some z =>
          rw [hzz] at hz
          simp only [Option.bind_some, oneC] at hz
          split at hz
          · rename_i hall
            cases hz
            obtain ⟨s1, s2⟩ := new_sound (x := z) hM T (cs := z.cells.toList.map ofC) (by simp) hp.1 (fun j c y h1 h2 => by
              have h2' : z.cells.toList[j]? = some y := by simpa using h2
              rw [List.getElem?_map, h2'] at h1
              simp at h1
              subst h1
              have ho1 : (ofC y).one = true := List.all_eq_true.1 hall _ (List.mem_map.2 ⟨y, List.mem_of_getElem? h2', rfl⟩)
              exact ⟨ho1, ((ofC_rel w ρ (owned m ρ) y).one ho1).1, ofC_rel _ _ _ y⟩)
            refine ⟨_, _, _, ?_, s1, .inl ⟨_, rfl, s2⟩, by simp [isPure, ho], fun _ => (Below.refl _ _).alloc (Nat.le_refl _) _⟩
            simp only [execOp, ho]
            simp [Instr.alloc, newVar, newRow, zeroValue, typeInfo, hi, hzz, go_sem]
          · cases hz
    · cases h
  · cases h
end
end Go.Proofs.Yteogokmbedmkjaa
