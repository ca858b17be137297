import Derived.Test.YteogokmbedmkjaaF13
/- composite values; all operations together -/
namespace Go.Proofs.Yteogokmbedmkjaa
open Go.RowKit
section
variable {P : Program} {w : World} {ρ : List Re} {m : Mem} {a : Act} {t : List (Nat × V)} {o : Oper} {v : V} {m' : Mem} {p : Prop}

theorem parts_rel (hT : RelT w ρ m t a) (parts : Array (Nat × Operand)) : (parts.toList.map fun (i, x) => (i, evO t x)).length = (parts.toList.map fun (i, x) => (i, a.eval x)).length ∧
    ∀ (j : Nat) v x, (parts.toList.map fun (i, x) => (i, evO t x))[j]? = some v → (parts.toList.map fun (i, x) => (i, a.eval x))[j]? = some x → v.1 = x.1 ∧ RelV w ρ (bad m ρ) v.2 x.2 := by
  refine ⟨by simp, fun j v x h1 h2 => ?_⟩
  simp only [List.getElem?_map, Option.map_eq_some_iff] at h1 h2
  obtain ⟨q1, g1, rfl⟩ := h1
  obtain ⟨q2, g2, rfl⟩ := h2
  rw [g1] at g2
  cases g2
  exact ⟨rfl, evO_rel hT _⟩

theorem zero_rel {zs : List V} {E : TypeId} (hz : zeT P E = some zs) : ∃ i z, P.info? E = some i ∧ i.zero = some z ∧ zs.length = z.cells.size ∧ ∀ (j : Nat) c y, zs[j]? = some c → z.cells[j]? = some y → RelV w ρ (bad m ρ) c y := by
  obtain ⟨i, z, hi, hz', rfl, hone⟩ := zeT_spec hz
  refine ⟨i, z, hi, hz', by simp, fun j c y h1 h2 => ?_⟩
  rw [List.getElem?_map] at h1
  have : z.cells.toList[j]? = some y := by simpa using h2
  rw [this] at h1
  cases h1
  exact ofC_rel _ _ _ _

theorem fill_mono {place place' : Nat → Option (Nat × Nat)} (hp : ∀ i q, place i = some q → place' i = some q) : ∀ (xs : List (Nat × Value)) (ys ys' : Array Value), Instr.fill place ys xs = some ys' → Instr.fill place' ys xs = some ys'
  | [], _, _, h => h
  | (i, x) :: xs, ys, ys', h => by
    simp only [Instr.fill] at h ⊢
    split at h
    · cases h
    · rename_i off size hpl
      rw [hp i _ hpl]
      simp only
      split at h
      · cases h
      · rename_i hc
        rw [if_neg hc]
        exact fill_mono hp xs _ _ h

theorem run_places {fs : List Field} (h : ∀ f ∈ fs, (P.info? f.type).isSome = true) : (fs.mapM (fun f => do pure (f.offset, ← sizeOf f.type) : Field → Sem (Nat × Nat))).run P w = .ok (fs.map fun f => (f.offset, szT P f.type)) w := by
  induction fs with
  | nil => simp
  | cons f fs ih =>
    have hf := h f List.mem_cons_self
    cases hi : P.info? f.type with
    | none => rw [hi] at hf; cases hf
    | some i =>
      have hsz : (sizeOf f.type).run P w = .ok (szT P f.type) w := by
        simp [sizeOf, typeInfo, hi, szT, Program.cellsOf, go_sem]
      simp only [List.mapM_cons, Sem.run_bind, Sem.run_pure, Result.andThen_ok, hsz, ih (fun g hg => h g (List.mem_cons_of_mem _ hg)), List.map_cons]

theorem sound_build (hM : RelM w ρ m) (hT : RelT w ρ m t a) {T : TypeId} {parts : Array (Nat × Operand)} (ho : o.op = .build T parts) (h : evOp P t m (.build T parts) = some (p, v, m')) : OpOk P w ρ m a o v m' := by
  simp only [evOp] at h
  split at h
  · rename_i zs hz
    obtain ⟨i, z, hi, hz', hl, hr⟩ := zero_rel (w := w) (ρ := ρ) (m := m) hz
    obtain ⟨p1, p2⟩ := parts_rel hT parts
    have hzero : (zeroValue T).run P w = .ok z w := by simp [zeroValue, typeInfo, hi, hz', go_sem]
    have hpl : (Array.map (fun x => (x.fst, a.eval x.snd)) parts).toList = parts.toList.map fun (i, x) => (i, a.eval x) := by simp
    split at h
    · rename_i n E hE
      split at h
      · rename_i hsz
        split at h
        · rename_i cs hf
          simp only [okR, Option.some.injEq, Prod.mk.injEq] at h
          obtain ⟨_, rfl, rfl⟩ := h
          obtain ⟨ys, h1, h2, h3⟩ := fillV_sound _ _ zs z.cells cs hl hr p1 p2 hf
          refine opok_pure hM (x := .agg ys) ?_ (.agg _ _ h2 h3)
          simp only [execOp, ho]
          refine run_v ?_
          simp only [Instr.build, Sem.run_bind, hzero, Result.andThen_ok, run_underlying (arT_spec hE), run_sizeOf hsz, hpl, h1, Sem.run_pure]
        · cases h
      · cases h
    · rename_i hE
      split at h
      · rename_i hst
        split at h
        · rename_i cs hf
          simp only [okR, Option.some.injEq, Prod.mk.injEq] at h
          obtain ⟨_, rfl, rfl⟩ := h
          obtain ⟨ys, h1, h2, h3⟩ := fillV_sound _ _ zs z.cells cs hl hr p1 p2 hf
          refine opok_pure hM (x := .agg ys) ?_ (.agg _ _ h2 h3)
          simp only [execOp, ho]
          refine run_v ?_
          unfold stT at hst
          split at hst
          · rename_i fs hu
            have hall : ∀ f ∈ fs.toList, (P.info? f.type).isSome = true := fun f hf => List.all_eq_true.1 hst f hf
            have hpls := run_places (P := P) (w := w) hall
            have hplA : (fs.mapM (fun f => do pure (f.offset, ← sizeOf f.type) : Field → Sem (Nat × Nat))).run P w = .ok (fs.map fun f => (f.offset, szT P f.type)) w := by
              rw [Array.mapM_eq_mapM_toList]
              show Sem.run P ((fs.toList.mapM (fun f => do pure (f.offset, ← sizeOf f.type) : Field → Sem (Nat × Nat))) >>= fun l => pure l.toArray) w = _
              rw [Sem.run_bind, hpls]
              simp only [Result.andThen_ok, Sem.run_pure]
              congr 1
              apply Array.toList_inj.1
              simp
            have h1' : Instr.fill (fun x => (fs.map fun f => (f.offset, szT P f.type))[x]?) z.cells (parts.toList.map fun (i, x) => (i, a.eval x)) = some ys := by
              refine fill_mono (fun i q hq => ?_) _ _ _ h1
              simp only [Option.map_eq_some_iff] at hq
              obtain ⟨⟨off, ft⟩, hq1, rfl⟩ := hq
              obtain ⟨fs', f, g1, g2, g3, g4, g5⟩ := fdT_spec hq1
              rw [hu] at g1
              cases g1
              rw [Array.getElem?_map, g2]
              simp [g3, g4]
            simp only [Instr.build, Sem.run_bind, hzero, Result.andThen_ok, run_underlying hu, hplA, hpl, h1', Sem.run_pure]
          · cases hst
        · cases h
      · cases h
  · cases h

theorem repL_get {zs : List V} {n q : Nat} (hq : q < n * zs.length) : (repL n zs)[q]? = zs[q % zs.length]? := by
  unfold repL
  induction n generalizing q with
  | zero => simp at hq
  | succ n ih =>
    rw [List.replicate_succ, List.flatten_cons]
    rcases Nat.lt_or_ge q zs.length with h | h
    · rw [List.getElem?_append_left h, Nat.mod_eq_of_lt h]
    · rw [List.getElem?_append_right h]
      rw [Nat.succ_mul] at hq
      rw [ih (by omega), Nat.mod_eq_sub_mod h]

theorem cellsV_one {v : V} {xs : List V} (h : cellsV v = some xs) : ∀ c ∈ xs, c.one = true := by
  unfold cellsV at h
  split at h
  · split at h
    · rename_i hall; cases h; exact fun c hc => List.all_eq_true.1 hall c hc
    · cases h
  · split at h
    · rename_i ho; cases h; intro c hc; simp at hc; subst hc; exact ho
    · cases h
theorem fillV_len {place : Nat → Option (Nat × Nat)} : ∀ (vs : List (Nat × V)) (cs cs' : List V), fillV place cs vs = some cs' → cs'.length = cs.length ∧ ((∀ c ∈ cs, c.one = true) → ∀ c ∈ cs', c.one = true)
  | [], cs, cs', h => by cases h; exact ⟨rfl, fun h => h⟩
  | (i, v) :: vs, cs, cs', h => by
    simp only [fillV] at h
    split at h
    · rename_i off size xs hpl hxs
      split at h
      · rename_i hc
        obtain ⟨h1, h2⟩ := fillV_len vs _ cs' h
        refine ⟨by rw [h1]; simp [setAt]; omega, fun ha => h2 (fun c hc' => ?_)⟩
        unfold setAt at hc'
        rcases List.mem_append.1 hc' with q | q
        · rcases List.mem_append.1 q with q | q
          · exact ha c (List.mem_of_mem_take q)
          · exact cellsV_one hxs c q
        · exact ha c (List.mem_of_mem_drop q)
      · cases h
    · cases h

theorem sound_buildSlice (hM : RelM w ρ m) (hT : RelT w ρ m t a) {T : TypeId} {n : Nat} {parts : Array (Nat × Operand)} (ho : o.op = .buildSlice T n parts) (h : evBuildSl P t m T n parts = some (p, v, m')) : OpOk P w ρ m a o v m' := by
  unfold evBuildSl at h
  split at h
  · rename_i E hE
    split at h
    · rename_i zs hz
      split at h
      · rename_i hc
        obtain ⟨hsm, hcap, hn⟩ := hc
        split at h
        · rename_i cs hf
          simp only [Option.some.injEq, Prod.mk.injEq] at h
          obtain ⟨_, rfl, rfl⟩ := h
          obtain ⟨i, z, hi, hz', his, hzs, hs0, hby, hz1⟩ := smT_spec hsm
          obtain ⟨i', z', hi', hz'', hl, hr⟩ := zero_rel (w := w) (ρ := ρ) (m := m) hz
          rw [hi] at hi'
          cases hi'
          rw [hz'] at hz''
          cases hz''
          obtain ⟨_, _, _, _, hzz, hone⟩ := zeT_spec hz
          obtain ⟨p1, p2⟩ := parts_rel hT parts
          have hzsz : z.cells.size = szT P E := by omega
          have hzl : zs.length = szT P E := by omega
          have hmade : madeCells z.cells (n * szT P E) = (Array.range (n * szT P E)).map (z.cells[· % z.cells.size]!) := rfl
          have hrl : (repL n zs).length = n * szT P E := by simp [repL, hzl]
          obtain ⟨ys, h1, h2, h3⟩ := fillV_sound _ _ (repL n zs) (madeCells z.cells (n * szT P E)) cs (by rw [hrl, size_madeCells]) (fun j c y a1 a2 => by
            have hj : j < n * szT P E := by rw [← hrl]; exact (List.getElem?_eq_some_iff.1 a1).1
            rw [repL_get (by rw [hzl]; exact hj), hzl] at a1
            have hjm : j % szT P E < z.cells.size := by rw [hzsz]; exact Nat.mod_lt _ hs0
            have hy : y = z.cells[j % szT P E] := by
              simp [madeCells, hj, hzsz, Nat.mod_lt _ hs0] at a2
              rw [← a2]
            exact hr (j % szT P E) c y a1 (by rw [hy]; simp [hjm])) p1 p2 hf
          obtain ⟨hcsl0, hone0⟩ := fillV_len _ _ _ hf
          have hone' : ∀ (j : Nat) c, cs[j]? = some c → c.one = true := fun j c hj => hone0 (fun c' hc' => by
            unfold repL at hc'
            obtain ⟨l, hl1, hl2⟩ := List.mem_flatten.1 hc'
            rw [(List.mem_replicate.1 hl1).2, hzz] at hl2
            obtain ⟨c0, g1, rfl⟩ := List.mem_map.1 hl2
            exact hone c0 (by rw [hz'] at *; simp_all)) c (List.mem_of_getElem? hj)
          have hcsl : cs.length = n * szT P E := hcsl0.trans hrl
          have hb : Below w.heap.size w (w.alloc (.cells ys E)) := (Below.refl _ _).alloc (Nat.le_refl _) _
          have hchl : (chunks n (szT P E) cs).length = n := by simp [chunks]
          have hch : ∀ i' e', (chunks n (szT P E) cs)[i']? = some e' → i' < n ∧ e' = (cs.drop (i' * szT P E)).take (szT P E) := by
            intro i' e' h1
            have hi' : i' < n := by have := (List.getElem?_eq_some_iff.1 h1).1; omega
            unfold chunks at h1
            rw [List.getElem?_map, List.getElem?_range hi'] at h1
            simp at h1
            exact ⟨hi', h1.symm⟩
          have hM' := hM.push hb w.heap.size n E (szT P E) (chunks n (szT P E) cs) ys (Nat.le_refl _) hs0 (heap_alloc_new w _) (by omega) (by omega) (by unfold maxLen; omega) (fun e' he' => by
            obtain ⟨i', hi'⟩ := List.getElem?_of_mem he'
            obtain ⟨hi'', rfl⟩ := hch i' e' hi'
            have : (i' + 1) * szT P E ≤ n * szT P E := Nat.mul_le_mul_right _ hi''
            rw [Nat.succ_mul] at this
            simp; omega) (fun i' j e' u a1 a2 => by
            obtain ⟨hi'', rfl⟩ := hch i' e' a1
            obtain ⟨hj, a2⟩ := sub_get a2
            have hlt : i' * szT P E + j < ys.size := by rw [← h2]; exact (List.getElem?_eq_some_iff.1 a2).1
            have hy : ys[i' * szT P E + j]? = some ys[i' * szT P E + j] := Array.getElem?_eq_getElem hlt
            exact ⟨hone' _ _ a2, _, hy, h3 _ _ _ a2 hy⟩)
          have af := After.of_push hM hb (Nat.le_refl _) hM'
          have rv := RelV.sl (w := w.alloc (.cells ys E)) (ρ := ρ ++ [⟨w.heap.size, n, szT P E⟩]) (B := bad (m ++ [.cells .own E (szT P E) (chunks n (szT P E) cs)]) (ρ ++ [⟨w.heap.size, n, szT P E⟩])) m.length n ⟨w.heap.size, n, szT P E⟩ (by rw [← hM.len]; simp) (Nat.le_refl _) (by show n ≤ maxLen; unfold maxLen; omega)
          refine ⟨_, _, _, ?_, af, .inl ⟨_, rfl, rv⟩, by simp [isPure, ho], fun _ => hb⟩
          simp only [execOp, ho]
          refine run_v ?_
          have hpl : (Array.map (fun x => (x.fst, a.eval x.snd)) parts).toList = parts.toList.map fun (i, x) => (i, a.eval x) := by simp
          have hfill : Instr.fill (fun i => some (i * szT P E, szT P E)) ((Array.range (n * szT P E)).map ((if n * szT P E = 0 then #[] else z.cells)[· % (if n * szT P E = 0 then #[] else z.cells).size]!)) (parts.toList.map fun (i, x) => (i, a.eval x)) = some ys := by
            by_cases hn0 : n * szT P E = 0
            · have e1 : madeCells z.cells (n * szT P E) = #[] := by rw [hn0]; simp [madeCells]
              have e2 : ((Array.range (n * szT P E)).map ((if n * szT P E = 0 then #[] else z.cells)[· % (if n * szT P E = 0 then #[] else z.cells).size]!)) = (#[] : Array Value) := by
                apply Array.eq_empty_of_size_eq_zero
                simp [hn0]
              rw [e1] at h1
              rw [e2]; exact h1
            · rw [if_neg hn0]; exact h1
          have hlim : ¬ (n * szT P E > 2 ^ 24) := by omega
          have hzv : (zeroValue E).run P w = .ok z w := by simp [zeroValue, typeInfo, hi, hz', go_sem]
          have hnew : ∀ c : Array Value, (newRow E c).run P w = .ok ⟨w.heap.size, 0, none⟩ (w.alloc (.cells c E)) := fun c => by simp [newRow, go_sem]
          by_cases hn0 : n * szT P E = 0
          · simp only [if_pos hn0] at hfill
            simp only [Instr.buildSlice, Sem.run_bind, run_underlying (slT_spec hE), Result.andThen_ok, run_sizeOf hs0, if_neg hlim, if_pos hn0, Sem.run_pure, hpl, hfill, hnew]
          · simp only [if_neg hn0] at hfill
            simp only [Instr.buildSlice, Sem.run_bind, run_underlying (slT_spec hE), Result.andThen_ok, run_sizeOf hs0, if_neg hlim, if_neg hn0, hzv, Sem.run_pure, hpl, hfill, hnew]
        · cases h
      · cases h
    · cases h
  · cases h
end
end Go.Proofs.Yteogokmbedmkjaa
