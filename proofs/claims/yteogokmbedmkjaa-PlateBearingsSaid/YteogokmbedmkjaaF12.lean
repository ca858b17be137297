import Derived.Test.YteogokmbedmkjaaF11
/- slices made and cut, in the model as in the plain reading -/
namespace Go.Proofs.Yteogokmbedmkjaa
open Go.RowKit
section
variable {P : Program} {w : World} {ρ : List Re} {m : Mem} {a : Act} {t : List (Nat × V)} {o : Oper} {v : V} {m' : Mem} {p : Prop}

theorem zeT_spec {E : TypeId} {zs : List V} (h : zeT P E = some zs) : ∃ i z, P.info? E = some i ∧ i.zero = some z ∧ zs = z.cells.toList.map ofC ∧ (∀ c ∈ z.cells.toList, (ofC c).one = true) := by
  unfold zeT at h
  cases hi : P.info? E with
  | none => rw [hi] at h; cases h
  | some i =>
    rw [hi] at h
    simp only [Option.bind_some] at h
    cases hzz : i.zero with
    | none => rw [hzz] at h; cases h
    | some z =>
      rw [hzz] at h
      simp only [Option.bind_some, oneC] at h
      split at h
      · rename_i hall
        cases h
        exact ⟨i, z, rfl, hzz, rfl, fun c hc => List.all_eq_true.1 hall _ (List.mem_map.2 ⟨c, hc, rfl⟩)⟩
      · cases h

theorem madeCells_get {z : Array Value} {n i j : Nat} (hi : i < n) (hj : j < z.size) : (madeCells z (n * z.size))[i * z.size + j]? = some z[j] := by
  have hlt : i * z.size + j < n * z.size := by
    have : (i + 1) * z.size ≤ n * z.size := Nat.mul_le_mul_right _ hi
    rw [Nat.succ_mul] at this; omega
  have h2 : (i * z.size + j) % z.size = j := by rw [Nat.mul_comm, Nat.mul_add_mod]; exact Nat.mod_eq_of_lt hj
  simp [madeCells, hlt, h2, hj]

theorem sound_makeSlice (hM : RelM w ρ m) (hT : RelT w ρ m t a) {T : TypeId} {l c : Operand} (ho : o.op = .makeSlice T l c) (h : evMake P t m T l c = some (p, v, m')) (hp : p) : OpOk P w ρ m a o v m' := by
  have hl := evO_rel hT l
  have hc := evO_rel hT c
  unfold evMake at h
  generalize hel : a.eval l = el at hl
  generalize hec : a.eval c = ec at hc
  split at h
  · rename_i E k n k' n' hE hvl hvc
    rw [hvl] at hl
    rw [hvc] at hc
    cases hl
    cases hc
    split at h
    · rename_i zs hz
      split at h
      · rename_i hsm
        simp only [Option.some.injEq, Prod.mk.injEq] at h
        obtain ⟨rfl, rfl, rfl⟩ := h
        obtain ⟨rfl, h0, h1⟩ := hp
        obtain ⟨q, rfl⟩ := Int.eq_ofNat_of_zero_le h0
        obtain ⟨i, z, hi, hz', his, hzs, hs0, hby, hz1⟩ := smT_spec hsm
        obtain ⟨i', z', hi', hz'', hzz, hone⟩ := zeT_spec hz
        rw [hi] at hi'
        cases hi'
        rw [hz'] at hz''
        cases hz''
        have hbytes : i.bytes * q ≤ 281474976710656 := by
          calc i.bytes * q ≤ 100000000 * 1000000 := Nat.mul_le_mul hby (by omega)
            _ ≤ _ := by decide
        obtain ⟨w', hr, ho', hg⟩ := run_make_full (P := P) w 0 T E i z (szT P E) (slT_spec hE) hi hz' his k k' q hbytes (by unfold maxLen; omega) (Nat.zero_le _)
        have hb : Below w.heap.size w w' := ⟨hg.os, hg.tape, hg.output, hg.size, fun k hk => hg.block k hk (by simp)⟩
        rcases ho'.2 with ⟨e1, _⟩ | ⟨g, cap, cur, e1, _, e3, e4, e5, e6, e7⟩
        · cases e1
        · injection e1 with e1 e1' e1''
          simp at e1
          subst e1; subst e1''
          have hzl : zs.length = szT P E := by rw [hzz]; simp; omega
          have hcur : cur = madeCells z.cells (q * szT P E) := by
            have : cur.toList = (madeCells z.cells (q * szT P E)).toList := by
              rw [← e7, List.take_of_length_le (by simp; omega)]
            exact Array.toList_inj.1 this
          have hreplen : (List.replicate q zs).length = q := by simp
          obtain ⟨af, rv⟩ := hM.move (w' := w') (m1 := m) rfl (fun _ _ h _ => h) w.heap.size hg.size (fun k hk _ _ => hg.block k hk (by simp)) hg.os hg.tape hg.output q E (szT P E) (List.replicate q zs) cur
            hM.fresh (.inr (Nat.le_refl _)) hs0 e3 e6 (by simp) (by unfold maxLen; omega) (fun e he => by rw [(List.mem_replicate.1 he).2]; exact hzl) (fun i' j e u a1 a2 => by
              have hi' : i' < q := by have := (List.getElem?_eq_some_iff.1 a1).1; simpa using this
              rw [List.getElem?_replicate, if_pos hi'] at a1
              cases a1
              have hj : j < z.cells.size := by have := (List.getElem?_eq_some_iff.1 a2).1; omega
              have hu : u = ofC z.cells[j] := by
                rw [hzz, List.getElem?_map] at a2
                have : z.cells.toList[j]? = some z.cells[j] := by simp [hj]
                rw [this] at a2
                simpa using a2.symm
              subst hu
              refine ⟨hone _ (by simp), z.cells[j], ?_, ofC_rel _ _ _ _⟩
              have hsz : z.cells.size = szT P E := by omega
              rw [hcur, ← hsz]
              exact madeCells_get hi' hj)
          rw [hreplen] at rv
          refine ⟨_, w', _, ?_, af, .inl ⟨_, rfl, rv⟩, by simp [isPure, ho], fun _ => hb⟩
          simp only [execOp, ho, hel, hec]
          exact run_v hr
      · cases h
    · cases h
  · cases h

theorem intT_spec {D : TypeId} {k : IntKind} (hk : intT P D = some k) : P.underlying D = some (.int k) := by
  unfold intT at hk
  split at hk
  · rename_i q hu; cases hk; exact hu
  · cases hk
theorem sound_convert (hM : RelM w ρ m) (hT : RelT w ρ m t a) {S D : TypeId} {x : Operand} (ho : o.op = .convert S D x) {k : IntKind} (hk : intT P D = some k) {k' : IntKind} {n : Int} (hx : evO t x = .int k' n) {ks : IntKind} (hS : intT P S = some ks) :
    OpOk P w ρ m a o (.int k (k.wrap n)) m := by
  have hr := evO_rel hT x
  rw [hx] at hr
  generalize he : a.eval x = ex at hr
  cases hr
  refine opok_pure hM (x := .int k (k.wrap n)) ?_ (.int _ _)
  simp only [execOp, ho, he]
  refine run_v ?_
  simp only [convert, Sem.run_bind, run_underlying (intT_spec hS), run_underlying (intT_spec hk), Result.andThen_ok]
  simp [Conv.intToInt]

theorem sound_len (hM : RelM w ρ m) (hT : RelT w ρ m t a) {T : TypeId} {x : Operand} (ho : o.op = .call ⟨.builtin .len, ⟨[x]⟩, ⟨[T]⟩⟩) {u : V} (h : evLen P T (evO t x) = some u) : OpOk P w ρ m a o u m := by
  have hr := evO_rel hT x
  generalize he : a.eval x = ex at hr
  generalize evO t x = vx at h hr
  have fin : ∀ y : Value, (Builtin.len_ #[T] o.type #[ex]).run P w = .ok y w → RelV w ρ (bad m ρ) u y → OpOk P w ρ m a o u m := by
    intro y h1 h2
    refine opok_pure hM (x := y) ?_ h2
    simp only [execOp, ho, resolve, invoke, builtin, Sem.run_bind, Sem.run_pure, Result.andThen_ok, List.map_toArray, List.map_cons, List.map_nil, he, h1]
  unfold evLen at h
  split at h
  · rename_i E b n hE
    cases h
    cases hr with
    | sl _ _ r hr0 hn hm => exact fin _ (by simp [Builtin.len_, run_underlying (slT_spec hE), goInt]) (.int _ _)
  · rename_i E es hE
    cases h
    cases hr with
    | lst _ b off c s Y h1 h2 h3 h4 h5 h6 h7 h8 => exact fin _ (by simp [Builtin.len_, run_underlying (slT_spec hE), goInt]) (.int _ _)
    | lnil => exact fin _ (by simp [Builtin.len_, run_underlying (slT_spec hE), goInt]) (.int _ _)
  · rename_i E hE
    cases h
    cases hr
    exact fin _ (by simp [Builtin.len_, run_underlying (slT_spec hE), goInt]) (.int _ _)
  · rename_i s
    split at h
    · rename_i hs
      cases h
      cases hr with
      | str _ b hb =>
        have hu : P.underlying T = some .string := by
          unfold strT at hs
          split at hs
          · assumption
          · cases hs
        have hz : b.size = s.length := congrArg List.length hb
        exact fin (.int .i64 s.length) (by simp [Builtin.len_, run_underlying hu, goInt, hz]) (.int _ _)
    · cases h
  · cases h

theorem sound_max (hM : RelM w ρ m) (hT : RelT w ρ m t a) {ts : Array TypeId} {x y : Operand} (ho : o.op = .call ⟨.builtin .max, ⟨[x, y]⟩, ts⟩) {u : V} (h : evMax (evO t x) (evO t y) = some u) : OpOk P w ρ m a o u m := by
  have hx := evO_rel hT x
  have hy := evO_rel hT y
  generalize he : a.eval x = ex at hx
  generalize he' : a.eval y = ey at hy
  unfold evMax at h
  split at h
  · rename_i k n k' n' h1 h2
    cases h
    rw [h1] at hx
    rw [h2] at hy
    cases hx
    cases hy
    refine opok_pure hM (x := .int k (if n' > n then n' else n)) ?_ (.int _ _)
    simp [execOp, ho, resolve, invoke, builtin, he, he', Builtin.max_, Builtin.max2]
  · cases h

theorem sound_min (hM : RelM w ρ m) (hT : RelT w ρ m t a) {ts : Array TypeId} {x y : Operand} (ho : o.op = .call ⟨.builtin .min, ⟨[x, y]⟩, ts⟩) {u : V} (h : evMin (evO t x) (evO t y) = some u) : OpOk P w ρ m a o u m := by
  have hx := evO_rel hT x
  have hy := evO_rel hT y
  generalize he : a.eval x = ex at hx
  generalize he' : a.eval y = ey at hy
  unfold evMin at h
  split at h
  · rename_i k n k' n' h1 h2
    cases h
    rw [h1] at hx
    rw [h2] at hy
    cases hx
    cases hy
    refine opok_pure hM (x := .int k (if n' < n then n' else n)) ?_ (.int _ _)
    simp [execOp, ho, resolve, invoke, builtin, he, he', Builtin.min_, Builtin.min2]
  · cases h

theorem sound_append (hM : RelM w ρ m) (hT : RelT w ρ m t a) {T : TypeId} {s x : Operand} (ho : o.op = .call ⟨.builtin .append, ⟨[s, x]⟩, ⟨[T, T]⟩⟩) (h : evAppend P t m T s x = some (p, v, m')) (hp : p) : OpOk P w ρ m a o v m' := by
  obtain ⟨y, w', ρ', h1, h2, h3⟩ := append_sound (ty := o.type) hM hT h hp
  refine ⟨_, w', ρ', ?_, h2, .inl ⟨y, rfl, h3⟩, by simp [isPure, ho], by simp [isFresh, ho]⟩
  simp only [execOp, ho, resolve, invoke, builtin, Sem.run_bind, Sem.run_pure, Result.andThen_ok, List.map_toArray, List.map_cons, List.map_nil, h1]
end
end Go.Proofs.Yteogokmbedmkjaa
