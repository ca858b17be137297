import Derived.Test.YteogokmbedmkjaaF12
/- slices cut and laid out; all operations together -/
namespace Go.Proofs.Yteogokmbedmkjaa
open Go.RowKit
section
variable {P : Program} {w : World} {ρ : List Re} {m : Mem} {a : Act} {t : List (Nat × V)} {o : Oper} {v : V} {m' : Mem} {p : Prop}

theorem run_sliceBound {k : IntKind} {n : Int} {y : Nat} {code : BoundsCode} (h0 : 0 ≤ n) (h1 : n ≤ y) : (Instr.sliceBound (.int k n) y code).run P w = .ok n.toNat w := by
  simp only [Instr.sliceBound, asIntOf, Sem.run_bind, Sem.run_pure, Result.andThen_ok, if_pos (And.intro h0 h1)]

theorem run_sliceBounds (hT : RelT w ρ m t a) {b : Bool} {len cap : Nat} {lo hi : Option Operand} {l h : Int} (hl : bound t 0 lo = some l) (hh : bound t len hi = some h) (h0 : 0 ≤ l) (h1 : l ≤ h) (h2 : h ≤ len) (h3 : len ≤ cap) :
    (Instr.sliceBounds b len cap (lo.map a.eval) (hi.map a.eval) none).run P w = .ok (l.toNat, h.toNat, cap) w := by
  have key : ∀ {x : Operand} {d : Nat} {n : Int}, bound t d (some x) = some n → ∃ k, a.eval x = .int k n := by
    intro x d n hb
    unfold bound at hb
    have hr := evO_rel hT x
    simp only at hb
    split at hb
    · rename_i k q he
      cases hb
      rw [he] at hr
      generalize a.eval x = ex at hr
      cases hr
      exact ⟨_, rfl⟩
    · cases hb
  cases hi with
  | none =>
    simp only [bound, Option.some.injEq] at hh
    subst hh
    cases lo with
    | none =>
      simp only [bound, Option.some.injEq] at hl
      subst hl
      simp [Instr.sliceBounds]
    | some x =>
      obtain ⟨k, he⟩ := key hl
      simp only [Instr.sliceBounds, Option.map_some, Option.map_none, he, Sem.run_bind, Sem.run_pure, Result.andThen_ok, run_sliceBound h0 h1, Int.toNat_natCast]
  | some y =>
    obtain ⟨k', he'⟩ := key hh
    have hhn : ((h.toNat : Nat) : Int) = h := by omega
    cases lo with
    | none =>
      simp only [bound, Option.some.injEq] at hl
      subst hl
      simp only [Instr.sliceBounds, Option.map_some, Option.map_none, he', Sem.run_bind, Sem.run_pure, Result.andThen_ok, run_sliceBound (y := cap) (by omega : 0 ≤ h) (by omega)]
      simp
    | some x =>
      obtain ⟨k, he⟩ := key hl
      simp only [Instr.sliceBounds, Option.map_some, Option.map_none, he, he', Sem.run_bind, Sem.run_pure, Result.andThen_ok, run_sliceBound (y := cap) (by omega : 0 ≤ h) (by omega), run_sliceBound (y := h.toNat) h0 (by omega)]

theorem sub_get {α : Type} {es : List α} {l k i : Nat} {e : α} (h : ((es.drop l).take k)[i]? = some e) : i < k ∧ es[l + i]? = some e := by
  have hi : i < k := by
    rcases Nat.lt_or_ge i k with q | q
    · exact q
    · simp [List.getElem?_take] at h; omega
  rw [List.getElem?_take_of_lt hi, List.getElem?_drop] at h
  exact ⟨hi, h⟩

theorem run_slice_sl {T E : TypeId} {b off len c : Nat} (hE : slT P T = some E) (hp : 0 < szT P E) (hT : RelT w ρ m t a) {lo hi : Option Operand} {l h : Int} (hl : bound t 0 lo = some l) (hh : bound t len hi = some h) (h0 : 0 ≤ l) (h1 : l ≤ h) (h2 : h ≤ len) (h3 : len ≤ c) :
    (Instr.sliceAt T (.slice (some ⟨b, off, none⟩) len c) (lo.map a.eval) (hi.map a.eval) none).run P w = .ok (.slice (some (if c = l.toNat then ⟨b, off, none⟩ else ⟨b, off + l.toNat * szT P E, none⟩)) (h.toNat - l.toNat) (c - l.toNat)) w := by
  simp only [Instr.sliceAt, Sem.run_bind, run_underlying (slT_spec hE), Result.andThen_ok, Instr.slice, run_sliceBounds hT hl hh h0 h1 h2 h3, run_sizeOf hp, Sem.run_pure]
  split
  · simp
  · simp [addr_add]

/-- a piece of a slice that reads as a list -/
theorem rel_sub {B : Nat → Prop} {es : List (List V)} {b off c s : Nat} {Y : Nat → Nat → Value} (hb : b < w.heap.size) (hB : ¬ B b) (hc : es.length ≤ c) (hm : c ≤ maxLen) (hs : ∀ e ∈ es, e.length = s)
    (hY : ∀ (i j : Nat) e u, es[i]? = some e → e[j]? = some u → w.cell? ⟨b, off + i * s + j, none⟩ = some (Y i j) ∧ RelV w ρ B u (Y i j) ∧ u.one = true) {l h : Nat} (h1 : l ≤ h) (h2 : h ≤ es.length) :
    RelV w ρ B (.lst ((es.drop l).take (h - l))) (.slice (some (if c = l then ⟨b, off, none⟩ else ⟨b, off + l * s, none⟩)) (h - l) (c - l)) := by
  have hlen : ((es.drop l).take (h - l)).length = h - l := by simp; omega
  have key : RelV w ρ B (.lst ((es.drop l).take (h - l))) (.slice (some ⟨b, if c = l then off else off + l * s, none⟩) ((es.drop l).take (h - l)).length (c - l)) := by
    refine .lst _ b _ (c - l) s (fun i j => Y (l + i) j) hb hB (by omega) (by omega) (fun e he => hs e (List.mem_of_mem_drop (List.mem_of_mem_take he))) ?_ ?_ ?_
    · intro i j e u a1 a2
      obtain ⟨hi, a1⟩ := sub_get a1
      have hne : ¬ c = l := by
        have := (List.getElem?_eq_some_iff.1 a1).1; omega
      rw [if_neg hne]
      have := (hY (l + i) j e u a1 a2).1
      rw [Nat.add_mul] at this
      rw [← this]
      congr 2; omega
    · intro i j e u a1 a2
      exact (hY _ j e u (sub_get a1).2 a2).2.1
    · intro i j e u a1 a2
      exact (hY _ j e u (sub_get a1).2 a2).2.2
  rw [hlen] at key
  split
  · rename_i e; rw [if_pos e] at key; exact key
  · rename_i e; rw [if_neg e] at key; exact key

theorem After.of_ro (hM : RelM w ρ m) {b : Nat} {wr : Sta} {ty sz : Nat} {es : List (List V)} (hb : m[b]? = some (.cells wr ty sz es)) : After w ρ m w ρ (m.set b (.cells .ro ty sz es)) :=
  ⟨Keep.refl _ _, fun _ _ h => h, hM.demote b _ (.inr ⟨wr, ty, sz, es, hb, rfl⟩), fun _ _ ho => owned_demote rfl ho, fun _ _ ho => owned_demote rfl ho⟩

theorem sound_slice (hM : RelM w ρ m) (hT : RelT w ρ m t a) {T : TypeId} {x : Operand} {lo hi : Option Operand} (ho : o.op = .slice T x lo hi none) (h : evSlice P t m T x lo hi = some (p, v, m')) (hp : p) : OpOk P w ρ m a o v m' := by
  have hx := evO_rel hT x
  unfold evSlice at h
  generalize he : a.eval x = ex at hx
  split at h
  · rename_i es hv
    rw [hv] at hx
    split at h
    · rename_i E l hh' hE hl hh
      split at h
      · rename_i hc
        simp only [Option.some.injEq, Prod.mk.injEq] at h
        obtain ⟨rfl, rfl, rfl⟩ := h
        obtain ⟨p0, p1, p2⟩ := hp
        cases hx with
        | lst _ b off c s Y h1 h2 h3 h4 h5 h6 h7 h8 =>
          have hs : ∀ e ∈ es, e.length = szT P E := fun e he' => by simpa using List.all_eq_true.1 hc.1 e he'
          have rv := rel_sub (w := w) (ρ := ρ) (B := bad m ρ) (b := b) (off := off) (c := c) (s := szT P E) (Y := Y) h1 h2 h3 h4 hs (fun i j e u a1 a2 => by
            have : s = szT P E := (h5 e (List.mem_of_getElem? a1)).symm.trans (hs e (List.mem_of_getElem? a1))
            rw [← this]
            exact ⟨h6 i j e u a1 a2, h7 i j e u a1 a2, h8 i j e u a1 a2⟩) (l := l.toNat) (h := hh'.toNat) (by omega) (by omega)
          have hsub : (hh' - l).toNat = hh'.toNat - l.toNat := by omega
          rw [hsub]
          refine opok_pure hM ?_ rv
          simp only [execOp, ho, he, Option.map_none]
          exact run_v (run_slice_sl hE hc.2 hT hl hh p0 p1 p2 h3)
        | lnil a0 c hc0 ha0 =>
          have hl0 : l = 0 := by simp at p2; omega
          have hh0 : hh' = 0 := by simp at p2; omega
          subst hl0; subst hh0
          have hsb : (Instr.sliceBounds true 0 c (lo.map a.eval) (hi.map a.eval) none).run P w = .ok (0, 0, c) w := run_sliceBounds (P := P) (len := 0) (cap := c) hT hl hh p0 p1 p2 (Nat.zero_le _)
          refine opok_pure hM (x := .slice ((if c = 0 then a0 else a0.map (·.add (0 * szT P E)))) (0 - 0) (c - 0)) ?_ (by
            have := RelV.lnil (w := w) (ρ := ρ) (B := bad m ρ) (if c = 0 then a0 else a0.map (·.add (0 * szT P E))) c hc0 (fun e => by
              split at e
              · assumption
              · cases a0 with
                | none => exact ha0 rfl
                | some a0 => cases e)
            simpa using this)
          simp only [execOp, ho, he, Option.map_none]
          exact run_v (by simp only [Instr.sliceAt, Sem.run_bind, run_underlying (slT_spec hE), Result.andThen_ok, Instr.slice, hsb, run_sizeOf hc.2, Sem.run_pure])
      · cases h
    · cases h
  · rename_i b n hv
    rw [hv] at hx
    split at h
    · rename_i E l hh' wr ty sz es hE hl hh hb
      split at h
      · rename_i hc
        subst hc
        simp only [Option.some.injEq, Prod.mk.injEq] at h
        obtain ⟨rfl, rfl, rfl⟩ := h
        obtain ⟨p0, p1, p2, p3⟩ := hp
        cases hx with
        | sl _ _ r hr hn hm =>
          obtain ⟨r0, cur, k1, k2, k3, k4, k5, k6, k7, k8, k9⟩ := hM.cells b wr ty _ es hb
          rw [hr] at k1
          cases k1
          have hnot : ¬ bad (m.set b (.cells .ro ty (szT P E) es)) ρ r.blk := not_owned hM hb (by simp) hr rfl
          have rv := rel_sub (w := w) (ρ := ρ) (B := bad (m.set b (.cells .ro ty (szT P E) es)) ρ) (b := r.blk) (off := 0) (c := r.cap) (s := szT P E) (Y := fun i j => (cur[i * szT P E + j]?).getD undef) (es := es) (heap_lt k4) hnot (by omega) hm k8 (fun i j e u a1 a2 => by
            obtain ⟨b1, y, b2, b3⟩ := k9 i j e u a1 a2
            have hy : ((cur[i * szT P E + j]?).getD undef) = y := by rw [b2]; rfl
            simp only [hy]
            refine ⟨?_, b3.mono (Nat.le_refl _) (fun _ _ _ => rfl) (fun k _ ho => owned_demote rfl ho) (fun _ _ h => h), b1⟩
            simp [World.cell?, k4, b2]) (l := l.toNat) (h := hh'.toNat) (by omega) (by omega)
          have hsub : (hh' - l).toNat = hh'.toNat - l.toNat := by omega
          rw [hsub]
          refine ⟨_, w, ρ, ?_, After.of_ro hM hb, .inl ⟨_, rfl, rv⟩, fun _ => ⟨rfl, rfl⟩, fun _ => Below.refl _ _⟩
          simp only [execOp, ho, he, Option.map_none]
          exact run_v (run_slice_sl hE k3 hT hl hh p0 p1 p2 hn)
      · cases h
    · cases h
  · rename_i b i q hv
    rw [hv] at hx
    split at h
    · rename_i k E wr ty sz es hE hb
      split at h
      · rename_i e hes
        split at h
        · rename_i hc
          obtain ⟨hs0, hkm, hfit⟩ := hc
          simp only [Option.some.injEq, Prod.mk.injEq] at h
          obtain ⟨rfl, rfl, rfl⟩ := h
          cases hx with
          | ptr _ _ _ r hr =>
            obtain ⟨r0, cur, k1, k2, k3, k4, k5, k6, k7, k8, k9⟩ := hM.cells b wr ty sz es hb
            rw [hr] at k1
            cases k1
            have hel : e.length = sz := k8 e (List.mem_of_getElem? hes)
            have hnot : ¬ bad (m.set b (.cells .ro ty sz es)) ρ r.blk := not_owned hM hb (by simp) hr rfl
            have hchl : (chunks k (szT P E) (e.drop q)).length = k := by simp [chunks]
            have hch : ∀ i' e', (chunks k (szT P E) (e.drop q))[i']? = some e' → i' < k ∧ e' = ((e.drop q).drop (i' * szT P E)).take (szT P E) := by
              intro i' e' h1
              have hi' : i' < k := by have := (List.getElem?_eq_some_iff.1 h1).1; omega
              unfold chunks at h1
              rw [List.getElem?_map, List.getElem?_range hi'] at h1
              simp at h1
              exact ⟨hi', by rw [← h1]; simp⟩
            have hget : ∀ i' j e' u, (chunks k (szT P E) (e.drop q))[i']? = some e' → e'[j]? = some u → j < szT P E ∧ i' < k ∧ e[q + (i' * szT P E + j)]? = some u := by
              intro i' j e' u h1 h2
              obtain ⟨hi', rfl⟩ := hch i' e' h1
              obtain ⟨hj, h2⟩ := sub_get h2
              rw [List.getElem?_drop] at h2
              exact ⟨hj, hi', h2⟩
            have rv : RelV w ρ (bad (m.set b (.cells .ro ty sz es)) ρ) (.lst (chunks k (szT P E) (e.drop q))) (.slice (some ⟨r.blk, i * sz + q, none⟩) (chunks k (szT P E) (e.drop q)).length k) := by
              refine .lst _ r.blk (i * sz + q) k (szT P E) (fun i' j => (cur[i * sz + (q + (i' * szT P E + j))]?).getD undef) (heap_lt k4) hnot (by omega) hkm ?_ ?_ ?_ ?_
              · intro e' he'
                obtain ⟨i', hi'⟩ := List.getElem?_of_mem he'
                obtain ⟨hi'', rfl⟩ := hch i' e' hi'
                have : (i' + 1) * szT P E ≤ k * szT P E := Nat.mul_le_mul_right _ hi''
                rw [Nat.succ_mul] at this
                simp; omega
              · intro i' j e' u a1 a2
                obtain ⟨_, _, a3⟩ := hget i' j e' u a1 a2
                obtain ⟨b1, y, b2, b3⟩ := k9 i _ e u hes a3
                rw [b2]
                have : i * sz + q + i' * szT P E + j = i * sz + (q + (i' * szT P E + j)) := by omega
                rw [this]
                simp [World.cell?, k4, b2]
              · intro i' j e' u a1 a2
                obtain ⟨_, _, a3⟩ := hget i' j e' u a1 a2
                obtain ⟨b1, y, b2, b3⟩ := k9 i _ e u hes a3
                rw [b2]
                exact b3.mono (Nat.le_refl _) (fun _ _ _ => rfl) (fun k _ ho => owned_demote rfl ho) (fun _ _ h => h)
              · intro i' j e' u a1 a2
                obtain ⟨_, _, a3⟩ := hget i' j e' u a1 a2
                exact (k9 i _ e u hes a3).1
            rw [hchl] at rv
            refine ⟨_, w, ρ, ?_, After.of_ro hM hb, .inl ⟨_, rfl, rv⟩, fun _ => ⟨rfl, rfl⟩, fun _ => Below.refl _ _⟩
            simp only [execOp, ho, he, Option.map_none]
            refine run_v ?_
            have hr0 : (Instr.sliceBounds false k k none none none).run P w = .ok (0, k, k) w := by simp [Instr.sliceBounds]
            simp only [Instr.sliceAt, Sem.run_bind, run_underlying (arT_spec hE), Result.andThen_ok, Instr.sureAddr, Sem.run_pure, hr0, run_sizeOf hs0, k2]
            simp [addr_add]
        · cases h
      · cases h
    · cases h
  · cases h

theorem extract_toList' (s : ByteArray) (a b : Nat) : (s.extract a b).data.toList = (s.data.toList.drop a).take (b - a) := by
  rw [ByteArray.data_extract, Array.toList_extract]
theorem sound_strSlice (hM : RelM w ρ m) (hT : RelT w ρ m t a) {T : TypeId} {x : Operand} {lo hi : Option Operand} (ho : o.op = .slice T x lo hi none) (h : evStrSlice P t T x lo hi = some (p, v)) (hp : p) : OpOk P w ρ m a o v m := by
  have hx := evO_rel hT x
  unfold evStrSlice at h
  generalize he : a.eval x = ex at hx
  split at h
  · rename_i s hv
    rw [hv] at hx
    split at h
    · rename_i l hh' hs hl hh
      simp only [Option.some.injEq, Prod.mk.injEq] at h
      obtain ⟨rfl, rfl⟩ := h
      obtain ⟨p0, p1, p2⟩ := hp
      cases hx with
      | str _ b hb =>
        have hz : b.size = s.length := congrArg List.length hb
        have hu : P.underlying T = some .string := by
          unfold strT at hs
          split at hs
          · assumption
          · cases hs
        rw [← hz] at hh
        refine opok_pure hM (x := .string (b.extract l.toNat hh'.toNat)) ?_ (.str _ _ ?_)
        · simp only [execOp, ho, he, Option.map_none]
          refine run_v ?_
          have hr := run_sliceBounds (P := P) (b := false) (cap := b.size) hT hl hh p0 p1 (by omega) (Nat.le_refl _)
          simp only [Instr.sliceAt, Sem.run_bind, run_underlying hu, Result.andThen_ok, Instr.slice]
          simp [hr]
        · rw [extract_toList', hb]
          congr 1; omega
    · cases h
  · cases h
end
end Go.Proofs.Yteogokmbedmkjaa
