import Derived.Test.YteogokmbedmkjaaF8
/- every operation that is no call, on -/
namespace Go.Proofs.Yteogokmbedmkjaa
open Go.RowKit
section
variable {P : Program} {w : World} {ρ : List Re} {m : Mem} {a : Act} {t : List (Nat × V)} {o : Oper} {v : V} {m' : Mem} {p : Prop}

theorem sound_bin (hM : RelM w ρ m) (hT : RelT w ρ m t a) {op : BinOp} {T T' : TypeId} {x y : Operand} (ho : o.op = .binOp op T x y T') (h : evOp P t m (.binOp op T x y T') = some (p, v, m')) (hp : p) : OpOk P w ρ m a o v m' := by
  simp only [evOp] at h
  split at h
  · rename_i q u hb
    simp only [Option.some.injEq, Prod.mk.injEq] at h
    obtain ⟨rfl, rfl, rfl⟩ := h
    obtain ⟨z, hr, hv⟩ := evBin_sound (P := P) (T := T) (o1 := x) (o2 := y) hb hp (evO_rel hT x) (evO_rel hT y)
    refine opok_pure hM (x := z) ?_ hv
    simp only [execOp, ho]
    exact run_v hr
  · cases h

theorem sound_un (hM : RelM w ρ m) (hT : RelT w ρ m t a) {op : UnOp} {T : TypeId} {x : Operand} (ho : o.op = .unOp op T x) (h : evOp P t m (.unOp op T x) = some (p, v, m')) : OpOk P w ρ m a o v m' := by
  simp only [evOp, okO] at h
  split at h
  · rename_i u hu
    simp only [Option.some.injEq, Prod.mk.injEq] at h
    obtain ⟨_, rfl, rfl⟩ := h
    obtain ⟨z, hr, hv⟩ := evUn_sound (P := P) hu (evO_rel hT x)
    refine opok_pure hM (x := z) ?_ hv
    simp only [execOp, ho]
    exact run_v hr
  · cases h

theorem sound_extract (hM : RelM w ρ m) (hT : RelT w ρ m t a) {x : Operand} {i : Nat} (ho : o.op = .extract x i) (h : evOp P t m (.extract x i) = some (p, v, m')) : OpOk P w ρ m a o v m' := by
  have hx := evO_rel hT x
  simp only [evOp] at h
  generalize he : a.eval x = ex at hx
  split at h
  · rename_i vs hv
    rw [hv] at hx
    cases hx with
    | tup _ xs hl hh =>
      simp only [okO] at h
      split at h
      · rename_i u hu
        simp only [Option.some.injEq, Prod.mk.injEq] at h
        obtain ⟨_, rfl, rfl⟩ := h
        have hlt : i < xs.size := by rw [← hl]; exact (List.getElem?_eq_some_iff.1 hu).1
        have hx' : xs[i]? = some xs[i] := Array.getElem?_eq_getElem hlt
        refine opok_pure hM (x := xs[i]) ?_ (hh i _ _ hu hx')
        simp only [execOp, ho, he]
        exact run_v (by simp [Instr.extract, hlt])
      · cases h
  · cases h

theorem fdT_spec {T : TypeId} {j off ft : Nat} (h : fdT P T j = some (off, ft)) : ∃ fs f, P.underlying T = some (.struct fs) ∧ fs[j]? = some f ∧ f.offset = off ∧ f.type = ft ∧ 0 < szT P ft := by
  unfold fdT at h
  split at h
  · rename_i fs hu
    cases hf : fs[j]? with
    | none => rw [hf] at h; cases h
    | some f =>
      rw [hf] at h
      simp only [Option.bind_some] at h
      split at h
      · cases h
      · rename_i hn
        simp only [Option.some.injEq, Prod.mk.injEq] at h
        obtain ⟨rfl, rfl⟩ := h
        exact ⟨fs, f, hu, hf, rfl, rfl, by unfold szT; omega⟩
  · cases h

theorem run_fieldAt {T : TypeId} {j off ft b q : Nat} (h : fdT P T j = some (off, ft)) : (Instr.fieldAt T (.pointer (some ⟨b, q, none⟩)) j).run P w = .ok (.pointer (some ⟨b, q + off, none⟩)) w := by
  obtain ⟨fs, f, h1, h2, h3, h4, h5⟩ := fdT_spec h
  subst h3; subst h4
  have hne : ¬ szT P f.type = 0 := by omega
  simp only [Instr.fieldAt, Sem.run_bind, run_underlying h1, Result.andThen_ok, h2, Instr.sureAddr, Sem.run_pure, fieldPlace, run_sizeOf h5, if_neg hne, addr_add]

theorem sound_fieldAddr (hM : RelM w ρ m) (hT : RelT w ρ m t a) {T : TypeId} {x : Operand} {j : Nat} (ho : o.op = .fieldAddr T x j) (h : evOp P t m (.fieldAddr T x j) = some (p, v, m')) : OpOk P w ρ m a o v m' := by
  have hx := evO_rel hT x
  simp only [evOp] at h
  generalize he : a.eval x = ex at hx
  split at h
  · rename_i off ft cs q hfd hv
    rw [hv] at hx
    cases hx with
    | bp _ _ b off' Y h1 h2 h3 h4 h5 =>
      simp only [okR, Option.some.injEq, Prod.mk.injEq] at h
      obtain ⟨_, rfl, rfl⟩ := h
      refine opok_pure hM (x := .pointer (some ⟨b, off' + (q + off), none⟩)) ?_ (.bp _ _ b off' Y h1 h2 h3 h4 h5)
      simp only [execOp, ho, he]
      rw [← Nat.add_assoc]
      exact run_v (run_fieldAt hfd)
  · rename_i off ft b i q hfd hv
    rw [hv] at hx
    cases hx with
    | ptr _ _ _ r hr =>
      simp only [okR, Option.some.injEq, Prod.mk.injEq] at h
      obtain ⟨_, rfl, rfl⟩ := h
      refine opok_pure hM (x := .pointer (some ⟨r.blk, i * r.sz + (q + off), none⟩)) ?_ (.ptr _ _ _ r hr)
      simp only [execOp, ho, he]
      rw [← Nat.add_assoc]
      exact run_v (run_fieldAt hfd)
  · cases h

theorem sound_field (hM : RelM w ρ m) (hT : RelT w ρ m t a) {T : TypeId} {x : Operand} {j : Nat} (ho : o.op = .field T x j) (h : evOp P t m (.field T x j) = some (p, v, m')) : OpOk P w ρ m a o v m' := by
  have hx := evO_rel hT x
  simp only [evOp] at h
  generalize he : a.eval x = ex at hx
  split at h
  · rename_i off ft cs hfd hv
    rw [hv] at hx
    cases hx with
    | agg _ xs hl hh =>
      simp only [okO] at h
      split at h
      · rename_i u hu
        simp only [Option.some.injEq, Prod.mk.injEq] at h
        obtain ⟨_, rfl, rfl⟩ := h
        obtain ⟨fs, f, h1, h2, h3, h4, h5⟩ := fdT_spec hfd
        subst h3; subst h4
        obtain ⟨y, hr, hv'⟩ := partV_part (P := P) hl hh hu
        refine opok_pure hM (x := y) ?_ hv'
        simp only [execOp, ho, he]
        exact run_v (by simp only [Instr.field, Sem.run_bind, run_underlying h1, Result.andThen_ok, h2, asAgg, Sem.run_pure, hr])
      · cases h
  · cases h

theorem slT_spec {T E : TypeId} (h : slT P T = some E) : P.underlying T = some (.slice E) := by
  unfold slT at h
  split at h
  · rename_i e hu; cases h; exact hu
  · cases h
theorem arT_spec {T E : TypeId} {n : Nat} (h : arT P T = some (n, E)) : P.underlying T = some (.array n E) := by
  unfold arT at h
  split at h
  · rename_i k e hu; cases h; exact hu
  · cases h

theorem run_indexAt_sl {T E : TypeId} {k : IntKind} {n : Int} {b off len c : Nat} (hE : slT P T = some E) (hp : 0 < szT P E) (h0 : 0 ≤ n) (h1 : n < (len : Int)) :
    (Instr.indexAt T (.slice (some ⟨b, off, none⟩) len c) (.int k n)).run P w = .ok (.pointer (some ⟨b, off + n.toNat * szT P E, none⟩)) w := by
  simp only [Instr.indexAt, asIntOf, Sem.run_bind, Sem.run_pure, Result.andThen_ok, run_underlying (slT_spec hE), if_pos (And.intro h0 h1), run_sizeOf hp, addr_add]
theorem run_indexAt_ar {T E : TypeId} {k : IntKind} {n : Int} {b off len : Nat} (hE : arT P T = some (len, E)) (hp : 0 < szT P E) (h0 : 0 ≤ n) (h1 : n < (len : Int)) :
    (Instr.indexAt T (.pointer (some ⟨b, off, none⟩)) (.int k n)).run P w = .ok (.pointer (some ⟨b, off + n.toNat * szT P E, none⟩)) w := by
  simp only [Instr.indexAt, asIntOf, Sem.run_bind, Sem.run_pure, Result.andThen_ok, run_underlying (arT_spec hE), Instr.sureAddr, if_pos (And.intro h0 h1), run_sizeOf hp, addr_add]

theorem sound_indexAddr (hM : RelM w ρ m) (hT : RelT w ρ m t a) {T : TypeId} {x ix : Operand} (ho : o.op = .indexAddr T x ix) (h : evOp P t m (.indexAddr T x ix) = some (p, v, m')) (hp : p) : OpOk P w ρ m a o v m' := by
  have hx := evO_rel hT x
  have hix := evO_rel hT ix
  simp only [evOp] at h
  generalize he : a.eval x = ex at hx
  generalize hei : a.eval ix = ei at hix
  split at h
  · rename_i k n hvi
    rw [hvi] at hix
    cases hix
    split at h
    · rename_i E es hE hv
      rw [hv] at hx
      cases hx with
      | lst _ b off c s Y h1 h2 h3 h4 h5 h6 h7 h8 =>
        split at h
        · rename_i e hes
          split at h
          · rename_i hsz
            simp only [Option.some.injEq, Prod.mk.injEq] at h
            obtain ⟨rfl, rfl, rfl⟩ := h
            have hlt : n.toNat < es.length := (List.getElem?_eq_some_iff.1 hes).1
            have hs : s = szT P E := (h5 e (List.mem_of_getElem? hes)).symm.trans hsz.1
            have hrv := RelV.bp (w := w) (ρ := ρ) (B := bad m ρ) e 0 b (off + n.toNat * s) (fun j => Y n.toNat j) h1 h2 (fun j u hu => h6 n.toNat j e u hes hu) (fun j u hu => h7 n.toNat j e u hes hu) (fun j u hu => h8 n.toNat j e u hes hu)
            refine opok_pure hM (x := .pointer (some ⟨b, off + n.toNat * s + 0, none⟩)) ?_ hrv
            simp only [execOp, ho, he, hei, Nat.add_zero]
            rw [hs]
            exact run_v (run_indexAt_sl hE hsz.2 hp (by omega))
          · cases h
        · cases h
      | lnil => simp at h
    · rename_i E b k' hE hv
      rw [hv] at hx
      cases hx with
      | sl _ _ r hr hn hm =>
        split at h
        · rename_i wr ty sz es hb
          split at h
          · rename_i hsz
            simp only [Option.some.injEq, Prod.mk.injEq] at h
            obtain ⟨rfl, rfl, rfl⟩ := h
            obtain ⟨r0, cur, k1, k2, _⟩ := hM.cells b wr ty sz es hb
            rw [hr] at k1
            cases k1
            have hrv := RelV.ptr (w := w) (ρ := ρ) (B := bad m ρ) b n.toNat 0 r hr
            refine opok_pure hM (x := .pointer (some ⟨r.blk, n.toNat * r.sz + 0, none⟩)) ?_ hrv
            simp only [execOp, ho, he, hei, Nat.add_zero]
            rw [k2, hsz.1]
            have := run_indexAt_sl (P := P) (w := w) (k := k) (b := r.blk) (off := 0) (c := r.cap) hE hsz.2 hp.1 hp.2
            rw [Nat.zero_add] at this
            exact run_v this
          · cases h
        · cases h
    · rename_i cs q hv
      rw [hv] at hx
      cases hx with
      | bp _ _ b off Y h1 h2 h3 h4 h5 =>
        split at h
        · rename_i k' E hE
          split at h
          · rename_i hsz
            simp only [Option.some.injEq, Prod.mk.injEq] at h
            obtain ⟨rfl, rfl, rfl⟩ := h
            refine opok_pure hM (x := .pointer (some ⟨b, off + (q + n.toNat * szT P E), none⟩)) ?_ (.bp _ _ b off Y h1 h2 h3 h4 h5)
            simp only [execOp, ho, he, hei]
            rw [← Nat.add_assoc]
            exact run_v (run_indexAt_ar hE hsz hp.1 hp.2)
          · cases h
        · cases h
    · rename_i b i q hv
      rw [hv] at hx
      cases hx with
      | ptr _ _ _ r hr =>
        split at h
        · rename_i k' E hE
          split at h
          · rename_i hsz
            simp only [Option.some.injEq, Prod.mk.injEq] at h
            obtain ⟨rfl, rfl, rfl⟩ := h
            refine opok_pure hM (x := .pointer (some ⟨r.blk, i * r.sz + (q + n.toNat * szT P E), none⟩)) ?_ (.ptr _ _ _ r hr)
            simp only [execOp, ho, he, hei]
            rw [← Nat.add_assoc]
            exact run_v (run_indexAt_ar hE hsz hp.1 hp.2)
          · cases h
        · cases h
    · cases h
  · cases h

theorem sound_index (hM : RelM w ρ m) (hT : RelT w ρ m t a) {T : TypeId} {x ix : Operand} (ho : o.op = .index T x ix) (h : evOp P t m (.index T x ix) = some (p, v, m')) (hp : p) : OpOk P w ρ m a o v m' := by
  have hx := evO_rel hT x
  have hix := evO_rel hT ix
  simp only [evOp] at h
  generalize he : a.eval x = ex at hx
  generalize hei : a.eval ix = ei at hix
  split at h
  · rename_i k n k' E cs hvi hE hv
    rw [hvi] at hix
    cases hix
    rw [hv] at hx
    cases hx with
    | agg _ xs hl hh =>
      split at h
      · rename_i u hu
        split at h
        · rename_i hsz
          simp only [Option.some.injEq, Prod.mk.injEq] at h
          obtain ⟨rfl, rfl, rfl⟩ := h
          obtain ⟨y, hr, hv'⟩ := partV_part (P := P) hl hh hu
          refine opok_pure hM (x := y) ?_ hv'
          simp only [execOp, ho, he, hei]
          exact run_v (by simp only [Instr.index, asIntOf, Sem.run_bind, Sem.run_pure, Result.andThen_ok, run_underlying (arT_spec hE), if_pos hp, run_sizeOf hsz, hr])
        · cases h
      · cases h
  · cases h

theorem sound_makeFunc (hM : RelM w ρ m) (hT : RelT w ρ m t a) {fn : Fn} {f c : Array Operand} (ho : o.op = .makeFunc fn f c) : OpOk P w ρ m a o (.clo fn (f.toList.map (evO t)) (c.toList.map (evO t))) m := by
  refine opok_pure hM (x := .func fn (f.map a.eval) (c.map a.eval)) ?_ (.clo _ _ _ _ _ (by simp) (by simp) ?_ ?_)
  · simp only [execOp, ho]
    exact run_v (by simp [Instr.makeFunc])
  · intro i u y h1 h2
    simp only [List.getElem?_map, Option.map_eq_some_iff] at h1
    simp only [Array.getElem?_map, Option.map_eq_some_iff] at h2
    obtain ⟨o1, g1, rfl⟩ := h1
    obtain ⟨o2, g2, rfl⟩ := h2
    rw [Array.getElem?_toList, g2] at g1
    cases g1
    exact evO_rel hT _
  · intro i u y h1 h2
    simp only [List.getElem?_map, Option.map_eq_some_iff] at h1
    simp only [Array.getElem?_map, Option.map_eq_some_iff] at h2
    obtain ⟨o1, g1, rfl⟩ := h1
    obtain ⟨o2, g2, rfl⟩ := h2
    rw [Array.getElem?_toList, g2] at g1
    cases g1
    exact evO_rel hT _
end
end Go.Proofs.Yteogokmbedmkjaa
