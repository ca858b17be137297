import Derived.Test.YteogokmbedmkjaaF25
/- what a function hands back that it has made itself -/
namespace Go.Proofs.Yteogokmbedmkjaa
open Go.RowKit

theorem frz_plain (m : Mem) (L n : Nat) {v : V} (h : v.plain = true) (hb : ∀ b k, v ≠ .sl b k) (hc : ∀ b i o, v ≠ .ptr b i o) (ha : ∀ cs, v ≠ .agg cs) (ht : ∀ cs, v ≠ .tup cs) : frz m L n v = some v := by
  cases n with
  | zero => simp [frz, h]
  | succ n => cases v <;> simp_all [frz]
theorem lend_len {m : Mem} : (lend m).length = m.length := by simp [lend]
theorem frz_sl {m0 D X : Mem} {n j k : Nat} {st : Sta} {ty sz : Nat} {es : List (List V)} (hX : X[j]? = some (.cells st ty sz es)) (hk : k ≤ es.length) (hp : plainLL (es.take k) = true) :
    frz ((lend m0 ++ D) ++ X) m0.length (n + 1) (.sl ((lend m0 ++ D).length + j) k) = some (.lst (es.take k)) := by
  have h1 : ¬ (lend m0 ++ D).length + j < m0.length := by simp [lend]; omega
  have h2 : ((lend m0 ++ D) ++ X)[(lend m0 ++ D).length + j]? = some (.cells st ty sz es) := by
    rw [List.getElem?_append_right (by omega), Nat.add_sub_cancel_left]; exact hX
  simp only [frz, if_neg h1, h2, if_pos (And.intro hk hp)]
theorem fin_sl {m0 D X B : Mem} {j k : Nat} {st : Sta} {ty sz : Nat} {es : List (List V)} {R : V → Option Mem → Prop} (hB : B = lend m0 ++ D) (hX : X[j]? = some (.cells st ty sz es)) (hk : k ≤ es.length) (hp : plainLL (es.take k) = true) (h : R (.lst (es.take k)) none) :
    Fin m0 R (.sl (B.length + j) k) (B ++ X) := by
  subst hB
  exact .inr ⟨D ++ X, _, by simp, frz_sl (n := 3) hX hk hp, h⟩
theorem fin_sl2 {m0 D X B : Mem} {j k : Nat} {st : Sta} {ty sz : Nat} {es : List (List V)} {u u' : V} {R : V → Option Mem → Prop} (hB : B = lend m0 ++ D) (hX : X[j]? = some (.cells st ty sz es)) (hk : k ≤ es.length) (hp : plainLL (es.take k) = true) (hu : ∀ m L, frz m L 3 u = some u') (h : R (.tup [.lst (es.take k), u']) none) :
    Fin m0 R (.tup [.sl (B.length + j) k, u]) (B ++ X) := by
  subst hB
  refine .inr ⟨D ++ X, _, by simp, ?_, h⟩
  show (frzs (frz _ _ 3) _).map V.tup = _
  simp only [frzs, frz_sl (n := 2) hX hk hp, hu, Option.map_some]
theorem fin_sl3 {m0 D X B : Mem} {j k : Nat} {st : Sta} {ty sz : Nat} {es : List (List V)} {u u' x x' : V} {R : V → Option Mem → Prop} (hB : B = lend m0 ++ D) (hX : X[j]? = some (.cells st ty sz es)) (hk : k ≤ es.length) (hp : plainLL (es.take k) = true) (hu : ∀ m L, frz m L 3 u = some u') (hx : ∀ m L, frz m L 3 x = some x') (h : R (.tup [.lst (es.take k), u', x']) none) :
    Fin m0 R (.tup [.sl (B.length + j) k, u, x]) (B ++ X) := by
  subst hB
  refine .inr ⟨D ++ X, _, by simp, ?_, h⟩
  show (frzs (frz _ _ 3) _).map V.tup = _
  simp only [frzs, frz_sl (n := 2) hX hk hp, hu, hx, Option.map_some]
theorem frz_int (m : Mem) (L : Nat) (n : Nat) (k : IntKind) (i : Int) : frz m L n (.int k i) = some (.int k i) := by cases n <;> simp [frz, V.plain]
theorem frz_bool (m : Mem) (L : Nat) (n : Nat) (b : Bool) : frz m L n (.bool b) = some (.bool b) := by cases n <;> simp [frz, V.plain]

/-- what is lent comes back as it was: a function that hands over what it has made, to be written by the caller -/
theorem unlend_after {w w' : World} {ρ ρ' : List Re} {m ext : Mem} (hM : RelM w ρ m) (hmap : ∀ (b : Nat) kt et es, m[b]? = some (.map kt et es) → False) (af : After w ρ (lend m) w' ρ' (lend m ++ ext)) : After w ρ m w' ρ' (m ++ ext) := by
  have hno : ∀ k, ¬ owned (lend m) ρ k := fun k => lend_own hmap
  have hbel : Below w.heap.size w w' := ⟨af.keep.os, af.keep.tape, af.keep.output, af.keep.size, fun k hk => af.keep.block k hk (hno k)⟩
  have hlen : (lend m).length = m.length := lend_len
  have hpreρ : ∀ (b : Nat) r, b < m.length → ρ'[b]? = some r → ρ[b]? = some r := by
    intro b r hb h
    have hlt : b < ρ.length := by rw [hM.len]; exact hb
    have h3 : ρ[b]? = some ρ[b] := List.getElem?_eq_getElem hlt
    have := af.pre b _ h3
    rw [h] at this; cases this; exact h3
  have hbad : ∀ k, bad (m ++ ext) ρ' k ↔ bad (lend m ++ ext) ρ' k := by
    intro k
    constructor
    · rintro ⟨b, blk, r, h1, h2, h3, h4⟩
      rcases Nat.lt_or_ge b m.length with q | q
      · rw [List.getElem?_append_left q] at h1
        exact ⟨b, lendB blk, r, pre_get (by simp [lend, h1]), (lendB_bad blk).trans h2, h3, h4⟩
      · rw [List.getElem?_append_right q] at h1
        exact ⟨b, blk, r, by rw [List.getElem?_append_right (by omega), hlen]; exact h1, h2, h3, h4⟩
    · rintro ⟨b, blk, r, h1, h2, h3, h4⟩
      rcases Nat.lt_or_ge b (lend m).length with q | q
      · rw [List.getElem?_append_left q] at h1
        obtain ⟨b0, g1, rfl⟩ := lend_get h1
        exact ⟨b, b0, r, pre_get g1, (lendB_bad b0).symm.trans h2, h3, h4⟩
      · rw [List.getElem?_append_right q] at h1
        exact ⟨b, blk, r, by rw [List.getElem?_append_right (by omega), ← hlen]; exact h1, h2, h3, h4⟩
  have hmem : RelM w' ρ' (m ++ ext) := by
    refine ⟨by have := af.mem.len; rw [List.length_append, hlen] at this; rw [List.length_append]; exact this, ?_, ?_, ?_⟩
    · intro b st ty sz es h
      rcases Nat.lt_or_ge b m.length with q | q
      · rw [List.getElem?_append_left q] at h
        obtain ⟨r, cur, k1, k2, k3, k4, k5, k6, k7, k8, k9⟩ := hM.cells b st ty sz es h
        refine ⟨r, cur, af.pre b r k1, k2, k3, (hbel.block _ (heap_lt k4)).trans k4, k5, k6, k7, k8, fun i j e v e1 e2 => ?_⟩
        obtain ⟨g1, y, g2, g3⟩ := k9 i j e v e1 e2
        refine ⟨g1, y, g2, g3.mono hbel.size (fun k hk _ => hbel.block k hk) (fun k hk h => ?_) af.pre⟩
        exact lend_bad.1 (af.bd k hk ((hbad k).1 h))
      · rw [List.getElem?_append_right q] at h
        have h' : (lend m ++ ext)[b]? = some (.cells st ty sz es) := by rw [List.getElem?_append_right (by omega), hlen]; exact h
        obtain ⟨r, cur, k1, k2, k3, k4, k5, k6, k7, k8, k9⟩ := af.mem.cells b st ty sz es h'
        refine ⟨r, cur, k1, k2, k3, k4, k5, k6, k7, k8, fun i j e v e1 e2 => ?_⟩
        obtain ⟨g1, y, g2, g3⟩ := k9 i j e v e1 e2
        exact ⟨g1, y, g2, g3.mono (Nat.le_refl _) (fun _ _ _ => rfl) (fun k _ h => (hbad k).1 h) (fun _ _ h => h)⟩
    · have conv : ∀ (b : Nat) blk, (m ++ ext)[b]? = some blk → ∃ blk', (lend m ++ ext)[b]? = some blk' ∧ (blk ≠ .dead → blk' ≠ .dead) ∧ blk'.bad = blk.bad := by
        intro b blk h
        rcases Nat.lt_or_ge b m.length with q | q
        · rw [List.getElem?_append_left q] at h
          refine ⟨lendB blk, pre_get (by simp [lend, h]), fun hd => ?_, lendB_bad blk⟩
          cases blk with
          | cells st ty sz es => cases st <;> simp [lendB]
          | map kt et es => simp [lendB]
          | dead => exact (hd rfl).elim
        · rw [List.getElem?_append_right q] at h
          exact ⟨blk, by rw [List.getElem?_append_right (by omega), hlen]; exact h, fun h => h, rfl⟩
      intro b b' blk blk' r r' h1 h2 h3 h4 h5 h6 h7
      obtain ⟨c1, p1, p2, _⟩ := conv b blk h1
      obtain ⟨c2, q1, _, q3⟩ := conv b' blk' h3
      exact af.mem.inj b b' c1 c2 r r' p1 (p2 h2) q1 (q3.trans h4) h5 h6 h7
    · intro b kt et es h
      rcases Nat.lt_or_ge b m.length with q | q
      · rw [List.getElem?_append_left q] at h; exact hmap b kt et es h
      · rw [List.getElem?_append_right q] at h
        exact af.mem.maps b kt et es (by rw [List.getElem?_append_right (by omega), hlen]; exact h)
  refine ⟨Keep.of_below hbel, af.pre, hmem, ?_, fun k hk h => lend_bad.1 (af.bd k hk ((hbad k).1 h))⟩
  rintro k hk ⟨b, blk, r, h1, h2, h3, h4⟩
  rcases Nat.lt_or_ge b m.length with q | q
  · rw [List.getElem?_append_left q] at h1
    exact ⟨b, blk, r, h1, h2, hpreρ b r q h3, h4⟩
  · rw [List.getElem?_append_right q] at h1
    exact (hno k (af.own k hk ⟨b, blk, r, by rw [List.getElem?_append_right (by omega), hlen]; exact h1, h2, h3, h4⟩)).elim

section
variable {P : Program} {N : Nat}
/-- what stands at the end of a body: a value, and the blocks that the caller gets to own with it -/
def FinO (m0 : Mem) (R : V → Option Mem → Prop) (v : V) (m' : Mem) : Prop := ∃ ext, m' = lend m0 ++ ext ∧ R v (some (m0 ++ ext))
theorem CallA_introO {f : FuncId} {fn : Func} {c : Code} {args : List V} {m : Mem} {R : V → Option Mem → Prop} (hf : P.funcs[f]? = some fn) (hb : fn.body = some c) (hg : isGo P f = true) (hn : args.length ≤ fn.ntmps)
    (h : WA P fn.ntmps c (argT 0 args) (lend m) (QRet P fn (FinO m R))) : CallA P f args m R := by
  refine ⟨hg, fun w ρ xs hM hA => calls_of_wp hf hb ?_⟩
  have hM' := hM.lend
  have hA' : RelAs w ρ (lend m) args xs := ⟨hA.1, fun i v x h1 h2 => RelV.lend.2 (hA.2 i v x h1 h2)⟩
  refine wp_mono (h w ρ _ (start_rel hM' hA' hn)) ?_
  rintro e a' w' ⟨t', m', ρ', ⟨he, hq⟩, hR, af⟩
  split at hq
  · rename_i v hv
    obtain ⟨x, hrun, hrv⟩ := resV_sound (P := P) hR.mem hR.tm hv
    obtain ⟨ext, rfl, hr⟩ := hq
    have af' := unlend_after hM hM.maps af
    have hrv' : RelV w' ρ' (bad (m ++ ext) ρ') v x := by
      refine hrv.mono (Nat.le_refl _) (fun _ _ _ => rfl) (fun k _ h => ?_) (fun _ _ h => h)
      obtain ⟨b, blk, r, h1, h2, h3, h4⟩ := h
      rcases Nat.lt_or_ge b m.length with q | q
      · rw [List.getElem?_append_left q] at h1
        exact ⟨b, lendB blk, r, pre_get (by simp [lend, h1]), (lendB_bad blk).trans h2, h3, h4⟩
      · rw [List.getElem?_append_right q] at h1
        exact ⟨b, blk, r, by rw [List.getElem?_append_right (by rw [lend_len]; omega), lend_len]; exact h1, h2, h3, h4⟩
    have hpost : a'.defers = [] ∧ ∃ v, (results fn a'.tmps).run P w' = .ok v w' ∧ (∃ v' mo x', (Ending.returned v = .returned x') ∧ R v' mo ∧ ((mo = none ∧ Below w.heap.size w w' ∧ RelV w' ρ (bad m ρ) v' x') ∨ ∃ m'' ρ'', mo = some m'' ∧ After w ρ m w' ρ'' m'' ∧ RelV w' ρ'' (bad m'' ρ'') v' x')) :=
      ⟨hR.defers, x, hrun, v, some (m ++ ext), x, rfl, hr, .inr ⟨_, ρ', rfl, af', hrv'⟩⟩
    rcases he with rfl | rfl
    · exact hpost
    · exact hpost
  · exact hq.elim
theorem CallA_inO {f : FuncId} {fn : Func} {c : Code} {args : List V} {m : Mem} {n : Nat} {rs : Array ResultVar} {R : V → Option Mem → Prop} (hf : P.funcs[f]? = some fn) (hb : fn.body = some c) (hN : fn.ntmps = n) (hr : fn.results = rs) (hg : isGo P f = true) (hn : args.length ≤ n)
    (h : ∀ Q : Exit → List (Nat × V) → Mem → Prop, (∀ e t m', (e = .normal ∨ e = .ret) → ∀ v, resV P t m' rs.toList = some v → FinO m R v m' → Q e t m') → WA P n c (argT 0 args) (lend m ++ []) Q) : CallA P f args m R := by
  subst hN; subst hr
  refine CallA_introO hf hb hg hn ?_
  rw [List.append_nil] at h
  refine h _ ?_
  intro e t m' he v hr hF
  refine ⟨he, ?_⟩
  rw [hr]
  exact hF
end
/-- a slice of the caller's own, handed to a function that reads it -/
theorem CallA_fz1 {P : Program} {f : FuncId} {B X : Mem} {vs : List V} {R : V → Option Mem → Prop} {j p n : Nat} {st : Sta} {ty sz : Nat} {es : List (List V)} (hX : X[j]? = some (.cells st ty sz es)) (hp : vs[p]? = some (.sl (B.length + j) n)) (hn : n ≤ es.length)
    (h : CallA P f (vs.set p (.lst (es.take n))) (B ++ X.set j (.cells .ro ty sz es)) R) : CallA P f vs (B ++ X) fun v mo => ∃ mo0, R v mo0 ∧ mo = some (mo0.getD (B ++ X.set j (.cells .ro ty sz es))) := by
  refine ⟨h.1, fun w ρ xs hM hA => ?_⟩
  have hb : (B ++ X)[B.length + j]? = some (.cells st ty sz es) := by rw [List.getElem?_append_right (by omega), Nat.add_sub_cancel_left]; exact hX
  have hset : (B ++ X).set (B.length + j) (.cells .ro ty sz es) = B ++ X.set j (.cells .ro ty sz es) := by
    rw [List.set_append_right _ _ (by omega), Nat.add_sub_cancel_left]
  have af := After.of_ro hM hb
  rw [hset] at af
  refine (h.2 w ρ xs af.mem ⟨by simpa using hA.1, fun i v x h1 h2 => ?_⟩).mono ?_
  · rw [List.getElem?_set] at h1
    split at h1
    · rename_i e
      subst e
      split at h1
      · cases h1
        have hr := frzV_rel hM hb (hA.2 p _ x hp h2)
        rw [hset] at hr
        have he : frzV (B.length + j) es (.sl (B.length + j) n) = .lst (es.take n) := by simp [frzV, hn]
        rw [he] at hr
        exact hr
      · cases h1
    · exact af.rel (hA.2 i v x h1 h2)
  · rintro e w' ⟨v, mo, x, rfl, hr, hh⟩
    rcases hh with ⟨rfl, hbel, rv⟩ | ⟨m', ρ', rfl, af', rv⟩
    · exact ⟨v, _, x, rfl, ⟨none, hr, rfl⟩, .inr ⟨_, ρ, rfl, af.trans (After.of_same af.mem hbel), rv⟩⟩
    · exact ⟨v, _, x, rfl, ⟨some m', hr, rfl⟩, .inr ⟨_, ρ', rfl, af.trans af', rv⟩⟩
end Go.Proofs.Yteogokmbedmkjaa
