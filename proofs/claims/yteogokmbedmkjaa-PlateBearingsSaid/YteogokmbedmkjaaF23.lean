import Derived.Test.YteogokmbedmkjaaF22
/- a slice of the call's own, handed to a function that reads it: from there on it is read alone -/
namespace Go.Proofs.Yteogokmbedmkjaa
open Go.RowKit

def frzV (b : Nat) (es : List (List V)) : V → V
  | .sl b' n => if b' = b ∧ n ≤ es.length then .lst (es.take n) else .sl b' n
  | v => v

theorem frzV_rel {w : World} {ρ : List Re} {m : Mem} (hM : RelM w ρ m) {b : Nat} {st : Sta} {ty sz : Nat} {es : List (List V)} (hb : m[b]? = some (.cells st ty sz es)) {v : V} {x : Value} (h : RelV w ρ (bad m ρ) v x) :
    RelV w ρ (bad (m.set b (.cells .ro ty sz es)) ρ) (frzV b es v) x := by
  have gen : RelV w ρ (bad (m.set b (.cells .ro ty sz es)) ρ) v x := (After.of_ro hM hb).rel h
  unfold frzV
  split
  · rename_i b' n
    split
    · rename_i hc
      obtain ⟨rfl, hn'⟩ := hc
      cases h with
      | sl _ _ r hr hn hm =>
        obtain ⟨r0, cur, k1, k2, k3, k4, k5, k6, k7, k8, k9⟩ := hM.cells b' st ty _ es hb
        rw [hr] at k1
        cases k1
        have hnot : ¬ bad (m.set b' (.cells .ro ty sz es)) ρ r.blk := not_owned hM hb (by simp) hr rfl
        have rv := rel_sub (w := w) (ρ := ρ) (B := bad (m.set b' (.cells .ro ty sz es)) ρ) (b := r.blk) (off := 0) (c := r.cap) (s := sz) (Y := fun i j => (cur[i * sz + j]?).getD undef) (es := es) (heap_lt k4) hnot (by omega) hm k8 (fun i j e u a1 a2 => by
          obtain ⟨b1, y, b2, b3⟩ := k9 i j e u a1 a2
          have hy : ((cur[i * sz + j]?).getD undef) = y := by rw [b2]; rfl
          simp only [hy]
          refine ⟨?_, b3.mono (Nat.le_refl _) (fun _ _ _ => rfl) (fun k _ ho => owned_demote rfl ho) (fun _ _ h => h), b1⟩
          simp [World.cell?, k4, b2]) (l := 0) (h := n) (Nat.zero_le _) hn'
        simp only [List.drop_zero, Nat.sub_zero, Nat.zero_mul, Nat.add_zero, ite_self] at rv
        exact rv
    · exact gen
  · exact gen
theorem CallA_freeze {P : Program} {f : FuncId} {vs : List V} {m : Mem} {R : V → Option Mem → Prop} {b : Nat} {st : Sta} {ty sz : Nat} {es : List (List V)} (hb : m[b]? = some (.cells st ty sz es)) (h : CallA P f (vs.map (frzV b es)) (m.set b (.cells .ro ty sz es)) R) :
    CallA P f vs m fun v mo => ∃ mo0, R v mo0 ∧ mo = some (mo0.getD (m.set b (.cells .ro ty sz es))) := by
  refine ⟨h.1, fun w ρ xs hM hA => ?_⟩
  have af := After.of_ro hM hb
  refine (h.2 w ρ xs af.mem ⟨by simpa using hA.1, fun i v x h1 h2 => ?_⟩).mono ?_
  · rw [List.getElem?_map, Option.map_eq_some_iff] at h1
    obtain ⟨v0, h1, rfl⟩ := h1
    exact frzV_rel hM hb (hA.2 i v0 x h1 h2)
  · rintro e w' ⟨v, mo, x, rfl, hr, hh⟩
    rcases hh with ⟨rfl, hbel, rv⟩ | ⟨m', ρ', rfl, af', rv⟩
    · exact ⟨v, _, x, rfl, ⟨none, hr, rfl⟩, .inr ⟨_, ρ, rfl, af.trans (After.of_same af.mem hbel), rv⟩⟩
    · exact ⟨v, _, x, rfl, ⟨some m', hr, rfl⟩, .inr ⟨_, ρ', rfl, af.trans af', rv⟩⟩

def frzM : List Nat → List V → Mem → Option (List V × Mem)
  | [], vs, m => some (vs, m)
  | b :: bs, vs, m => match m[b]? with
    | some (.cells _ ty sz es) => frzM bs (vs.map (frzV b es)) (m.set b (.cells .ro ty sz es))
    | _ => none
theorem CallA_frzM {P : Program} {f : FuncId} {R : V → Option Mem → Prop} : ∀ (bs : List Nat) {vs vs' : List V} {m m' : Mem}, frzM bs vs m = some (vs', m') → CallA P f vs' m' R → bs ≠ [] → CallA P f vs m fun v mo => ∃ mo0, R v mo0 ∧ mo = some (mo0.getD m')
  | [], _, _, _, _, _, _, h => (h rfl).elim
  | b :: bs, vs, vs', m, m', hz, h, _ => by
    unfold frzM at hz
    split at hz
    · rename_i st ty sz es hb
      by_cases hbs : bs = []
      · subst hbs
        cases hz
        exact CallA_freeze hb h
      · refine (CallA_freeze hb (CallA_frzM bs hz h hbs)).mono ?_
        rintro v mo ⟨mo0, ⟨mo1, hr, rfl⟩, rfl⟩
        exact ⟨mo1, hr, rfl⟩
    · cases hz

section
variable {P : Program} {N : Nat} {t : List (Nat × V)} {m : Mem} {Q : List (Nat × V) → Mem → Prop} {ops : Array Oper} {rest : List Oper} {d : Nat} {ty : TypeId} {pos : String} {af : Array Edge} {g : FuncId} {ts : Array TypeId} {l : List Operand} {vs vs' : List V} {v : V} {m' : Mem}
/-- a call that is handed slices of the caller's own; the caller writes none of them any more -/
theorem WOs_fz {R : V → Option Mem → Prop} (bs : List Nat) (hne : bs ≠ []) (hd : dOk N (some d)) (ha : l.map (evO t) = vs) (hz : frzM bs vs m = some (vs', m')) (hc : CallA P g vs' m' R) (h : ∀ v mo, R v mo → WOs P N ops rest ((d, v) :: t) (mo.getD m') Q) :
    WOs P N ops (⟨some d, .call ⟨.value (.func g), l.toArray, ts⟩, ty, pos, af, none⟩ :: rest) t m Q := by
  refine WOs_fnA hd ha (CallA_frzM bs hz hc hne) ?_
  rintro v mo ⟨mo0, hr, rfl⟩
  exact h v mo0 hr
end
end Go.Proofs.Yteogokmbedmkjaa
