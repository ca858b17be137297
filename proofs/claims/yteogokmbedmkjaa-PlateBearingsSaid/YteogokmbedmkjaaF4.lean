import Derived.Test.YteogokmbedmkjaaF3
/- each operation does in the model what the plain reading says -/
namespace Go.Proofs.Yteogokmbedmkjaa
open Go.RowKit

structure After (w : World) (ρ : List Re) (m : Mem) (w' : World) (ρ' : List Re) (m' : Mem) : Prop where
  keep : Keep (owned m ρ) w w'
  pre : ∀ (b : Nat) r, ρ[b]? = some r → ρ'[b]? = some r
  mem : RelM w' ρ' m'
  own : ∀ k, k < w.heap.size → owned m' ρ' k → owned m ρ k
  bd : ∀ k, k < w.heap.size → bad m' ρ' k → bad m ρ k

theorem After.refl {w : World} {ρ : List Re} {m : Mem} (h : RelM w ρ m) : After w ρ m w ρ m := ⟨Keep.refl _ _, fun _ _ h => h, h, fun _ _ h => h, fun _ _ h => h⟩
theorem After.trans {a b c : World} {ρ ρ' ρ'' : List Re} {m m' m'' : Mem} (h : After a ρ m b ρ' m') (k : After b ρ' m' c ρ'' m'') : After a ρ m c ρ'' m'' :=
  ⟨h.keep.trans k.keep h.own, fun b r hr => k.pre b r (h.pre b r hr), k.mem, fun r hr ho => h.own r hr (k.own r (Nat.lt_of_lt_of_le hr h.keep.size) ho), fun r hr ho => h.bd r hr (k.bd r (Nat.lt_of_lt_of_le hr h.keep.size) ho)⟩
theorem After.rel {w w' : World} {ρ ρ' : List Re} {m m' : Mem} (h : After w ρ m w' ρ' m') {v : V} {x : Value} (hr : RelV w ρ (bad m ρ) v x) : RelV w' ρ' (bad m' ρ') v x :=
  hr.mono h.keep.size (fun k hk hn => h.keep.block k hk (fun ho => hn (bad_of_owned ho))) h.bd h.pre

def RelT (w : World) (ρ : List Re) (m : Mem) (t : List (Nat × V)) (a : Act) : Prop := ∀ i, RelV w ρ (bad m ρ) (tget t i) (a.tmps.getD i undef)

theorem ofC_rel (w : World) (ρ : List Re) (B : Nat → Prop) (c : Value) : RelV w ρ B (ofC c) c := by
  unfold ofC
  split
  · exact .int _ _
  · exact .bool _
  · exact .str _ _ rfl
  · exact .nilptr
  · exact .nilsl
  · exact .nilmap
  · exact .nilfn
  · exact .nilif
  · exact .any _

theorem evO_rel {w : World} {ρ : List Re} {m : Mem} {t : List (Nat × V)} {a : Act} (h : RelT w ρ m t a) (o : Operand) : RelV w ρ (bad m ρ) (evO t o) (a.eval o) := by
  cases o with
  | tmp i => exact h i
  | const c => exact ofC_rel _ _ _ c
  | global g => exact .any _
  | func f => exact .clo _ _ _ _ _ rfl rfl (fun i c x h => by simp at h) (fun i c x h => by simp at h)

theorem tput_rel {w : World} {ρ : List Re} {m : Mem} {t : List (Nat × V)} {a : Act} (h : RelT w ρ m t a) {d : Option Nat} {v : V} {x : Value} (hv : RelV w ρ (bad m ρ) v x) (hd : ∀ k, d = some k → k < a.tmps.size) :
    RelT w ρ m (tput t d v) (a.put d x) := by
  cases d with
  | none => exact h
  | some k =>
    have hk := hd k rfl
    intro i
    simp only [tput, tget, Act.put]
    by_cases e : k = i
    · subst e
      rw [if_pos rfl]
      have : (a.tmps.setIfInBounds k x).getD k undef = x := by simp [Array.getD, hk]
      rw [this]; exact hv
    · rw [if_neg e]
      have : (a.tmps.setIfInBounds k x).getD i undef = a.tmps.getD i undef := by
        simp only [Array.getD_eq_getD_getElem?, Array.getElem?_setIfInBounds]
        rw [if_neg e]
      rw [this]; exact h i

theorem info_of_sz {P : Program} {T : TypeId} (h : 0 < szT P T) : ∃ i, P.info? T = some i ∧ i.size = szT P T := by
  unfold szT Program.cellsOf at *
  cases hi : P.info? T with
  | none => rw [hi] at h; simp at h
  | some i => exact ⟨i, rfl, by simp⟩
theorem run_sizeOf {P : Program} {T : TypeId} (h : 0 < szT P T) (w : World) : (sizeOf T).run P w = .ok (szT P T) w := by
  obtain ⟨i, hi, hs⟩ := info_of_sz h
  simp [sizeOf, typeInfo, hi, hs, go_sem]
theorem run_isAgg {P : Program} {T : TypeId} {b : Bool} (h : agT P T = some b) (w : World) : (isAgg T).run P w = .ok b w := by
  unfold agT at h
  cases hu : P.underlying T with
  | none => rw [hu] at h; cases h
  | some d =>
    rw [hu] at h
    cases d <;> simp at h <;> subst h <;> simp [isAgg, run_underlying hu, go_sem]
theorem run_sizeOf_ag {P : Program} {T : TypeId} (h : agT P T = some true) (w : World) : (sizeOf T).run P w = .ok (szT P T) w := by
  have : ∃ i, P.info? T = some i := by
    unfold agT Program.underlying at h
    cases hi : P.info? T with
    | none => rw [hi] at h; simp at h
    | some i => exact ⟨i, rfl⟩
  obtain ⟨i, hi⟩ := this
  simp [sizeOf, typeInfo, hi, szT, Program.cellsOf, go_sem]
end Go.Proofs.Yteogokmbedmkjaa
