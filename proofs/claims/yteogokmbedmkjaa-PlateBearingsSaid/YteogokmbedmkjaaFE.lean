import Derived.Test.YteogokmbedmkjaaF10
import Derived.Laws.StructEq
import Derived.ChangeKeysEq
import Derived.MapKept
/- equality of arrays and structs of numbers, bools and texts; comparison with nil -/
namespace Go.Proofs.Yteogokmbedmkjaa
open Go.RowKit

theorem bytesBeq (a b : ByteArray) : (a == b) = true ↔ a = b := by
  obtain ⟨x⟩ := a
  obtain ⟨y⟩ := b
  exact ⟨fun h => by rw [show x = y by simpa using (show (x == y) = true from h)], fun h => by cases h; show (x == x) = true; simp⟩
/-- a type's leaves: where they lie, and of which kind (0: number, 1: bool, 2: text) -/
def planT (P : Program) : Nat → TypeId → Option (List (Nat × Nat))
  | 0, _ => none
  | d + 1, T => match P.underlying T with
    | some (.int _) => if szT P T = 1 then some [(0, 0)] else none
    | some .bool => if szT P T = 1 then some [(0, 1)] else none
    | some .string => if szT P T = 1 then some [(0, 2)] else none
    | some (.array n e) => if (P.info? e).isSome ∧ n * szT P e ≤ szT P T then match planT P d e with
        | some l => if l.all (fun p => decide (p.1 < szT P e)) then some ((List.range n).map fun i => l.map fun p => (i * szT P e + p.1, p.2)).flatten else none
        | none => none
      else none
    | some (.struct fs) => if P.stoodInHeld T = true then none else
        (fs.toList.mapM fun f => if f.name ≠ "_" ∧ f.offset + szT P f.type ≤ szT P T then match planT P d f.type with
          | some l => if l.all (fun p => decide (p.1 < szT P f.type)) then some (l.map fun p => (f.offset + p.1, p.2)) else none
          | none => none else none).map List.flatten
    | _ => none
def leafEq : Nat → V → V → Option Bool
  | 0, .int k a, .int k' b => if k = k' then some (decide (a = b)) else none
  | 1, .bool a, .bool b => some (a == b)
  | 2, .str a, .str b => some (decide (a = b))
  | _, _, _ => none
def planEq (c1 c2 : List V) : List (Nat × Nat) → Option Bool
  | [] => some true
  | (o, k) :: l => match c1[o]?, c2[o]? with
    | some x, some y => match leafEq k x y, planEq c1 c2 l with
      | some a, some b => some (a && b)
      | _, _ => none
    | _, _ => none
def V.cellsOf : V → List V
  | .agg cs => cs
  | v => [v]

theorem planEq_append {c1 c2 : List V} : ∀ (l1 l2 : List (Nat × Nat)) {r : Bool}, planEq c1 c2 (l1 ++ l2) = some r → ∃ r1 r2, planEq c1 c2 l1 = some r1 ∧ planEq c1 c2 l2 = some r2 ∧ r = (r1 && r2)
  | [], l2, r, h => ⟨true, r, rfl, h, by simp⟩
  | (o, k) :: l1, l2, r, h => by
    simp only [List.cons_append, planEq] at h ⊢
    split at h
    · split at h
      · rename_i a b h1 h2
        cases h
        obtain ⟨r1, r2, g1, g2, rfl⟩ := planEq_append l1 l2 h2
        exact ⟨a && r1, r2, by simp [h1, g1], g2, by simp [Bool.and_assoc]⟩
      · cases h
    · cases h
theorem planEq_shift {c1 c2 : List V} {off n : Nat} : ∀ (l : List (Nat × Nat)), (∀ p ∈ l, p.1 < n) → planEq c1 c2 (l.map fun p => (off + p.1, p.2)) = planEq ((c1.drop off).take n) ((c2.drop off).take n) l
  | [], _ => rfl
  | (o, k) :: l, h => by
    have ho : o < n := h (o, k) List.mem_cons_self
    simp only [List.map_cons, planEq, List.getElem?_take_of_lt ho, List.getElem?_drop, planEq_shift l (fun p hp => h p (List.mem_cons_of_mem _ hp))]

section
variable {P : Program} {w : World} {ρ : List Re} {B : Nat → Prop}

/-- a value as a type's -/
def Fits (P : Program) (T : TypeId) (c : List V) (w : World) (ρ : List Re) (B : Nat → Prop) (x : Value) : Prop :=
  c.length = szT P T ∧ ∃ v, RelV w ρ B v x ∧ v.cellsOf = c ∧ ((∃ cs, v = .agg cs) ↔ agT P T = some true)

theorem fits_part {T : TypeId} {o : Nat} {xs : Array Value} {cs : List V} (hl : cs.length = xs.size) (hV : ∀ (j : Nat) c x, cs[j]? = some c → xs[j]? = some x → RelV w ρ B c x) (hle : o + szT P T ≤ cs.length) {b : Bool} (ha : agT P T = some b)
    (hone : b = false → szT P T = 1 ∧ ∀ c, cs[o]? = some c → ∀ ds, c ≠ .agg ds) : ∃ x, (part T xs o).run P w = .ok x w ∧ Fits P T ((cs.drop o).take (szT P T)) w ρ B x := by
  cases b with
  | true =>
    obtain ⟨x, h1, h2⟩ := partV_part (P := P) (w := w) (B := B) (T := T) (o := o) (v := .agg ((cs.drop o).take (szT P T))) hl hV (by simp [partV, ha, hle])
    exact ⟨x, h1, by simp; omega, _, h2, rfl, by simp [ha]⟩
  | false =>
    obtain ⟨h1, hn⟩ := hone rfl
    have hlt : o < cs.length := by omega
    have hg : cs[o]? = some cs[o] := List.getElem?_eq_getElem hlt
    obtain ⟨x, h2, h3⟩ := partV_part (P := P) (w := w) (B := B) (T := T) (o := o) (v := cs[o]) hl hV (by simp [partV, ha, hg])
    have hna := hn _ hg
    refine ⟨x, h2, by simp; omega, _, h3, ?_, ?_⟩
    · rw [h1, List.take_one, List.head?_drop, hg]
      cases hc : cs[o] <;> simp [V.cellsOf] <;> exact absurd hc (hna _)
    · simp [ha]
      intro ds hd
      exact absurd hd (hna _)

/-- a leaf's type holds no array and no struct -/
theorem leaf_of_plan {d : Nat} {T : TypeId} {l : List (Nat × Nat)} (h : planT P d T = some l) (ha : agT P T = some false) : (∃ k, l = [(0, k)]) ∧ szT P T = 1 := by
  cases d with
  | zero => cases h
  | succ d =>
    unfold planT at h
    unfold agT at ha
    split at h
    · split at h
      · cases h; exact ⟨⟨_, rfl⟩, by assumption⟩
      · cases h
    · split at h
      · cases h; exact ⟨⟨_, rfl⟩, by assumption⟩
      · cases h
    · split at h
      · cases h; exact ⟨⟨_, rfl⟩, by assumption⟩
      · cases h
    all_goals simp_all

theorem leafEq_ne {k : Nat} {x y : V} {r : Bool} (h : leafEq k x y = some r) : (∀ ds, x ≠ .agg ds) ∧ (∀ ds, y ≠ .agg ds) := by
  constructor <;> (intro ds e; subst e; unfold leafEq at h; split at h <;> simp_all)

theorem ag_of_plan {d : Nat} {T : TypeId} {l : List (Nat × Nat)} (h : planT P d T = some l) : ∃ b, agT P T = some b := by
  cases d with
  | zero => cases h
  | succ d =>
    unfold planT at h
    unfold agT
    split at h <;> simp_all

theorem eq_step {d : Nat} {e : TypeId} {l : List (Nat × Nat)} (hp : planT P d e = some l) (hlt : ∀ p ∈ l, p.1 < szT P e) {q : Nat}
    (IH : ∀ {x y : Value} {c1 c2 : List V} {r : Bool}, Fits P e c1 w ρ B x → Fits P e c2 w ρ B y → planEq c1 c2 l = some r → (Op.equalIn q e x y).run P w = .ok r w)
    {o : Nat} {xs ys : Array Value} {c1 c2 : List V} (hl1 : c1.length = xs.size) (hl2 : c2.length = ys.size) (h1 : ∀ (j : Nat) c x, c1[j]? = some c → xs[j]? = some x → RelV w ρ B c x) (h2 : ∀ (j : Nat) c x, c2[j]? = some c → ys[j]? = some x → RelV w ρ B c x)
    (o1 : o + szT P e ≤ c1.length) (o2 : o + szT P e ≤ c2.length) {r : Bool} (h : planEq c1 c2 (l.map fun p => (o + p.1, p.2)) = some r) :
    ∃ x y, (part e xs o).run P w = .ok x w ∧ (part e ys o).run P w = .ok y w ∧ (Op.equalIn q e x y).run P w = .ok r w := by
  obtain ⟨b, hb⟩ := ag_of_plan hp
  have hone : b = false → szT P e = 1 ∧ (∀ c, c1[o]? = some c → ∀ ds, c ≠ .agg ds) ∧ (∀ c, c2[o]? = some c → ∀ ds, c ≠ .agg ds) := by
    rintro rfl
    obtain ⟨⟨k, rfl⟩, hs⟩ := leaf_of_plan hp hb
    simp only [List.map_cons, List.map_nil, planEq, Nat.add_zero] at h
    split at h
    · rename_i a1 a2 g1 g2
      split at h
      · rename_i s1 _
        obtain ⟨n1, n2⟩ := leafEq_ne s1
        exact ⟨hs, fun c hc => by rw [g1] at hc; cases hc; exact n1, fun c hc => by rw [g2] at hc; cases hc; exact n2⟩
      · cases h
    · cases h
  obtain ⟨x, p1, f1⟩ := fits_part hl1 h1 o1 hb (fun e => ⟨(hone e).1, (hone e).2.1⟩)
  obtain ⟨y, p2, f2⟩ := fits_part hl2 h2 o2 hb (fun e => ⟨(hone e).1, (hone e).2.2⟩)
  rw [planEq_shift l hlt] at h
  exact ⟨x, y, p1, p2, IH f1 f2 h⟩

theorem fits_agg {T : TypeId} {c : List V} {x : Value} (h : Fits P T c w ρ B x) (ha : agT P T = some true) : ∃ xs, x = .agg xs ∧ c.length = xs.size ∧ c.length = szT P T ∧ ∀ (j : Nat) v y, c[j]? = some v → xs[j]? = some y → RelV w ρ B v y := by
  obtain ⟨h1, v, h2, h3, h4⟩ := h
  obtain ⟨cs, rfl⟩ := h4.2 ha
  simp only [V.cellsOf] at h3
  subst h3
  cases h2 with
  | agg _ xs hl hh => exact ⟨xs, rfl, hl, h1, hh⟩

def oneT (P : Program) (d : Nat) (T : TypeId) : Bool := match planT P d T with
  | some _ => true
  | none => false

theorem equal_sound (k : Nat) : ∀ (d : Nat) {T : TypeId} {l : List (Nat × Nat)} {x y : Value} {c1 c2 : List V} {r : Bool}, planT P d T = some l → Fits P T c1 w ρ B x → Fits P T c2 w ρ B y → planEq c1 c2 l = some r → (Op.equalIn (k + d) T x y).run P w = .ok r w
  | 0, _, _, _, _, _, _, _, hp, _, _, _ => by cases hp
  | d + 1, T, l, x, y, c1, c2, r, hp, f1, f2, h => by
    have leaf : ∀ {kk : Nat} {dd : TypeDesc}, P.underlying T = some dd → agT P T = some false → l = [(0, kk)] → ∃ u v, RelV w ρ B u x ∧ RelV w ρ B v y ∧ leafEq kk u v = some r := by
      rintro kk dd hu ha rfl
      obtain ⟨g1, u, g2, g3, g4⟩ := f1
      obtain ⟨k1, v, k2, k3, k4⟩ := f2
      rw [ha] at g4 k4
      have hu1 : c1 = [u] := by
        rw [← g3]; cases u <;> simp [V.cellsOf] at g4 ⊢
      have hv1 : c2 = [v] := by
        rw [← k3]; cases v <;> simp [V.cellsOf] at k4 ⊢
      subst hu1; subst hv1
      simp only [planEq, List.getElem?_cons_zero] at h
      split at h
      · rename_i a b s1 s2
        cases s2
        simp at h
        subst h
        exact ⟨u, v, g2, k2, s1⟩
      · cases h
    unfold planT at hp
    split at hp
    · rename_i hu
      split at hp
      case isFalse => cases hp
      cases hp
      obtain ⟨u, v, r1, r2, he⟩ := leaf hu (by simp [agT, hu]) rfl
      unfold leafEq at he
      split at he <;> simp_all
      obtain ⟨rfl, rfl⟩ := he
      cases r1; cases r2
      show (Op.equalIn ((k + d) + 1) T _ _).run P w = _
      simp [Op.equalIn, run_underlying hu]
      rw [Bool.eq_iff_iff]; simp
    · rename_i hu
      split at hp
      case isFalse => cases hp
      cases hp
      obtain ⟨u, v, r1, r2, he⟩ := leaf hu (by simp [agT, hu]) rfl
      unfold leafEq at he
      split at he <;> simp_all
      cases r1; cases r2
      show (Op.equalIn ((k + d) + 1) T _ _).run P w = _
      simp [Op.equalIn, run_underlying hu, he]
    · rename_i hu
      split at hp
      case isFalse => cases hp
      cases hp
      obtain ⟨u, v, r1, r2, he⟩ := leaf hu (by simp [agT, hu]) rfl
      unfold leafEq at he
      split at he <;> simp_all
      cases r1 with
      | str s b hb =>
        cases r2 with
        | str s' b' hb' =>
          show (Op.equalIn ((k + d) + 1) T _ _).run P w = _
          simp [Op.equalIn, run_underlying hu]
          subst hb; subst hb'
          have hx : (b.data.toList = b'.data.toList) ↔ b = b' := ⟨fun e => ByteArray.ext (Array.toList_inj.1 e), fun e => by rw [e]⟩
          rw [← he, Bool.eq_iff_iff]
          rw [bytesBeq]; simp [hx]
    · rename_i n e hu
      clear leaf
      have ha : agT P T = some true := by simp [agT, hu]
      obtain ⟨xs, rfl, l1, s1, v1⟩ := fits_agg f1 ha
      obtain ⟨ys, rfl, l2, s2, v2⟩ := fits_agg f2 ha
      split at hp
      · rename_i hc
        obtain ⟨hi, hn⟩ := hc
        split at hp
        · rename_i le hle
          split at hp
          · rename_i hall
            cases hp
            have hlt : ∀ p ∈ le, p.1 < szT P e := fun p hp => by simpa using List.all_eq_true.1 hall p hp
            obtain ⟨i, hi⟩ := Option.isSome_iff_exists.1 hi
            show (Op.equalIn ((k + d) + 1) T _ _).run P w = _
            rw [run_equalIn_array w (k + d) xs ys hu hi]
            have hr : ∀ j ∈ List.range n, j < n := fun j hj => by simpa using hj
            generalize List.range n = is at h hr
            induction is generalizing r with
            | nil => simp [planEq] at h; simp [Op.eqItems, h]
            | cons j is ih =>
              simp only [List.map_cons, List.flatten_cons] at h
              obtain ⟨r1, r2, q1, q2, rfl⟩ := planEq_append _ _ h
              have hj := hr j List.mem_cons_self
              have hjn : j * szT P e + szT P e ≤ szT P T := by
                calc j * szT P e + szT P e = (j + 1) * szT P e := by rw [Nat.succ_mul]
                  _ ≤ n * szT P e := Nat.mul_le_mul_right _ hj
                  _ ≤ _ := hn
              obtain ⟨x', y', p1, p2, p3⟩ := eq_step hle hlt (q := k + d) (fun a b c => equal_sound k d hle a b c) l1 l2 v1 v2 (by omega) (by omega) q1
              have ih := ih (r := r2) q2 (fun j' hj' => hr j' (List.mem_cons_of_mem _ hj'))
              simp only [Op.eqItems, Sem.run_bind]
              rw [show P.cellsOf e = szT P e from rfl] at *
              simp only [p1, p2, p3, Result.andThen_ok]
              cases r1
              · simp
              · simpa using ih
          · cases hp
        · cases hp
      · cases hp
    · rename_i fs hu
      clear leaf
      have ha : agT P T = some true := by simp [agT, hu]
      obtain ⟨xs, rfl, l1, s1, v1⟩ := fits_agg f1 ha
      obtain ⟨ys, rfl, l2, s2, v2⟩ := fits_agg f2 ha
      split at hp
      · cases hp
      · rename_i hst
        have hfs : P.fieldsOf T = fs := by simp [Program.fieldsOf, hu]
        show (Op.equalIn ((k + d) + 1) T _ _).run P w = _
        rw [run_equalIn_struct w (k + d) T xs ys (by rw [hfs]; exact hu) (by simpa using hst), hfs]
        rw [Option.map_eq_some_iff] at hp
        obtain ⟨ll, hm, rfl⟩ := hp
        generalize fs.toList = fl at hm
        induction fl generalizing ll r with
        | nil => simp at hm; subst hm; simp [planEq] at h; simp [Op.eqFields, h]
        | cons f fl ih =>
          rw [List.mapM_cons] at hm
          simp only [bind, Option.bind_eq_some_iff, pure, Option.some.injEq] at hm
          obtain ⟨la, ha1, ll', ha2, rfl⟩ := hm
          simp only [List.flatten_cons] at h
          obtain ⟨r1, r2, q1, q2, rfl⟩ := planEq_append _ _ h
          have ih := ih (r := r2) ll' q2 ha2
          split at ha1
          · rename_i hc
            split at ha1
            · rename_i le hle
              split at ha1
              · rename_i hall
                cases ha1
                have hlt : ∀ p ∈ le, p.1 < szT P f.type := fun p hp => by simpa using List.all_eq_true.1 hall p hp
                obtain ⟨x', y', p1, p2, p3⟩ := eq_step hle hlt (q := k + d) (fun a b c => equal_sound k d hle a b c) l1 l2 v1 v2 (by omega) (by omega) q1
                simp only [Op.eqFields, hc.1, ne_eq, not_false_eq_true, if_true, Sem.run_bind, p1, p2, p3, Result.andThen_ok]
                cases r1
                · simp
                · simpa using ih
              · cases ha1
            · cases ha1
          · cases ha1
    · cases hp

def kdT (P : Program) (T : TypeId) : Nat := match P.underlying T with
  | some (.pointer _) => 1
  | some (.slice _) => 2
  | some (.map _ _) => 3
  | some (.func _ _ _) => 4
  | some .bool => 5
  | _ => 0
/-- an array's or a struct's leaves, if it may be compared -/
def eqT (P : Program) (T : TypeId) : Option (List (Nat × Nat)) := if P.eqGuardType P.depth T = false ∧ agT P T = some true then planT P 12 T else none
def eqV (P : Program) (T : TypeId) : V → V → Option Bool
  | .agg c1, .agg c2 => match eqT P T with
    | some l => if c1.length = szT P T ∧ c2.length = szT P T then planEq c1 c2 l else none
    | none => none
  | .bool a, .bool b => if kdT P T = 5 then some (a == b) else none
  | .nilptr, .nilptr => if kdT P T = 1 then some true else none
  | .nilptr, .ptr _ _ _ | .nilptr, .bp _ _ | .ptr _ _ _, .nilptr | .bp _ _, .nilptr => if kdT P T = 1 then some false else none
  | .nilsl, .nilsl => if kdT P T = 2 then some true else none
  | .nilsl, .lst (_ :: _) | .nilsl, .sl _ _ | .lst (_ :: _), .nilsl | .sl _ _, .nilsl => if kdT P T = 2 then some false else none
  | .nilmap, .nilmap => if kdT P T = 3 then some true else none
  | .nilmap, .mp _ | .mp _, .nilmap => if kdT P T = 3 then some false else none
  | .nilfn, .nilfn => if kdT P T = 4 then some true else none
  | .nilfn, .clo _ _ _ | .clo _ _ _, .nilfn => if kdT P T = 4 then some false else none
  | _, _ => none
def resEq (op : BinOp) (r : Bool) : Option V := match op with
  | .eql => some (.bool r)
  | .neq => some (.bool (!r))
  | _ => none
def evEq (P : Program) (op : BinOp) (T : TypeId) (x y : V) : Option V := match op with
  | .eql => (eqV P T x y).map .bool
  | .neq => (eqV P T x y).map fun b => .bool (!b)
  | _ => none

theorem kdT_1 {T : TypeId} (h : kdT P T = 1) : ∃ e, P.underlying T = some (.pointer e) := by
  unfold kdT at h; split at h <;> simp_all
theorem kdT_2 {T : TypeId} (h : kdT P T = 2) : ∃ e, P.underlying T = some (.slice e) := by
  unfold kdT at h; split at h <;> simp_all
theorem kdT_3 {T : TypeId} (h : kdT P T = 3) : ∃ k e, P.underlying T = some (.map k e) := by
  unfold kdT at h; split at h <;> simp_all
theorem kdT_5 {T : TypeId} (h : kdT P T = 5) : P.underlying T = some .bool := by
  unfold kdT at h; split at h <;> simp_all
theorem kdT_4 {T : TypeId} (h : kdT P T = 4) : ∃ a b c, P.underlying T = some (.func a b c) := by
  unfold kdT at h; split at h <;> simp_all

theorem run_equal_of {T : TypeId} {x y : Value} {r : Bool} (h : ∀ d, (Op.equalIn (d + 1) T x y).run P w = .ok r w) : (Op.equal T x y).run P w = .ok r w := h 9999
/-- what the operation does, once the comparison is known -/
theorem eq_fin {T : TypeId} {x y : Value} {r : Bool} {X Y : Operand} {op : BinOp} {u : V} (hu : resEq op r = some u)
    (he : (Op.equal T x y).run P w = .ok r w) (hg : (eqGuard op T X Y x y).run P w = .ok () w) (hb : ∀ op, op = .eql ∨ op = .neq → binOp op T x y = if op = .eql then (do pure (.bool (← Op.equal T x y)) : Sem Value) else (do pure (.bool (!(← Op.equal T x y))) : Sem Value)) :
    ∃ z, (do eqGuard op T X Y x y; binOp op T x y : Sem Value).run P w = .ok z w ∧ RelV w ρ B u z := by
  cases op <;> simp [resEq] at hu
  · subst hu
    exact ⟨.bool r, by simp only [Sem.run_bind, hg, Result.andThen_ok, hb .eql (.inl rfl), if_pos]; simp [he], .bool _⟩
  · subst hu
    exact ⟨.bool (!r), by simp only [Sem.run_bind, hg, Result.andThen_ok, hb .neq (.inr rfl)]; simp [he], .bool _⟩

theorem evEq_sound {T : TypeId} {u v z : V} {x y : Value} {op : BinOp} {X Y : Operand} (h : evEq P op T u v = some z) (h1 : RelV w ρ B u x) (h2 : RelV w ρ B v y) :
    ∃ q, (do eqGuard op T X Y x y; binOp op T x y : Sem Value).run P w = .ok q w ∧ RelV w ρ B z q := by
  have hr : ∃ r, eqV P T u v = some r ∧ resEq op r = some z := by
    unfold evEq at h
    split at h
    · rw [Option.map_eq_some_iff] at h; obtain ⟨r, h1, rfl⟩ := h; exact ⟨r, h1, rfl⟩
    · rw [Option.map_eq_some_iff] at h; obtain ⟨r, h1, rfl⟩ := h; exact ⟨r, h1, rfl⟩
    · cases h
  obtain ⟨r, hv, hz⟩ := hr
  have hop : op = .eql ∨ op = .neq := by cases op <;> simp_all [resEq]
  unfold eqV at hv
  split at hv
  · rename_i c1 c2
    split at hv
    · rename_i l hl
      split at hv
      · rename_i hlen
        cases h1 with | agg _ xs l1 r1 => cases h2 with | agg _ ys l2 r2 =>
        unfold eqT at hl
        split at hl
        · rename_i hc
          have f1 : Fits P T c1 w ρ B (.agg xs) := ⟨hlen.1, _, .agg _ _ l1 r1, rfl, by simp [hc.2]⟩
          have f2 : Fits P T c2 w ρ B (.agg ys) := ⟨hlen.2, _, .agg _ _ l2 r2, rfl, by simp [hc.2]⟩
          refine eq_fin hz (equal_sound 9988 12 hl f1 f2 hv) ?_ ?_
          · rcases hop with rfl | rfl <;> simp [eqGuard, go_sem, hc.1]
          · rintro op (rfl | rfl) <;> simp [binOp]
        · cases hl
      · cases hv
    · cases hv
  · split at hv
    · rename_i hc
      cases h1; cases h2
      cases hv
      have hu := kdT_5 hc
      refine eq_fin hz ?_ ?_ ?_
      · exact run_equal_of fun d => by simp only [Op.equalIn, Sem.run_bind, run_underlying hu, Result.andThen_ok, Sem.run_pure]
      · rcases hop with rfl | rfl <;> simp [eqGuard, go_sem]
      · rintro op (rfl | rfl) <;> simp [binOp]
    · cases hv
  all_goals first
    | (cases hv; done)
    | (split at hv
       · rename_i hc
         cases hv
         cases h1 <;> cases h2 <;> (first
           | (obtain ⟨_, hu⟩ := kdT_1 hc)
           | (obtain ⟨_, hu⟩ := kdT_2 hc)
           | (obtain ⟨_, _, hu⟩ := kdT_3 hc)
           | (obtain ⟨_, _, _, hu⟩ := kdT_4 hc)) <;>
         (refine eq_fin hz ?_ ?_ ?_
          · exact run_equal_of fun d => by simp only [Op.equalIn, Sem.run_bind, run_underlying hu, Result.andThen_ok, Sem.run_pure] <;> rfl
          · rcases hop with rfl | rfl <;> simp [eqGuard, go_sem]
          · rintro op (rfl | rfl) <;> simp [binOp])
       · cases hv)
end
end Go.Proofs.Yteogokmbedmkjaa
