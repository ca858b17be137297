import Derived.Test.YteogokmbedmkjaaF17
/- a function's contract out of its code -/
namespace Go.Proofs.Yteogokmbedmkjaa
open Go.RowKit
section
variable {P : Program} {N : Nat}

def rOf (a : Act) : ResultVar → Sem Value
  | .tmp t => pure (a.tmps.getD t undef)
  | .cell x t => do loadVar t (← asAddr (a.tmps.getD x undef))

def resOne (P : Program) (t : List (Nat × V)) (m : Mem) : ResultVar → Option V
  | .tmp i => some (tget t i)
  | .cell x T => match tget t x with
    | .ptr b i o => match m[b]? with
      | some (.cells _ _ _ es) => match es[i]? with
        | some e => partV P T e o
        | none => none
      | _ => none
    | .bp cs o => partV P T cs o
    | _ => none
def resVs (P : Program) (t : List (Nat × V)) (m : Mem) : List ResultVar → Option (List V)
  | [] => some []
  | r :: rs => match resOne P t m r, resVs P t m rs with
    | some v, some vs => some (v :: vs)
    | _, _ => none
def tupV : List V → V
  | [v] => v
  | vs => .tup vs
def resV (P : Program) (t : List (Nat × V)) (m : Mem) (rs : List ResultVar) : Option V := (resVs P t m rs).map tupV

theorem resOne_sound {w : World} {ρ : List Re} {m : Mem} {t : List (Nat × V)} {a : Act} (hM : RelM w ρ m) (hT : RelT w ρ m t a) {r : ResultVar} {v : V} (h : resOne P t m r = some v) :
    ∃ x, (rOf a r).run P w = .ok x w ∧ RelV w ρ (bad m ρ) v x := by
  cases r with
  | tmp i =>
    cases h
    exact ⟨_, by simp [rOf], hT i⟩
  | cell q T =>
    have hq := hT q
    simp only [resOne] at h
    generalize hx : a.tmps.getD q undef = ex at hq
    split at h
    · rename_i b i o hv
      rw [hv] at hq
      cases hq with
      | ptr _ _ _ r0 hr0 =>
        split at h
        · rename_i st ty sz es hb
          split at h
          · rename_i e hes
            obtain ⟨r1, cur, k1, k2, k3, k4, k5, k6, k7, k8, k9⟩ := hM.cells b st ty sz es hb
            rw [hr0] at k1
            cases k1
            have hcell : ∀ j, w.cell? ⟨r0.blk, i * r0.sz + j, none⟩ = cur[i * r0.sz + j]? := fun j => by simp [World.cell?, k4]
            obtain ⟨y, hrun, hv'⟩ := partV_load (P := P) (w := w) (ρ := ρ) (B := bad m ρ) (b := r0.blk) (off := i * r0.sz) (Y := fun j => (cur[i * r0.sz + j]?).getD undef)
              (fun j c hc => by
                obtain ⟨_, y, hy, _⟩ := k9 i j e c hes hc
                rw [hcell, k2, hy]; rfl)
              (fun j c hc => by
                obtain ⟨_, y, hy, hr'⟩ := k9 i j e c hes hc
                rw [k2, hy]; exact hr') h
            exact ⟨y, by simp only [rOf, hx, asAddr, Sem.run_bind, Sem.run_pure, Result.andThen_ok]; exact hrun, hv'⟩
          · cases h
        · cases h
    · rename_i cs o hv
      rw [hv] at hq
      cases hq with
      | bp _ _ b off Y h1 h2 h3 h4 h5 =>
        obtain ⟨y, hr, hv'⟩ := partV_load (P := P) h3 h4 h
        exact ⟨y, by simp only [rOf, hx, asAddr, Sem.run_bind, Sem.run_pure, Result.andThen_ok]; exact hr, hv'⟩
    · cases h

theorem resVs_sound {w : World} {ρ : List Re} {m : Mem} {t : List (Nat × V)} {a : Act} (hM : RelM w ρ m) (hT : RelT w ρ m t a) : ∀ (rs : List ResultVar) {vs : List V}, resVs P t m rs = some vs →
    ∃ xs : List Value, (rs.mapM (rOf a)).run P w = .ok xs w ∧ vs.length = xs.length ∧ ∀ (i : Nat) v x, vs[i]? = some v → xs[i]? = some x → RelV w ρ (bad m ρ) v x
  | [], vs, h => by
    cases h
    exact ⟨[], by simp, rfl, fun i v x h => by simp at h⟩
  | r :: rs, vs, h => by
    simp only [resVs] at h
    split at h
    · rename_i v vs' h1 h2
      cases h
      obtain ⟨x, g1, g2⟩ := resOne_sound (P := P) hM hT h1
      obtain ⟨xs, g3, g4, g5⟩ := resVs_sound hM hT rs h2
      refine ⟨x :: xs, ?_, by simp [g4], fun i u y q1 q2 => ?_⟩
      · simp only [List.mapM_cons, Sem.run_bind, Sem.run_pure, g1, g3, Result.andThen_ok]
      · rcases i with _ | i
        · simp at q1 q2; subst q1; subst q2; exact g2
        · simp at q1 q2; exact g5 i u y q1 q2
    · cases h

theorem resV_sound {w : World} {ρ : List Re} {m : Mem} {t : List (Nat × V)} {a : Act} (hM : RelM w ρ m) (hT : RelT w ρ m t a) {fn : Func} {v : V} (h : resV P t m fn.results.toList = some v) :
    ∃ x, (results fn a.tmps).run P w = .ok x w ∧ RelV w ρ (bad m ρ) v x := by
  unfold resV at h
  simp only [Option.map_eq_some_iff] at h
  obtain ⟨vs, h1, rfl⟩ := h
  obtain ⟨xs, g1, g2, g3⟩ := resVs_sound (P := P) hM hT _ h1
  have hrun : ∀ y, (if h : xs.toArray.size = 1 then xs.toArray[0] else Value.tuple xs.toArray) = y → (results fn a.tmps).run P w = .ok y w := by
    intro y hy
    unfold results
    rw [Array.mapM_eq_mapM_toList]
    show Sem.run P ((((fn.results.toList.mapM (rOf a)) >>= fun l => pure l.toArray) : Sem (Array Value)) >>= fun vs => pure (if h : vs.size = 1 then vs[0] else .tuple vs)) w = _
    rw [Sem.run_bind, Sem.run_bind, g1]
    simp only [Result.andThen_ok, Sem.run_pure, hy]
  cases vs with
  | nil =>
    cases xs with
    | nil => exact ⟨_, hrun _ rfl, .tup _ _ rfl (fun i c x h => by simp at h)⟩
    | cons x1 xs => simp at g2
  | cons v1 vs =>
    cases xs with
    | nil => simp at g2
    | cons x1 xs =>
      cases vs with
      | nil =>
        cases xs with
        | nil => exact ⟨x1, hrun x1 (by simp), g3 0 v1 x1 rfl rfl⟩
        | cons x2 xs => simp at g2
      | cons v2 vs =>
        cases xs with
        | nil => simp at g2
        | cons x2 xs => exact ⟨.tuple (x1 :: x2 :: xs).toArray, hrun _ (by simp), .tup _ _ (by simpa using g2) (fun i c x q1 q2 => g3 i c x q1 (by simpa using q2))⟩

/-- the arguments in their slots -/
def argT : Nat → List V → List (Nat × V)
  | _, [] => []
  | i, v :: r => (i, v) :: argT (i + 1) r
theorem argT_get (args : List V) : ∀ (k i : Nat), tget (argT k args) i = if k ≤ i then (args[i - k]?).getD .any else .any := by
  induction args with
  | nil => intro k i; simp [argT, tget]
  | cons v r ih =>
    intro k i
    simp only [argT, tget]
    by_cases h : k = i
    · subst h; simp
    · rw [if_neg h, ih]
      by_cases h2 : k ≤ i
      · rw [if_pos (by omega), if_pos h2, show i - k = (i - (k + 1)) + 1 by omega, List.getElem?_cons_succ]
      · rw [if_neg (by omega), if_neg h2]

theorem lend_get {m : Mem} {b : Nat} {blk : Blk} (h : (lend m)[b]? = some blk) : ∃ blk0, m[b]? = some blk0 ∧ blk = lendB blk0 := by
  unfold lend at h
  rw [List.getElem?_map, Option.map_eq_some_iff] at h
  obtain ⟨b0, h1, h2⟩ := h
  exact ⟨b0, h1, h2.symm⟩
theorem lendB_bad (b : Blk) : (lendB b).bad = b.bad := by
  cases b with
  | cells st ty sz es => cases st <;> rfl
  | _ => rfl
theorem lend_bad {m : Mem} {ρ : List Re} {k : Nat} : bad (lend m) ρ k ↔ bad m ρ k := by
  constructor
  · rintro ⟨b, blk, r, h1, h2, h3, h4⟩
    obtain ⟨b0, g1, rfl⟩ := lend_get h1
    exact ⟨b, b0, r, g1, (lendB_bad b0).symm.trans h2, h3, h4⟩
  · rintro ⟨b, blk, r, h1, h2, h3, h4⟩
    exact ⟨b, lendB blk, r, by simp [lend, h1], (lendB_bad blk).trans h2, h3, h4⟩
theorem RelV.lend {w : World} {ρ : List Re} {m : Mem} {v : V} {x : Value} : RelV w ρ (bad (lend m) ρ) v x ↔ RelV w ρ (bad m ρ) v x :=
  ⟨fun h => h.mono (Nat.le_refl _) (fun _ _ _ => rfl) (fun _ _ h => lend_bad.2 h) (fun _ _ h => h), fun h => h.mono (Nat.le_refl _) (fun _ _ _ => rfl) (fun _ _ h => lend_bad.1 h) (fun _ _ h => h)⟩
theorem RelM.lend {w : World} {ρ : List Re} {m : Mem} (h : RelM w ρ m) : RelM w ρ (lend m) := by
  have nomap : ∀ (b : Nat) kt et es, (Go.Proofs.Yteogokmbedmkjaa.lend m)[b]? = some (.map kt et es) → False := by
    intro b kt et es hm
    obtain ⟨b0, g1, g2⟩ := lend_get hm
    cases b0 with
    | cells st ty sz es => cases st <;> simp [lendB] at g2
    | map kt' et' es' => exact h.maps b kt' et' es' g1
    | dead => simp [lendB] at g2
  refine ⟨by simp [Go.Proofs.Yteogokmbedmkjaa.lend, h.len], fun b st ty sz es hm => ?_, fun b b' blk blk' r r' h1 h2 h3 h4 h5 h6 h7 => ?_, nomap⟩
  · obtain ⟨b0, g1, g2⟩ := lend_get hm
    have : ∃ st0, b0 = .cells st0 ty sz es := by
      cases b0 with
      | cells st' ty' sz' es' => cases st' <;> simp [lendB] at g2 <;> exact ⟨_, by rw [g2.2.1, g2.2.2.1, g2.2.2.2]⟩
      | map kt' et' es' => simp [lendB] at g2
      | dead => simp [lendB] at g2
    obtain ⟨st0, rfl⟩ := this
    obtain ⟨r, cur, k1, k2, k3, k4, k5, k6, k7, k8, k9⟩ := h.cells b st0 ty sz es g1
    refine ⟨r, cur, k1, k2, k3, k4, k5, k6, k7, k8, fun i j e v a1 a2 => ?_⟩
    obtain ⟨b1, y, b2, b3⟩ := k9 i j e v a1 a2
    exact ⟨b1, y, b2, RelV.lend.2 b3⟩
  · obtain ⟨b0, g1, rfl⟩ := lend_get h1
    obtain ⟨b1, g3, rfl⟩ := lend_get h3
    exact h.inj b b' b0 b1 r r' g1 (fun e => by subst e; exact h2 rfl) g3 ((lendB_bad b1).symm.trans h4) h5 h6 h7
theorem lend_own {m : Mem} {ρ : List Re} {k : Nat} (hm : ∀ (b : Nat) kt et es, m[b]? = some (.map kt et es) → False) : ¬ owned (lend m) ρ k := by
  rintro ⟨b, blk, r, h1, h2, h3, h4⟩
  obtain ⟨b0, g1, rfl⟩ := lend_get h1
  cases b0 with
  | cells st ty sz es => cases st <;> simp [lendB, Blk.own] at h2
  | map kt et es => exact hm b kt et es g1
  | dead => simp [lendB, Blk.own] at h2

mutual
/-- no memory is looked at through it -/
def V.flat : V → Bool
  | .agg cs => flatL cs
  | .tup cs => flatL cs
  | .lst _ => false
  | .bp _ _ => false
  | .ptr _ _ _ => false
  | .sl _ _ => false
  | .mp _ => false
  | .clo _ _ _ => false
  | _ => true
def flatL : List V → Bool
  | [] => true
  | v :: r => v.flat && flatL r
end
theorem flatL_mem {l : List V} (h : flatL l = true) : ∀ v ∈ l, v.flat = true := by
  induction l with
  | nil => intro v hv; cases hv
  | cons a l ih =>
    simp only [flatL, Bool.and_eq_true] at h
    intro v hv
    rcases List.mem_cons.1 hv with rfl | hv
    · exact h.1
    · exact ih h.2 v hv
theorem flat_rel {w w' : World} {ρ ρ' : List Re} {B B' : Nat → Prop} {v : V} {x : Value} (h : RelV w ρ B v x) (hp : v.flat = true) : RelV w' ρ' B' v x := by
  induction h with
  | any x => exact .any x
  | int k n => exact .int k n
  | bool b => exact .bool b
  | str s b h => exact .str s b h
  | nilptr => exact .nilptr
  | nilsl => exact .nilsl
  | nilmap => exact .nilmap
  | nilfn => exact .nilfn
  | nilif => exact .nilif
  | agg cs xs hl _ ih =>
    simp only [V.flat] at hp
    exact .agg cs xs hl fun i c x h1 h2 => ih i c x h1 h2 (flatL_mem hp c (List.mem_of_getElem? h1))
  | tup cs xs hl _ ih =>
    simp only [V.flat] at hp
    exact .tup cs xs hl fun i c x h1 h2 => ih i c x h1 h2 (flatL_mem hp c (List.mem_of_getElem? h1))
  | _ => simp [V.flat] at hp

/-- what stands at the end of a body: the result as the caller reads it -/
def Fin (m0 : Mem) (R : V → Option Mem → Prop) (v : V) (m' : Mem) : Prop :=
  (v.flat = true ∧ R v none) ∨ (∃ ext v', m' = lend m0 ++ ext ∧ frz m' m0.length 4 v = some v' ∧ R v' none)

def QRet (P : Program) (fn : Func) (F : V → Mem → Prop) : Exit → List (Nat × V) → Mem → Prop :=
  fun e t m => (e = .normal ∨ e = .ret) ∧ match resV P t m fn.results.toList with
    | some v => F v m
    | none => False

theorem start_rel {w : World} {ρ : List Re} {m : Mem} {args : List V} {xs : Array Value} {n : Nat} (hM : RelM w ρ m) (hA : RelAs w ρ m args xs) (hn : args.length ≤ n) :
    Rel n w ρ m (argT 0 args) { tmps := xs ++ Array.replicate (n - xs.size) undef, defers := [] } := by
  refine ⟨hM, fun i => ?_, by simp; have := hA.1; omega, rfl⟩
  rw [argT_get]
  simp only [Nat.zero_le, if_true, Nat.sub_zero]
  cases h : args[i]? with
  | none => exact .any _
  | some v =>
    have hi : i < xs.size := by rw [← hA.1]; exact (List.getElem?_eq_some_iff.1 h).1
    have hx : xs[i]? = some xs[i] := Array.getElem?_eq_getElem hi
    have : (xs ++ Array.replicate (n - xs.size) undef).getD i undef = xs[i] := by
      rw [Array.getD_eq_getD_getElem?, Array.getElem?_append_left hi, hx]; rfl
    rw [this]
    exact hA.2 i v _ h hx

/-- a contract out of the code: the caller's memory is read alone -/
theorem CallA_intro {f : FuncId} {fn : Func} {c : Code} {args : List V} {m : Mem} {R : V → Option Mem → Prop} (hf : P.funcs[f]? = some fn) (hb : fn.body = some c) (hg : isGo P f = true) (hn : args.length ≤ fn.ntmps)
    (h : WA P fn.ntmps c (argT 0 args) (lend m) (QRet P fn (Fin m R))) : CallA P f args m R := by
  refine ⟨hg, fun w ρ xs hM hA => calls_of_wp hf hb ?_⟩
  have hM' := hM.lend
  have hA' : RelAs w ρ (lend m) args xs := ⟨hA.1, fun i v x h1 h2 => RelV.lend.2 (hA.2 i v x h1 h2)⟩
  refine wp_mono (h w ρ _ (start_rel hM' hA' hn)) ?_
  rintro e a' w' ⟨t', m', ρ', ⟨he, hq⟩, hR, af⟩
  split at hq
  · rename_i v hv
    obtain ⟨x, hrun, hrv⟩ := resV_sound (P := P) hR.mem hR.tm hv
    have hbel : Below w.heap.size w w' := ⟨af.keep.os, af.keep.tape, af.keep.output, af.keep.size, fun k hk => af.keep.block k hk (lend_own hM.maps)⟩
    have fin : ∃ v mo x', (Ending.returned x = .returned x') ∧ R v mo ∧ ((mo = none ∧ Below w.heap.size w w' ∧ RelV w' ρ (bad m ρ) v x') ∨ ∃ m'' ρ'', mo = some m'' ∧ After w ρ m w' ρ'' m'' ∧ RelV w' ρ'' (bad m'' ρ'') v x') := by
      rcases hq with ⟨hp, hr⟩ | ⟨ext, v', rfl, hfz, hr⟩
      · refine ⟨v, none, x, rfl, hr, .inl ⟨rfl, hbel, flat_rel hrv hp⟩⟩
      · refine ⟨v', none, x, rfl, hr, .inl ⟨rfl, hbel, ?_⟩⟩
        have h1 := frz_sound hR.mem m.length 4 hrv hfz
        have e1 : (lend m ++ ext).take m.length = lend m := by
          have : m.length = (lend m).length := by simp [lend]
          rw [this]; exact List.take_left
        have e2 : ρ'.take m.length = ρ := by
          apply List.ext_getElem?
          intro i
          rcases Nat.lt_or_ge i m.length with hi | hi
          · rw [List.getElem?_take_of_lt hi]
            have hi' : i < ρ.length := by rw [hM.len]; exact hi
            have hx : ρ[i]? = some ρ[i] := List.getElem?_eq_getElem hi'
            rw [hx]
            exact af.pre i _ hx
          · rw [List.getElem?_eq_none (by simp; omega), List.getElem?_eq_none (by have := hM.len; omega)]
        rw [e1, e2] at h1
        exact RelV.lend.1 h1
    have hpost : a'.defers = [] ∧ ∃ v, (results fn a'.tmps).run P w' = .ok v w' ∧ (∃ v' mo x', (Ending.returned v = .returned x') ∧ R v' mo ∧ ((mo = none ∧ Below w.heap.size w w' ∧ RelV w' ρ (bad m ρ) v' x') ∨ ∃ m'' ρ'', mo = some m'' ∧ After w ρ m w' ρ'' m'' ∧ RelV w' ρ'' (bad m'' ρ'') v' x')) := ⟨hR.defers, x, hrun, fin⟩
    rcases he with rfl | rfl
    · exact hpost
    · exact hpost
  · exact hq.elim

/-- a contract out of the code: the caller's memory may be written -/
theorem CallA_introD {f : FuncId} {fn : Func} {c : Code} {args : List V} {m : Mem} {R : V → Option Mem → Prop} (hf : P.funcs[f]? = some fn) (hb : fn.body = some c) (hg : isGo P f = true) (hn : args.length ≤ fn.ntmps)
    (h : WA P fn.ntmps c (argT 0 args) m (QRet P fn (fun v m' => R v (some m')))) : CallA P f args m R := by
  refine ⟨hg, fun w ρ xs hM hA => calls_of_wp hf hb ?_⟩
  refine wp_mono (h w ρ _ (start_rel hM hA hn)) ?_
  rintro e a' w' ⟨t', m', ρ', ⟨he, hq⟩, hR, af⟩
  split at hq
  · rename_i v hv
    obtain ⟨x, hrun, hrv⟩ := resV_sound (P := P) hR.mem hR.tm hv
    have hpost : a'.defers = [] ∧ ∃ v, (results fn a'.tmps).run P w' = .ok v w' ∧ (∃ v' mo x', (Ending.returned v = .returned x') ∧ R v' mo ∧ ((mo = none ∧ Below w.heap.size w w' ∧ RelV w' ρ (bad m ρ) v' x') ∨ ∃ m'' ρ'', mo = some m'' ∧ After w ρ m w' ρ'' m'' ∧ RelV w' ρ'' (bad m'' ρ'') v' x')) :=
      ⟨hR.defers, x, hrun, v, some m', x, rfl, hq, .inr ⟨m', ρ', rfl, af, hrv⟩⟩
    rcases he with rfl | rfl
    · exact hpost
    · exact hpost
  · exact hq.elim
end
end Go.Proofs.Yteogokmbedmkjaa
