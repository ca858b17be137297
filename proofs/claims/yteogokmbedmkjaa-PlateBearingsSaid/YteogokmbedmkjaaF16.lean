import Derived.Test.YteogokmbedmkjaaF15
/- calls, regions, code: what is to be shown of the plain reading, and that it holds then in the model -/
namespace Go.Proofs.Yteogokmbedmkjaa
open Go.RowKit

def lendB : Blk → Blk
  | .cells .ro ty sz es => .cells .ro ty sz es
  | .cells _ ty sz es => .cells .lent ty sz es
  | .map kt et es => .map kt et es
  | .dead => .dead
/-- a caller's memory, as a call sees it that writes none of it -/
def lend (m : Mem) : Mem := m.map lendB

structure Rel (N : Nat) (w : World) (ρ : List Re) (m : Mem) (t : List (Nat × V)) (a : Act) : Prop where
  mem : RelM w ρ m
  tm : RelT w ρ m t a
  size : a.tmps.size = N
  defers : a.defers = []

def RelAs (w : World) (ρ : List Re) (m : Mem) (vs : List V) (xs : Array Value) : Prop :=
  vs.length = xs.size ∧ ∀ (i : Nat) v x, vs[i]? = some v → xs[i]? = some x → RelV w ρ (bad m ρ) v x

def isGo (P : Program) (f : FuncId) : Bool := match P.funcs[f]? with
  | some fn => !(fn.name == "runtime.NumGoroutine") && fn.body.isSome
  | none => false

/-- a call: its result, and the memory behind it (none: nothing that was there has turned, and nothing new is looked at) -/
def CallA (P : Program) (f : FuncId) (args : List V) (m : Mem) (R : V → Option Mem → Prop) : Prop :=
  isGo P f = true ∧ ∀ (w : World) (ρ : List Re) (xs : Array Value), RelM w ρ m → RelAs w ρ m args xs →
    Calls P f xs w (fun e w' => ∃ v mo x, e = .returned x ∧ R v mo ∧
      ((mo = none ∧ Below w.heap.size w w' ∧ RelV w' ρ (bad m ρ) v x) ∨ ∃ m' ρ', mo = some m' ∧ After w ρ m w' ρ' m' ∧ RelV w' ρ' (bad m' ρ') v x))

theorem CallA.mono {P : Program} {f : FuncId} {args : List V} {m : Mem} {R R' : V → Option Mem → Prop} (h : CallA P f args m R) (hR : ∀ v mo, R v mo → R' v mo) : CallA P f args m R' :=
  ⟨h.1, fun w ρ xs hM hA => (h.2 w ρ xs hM hA).mono fun _ _ ⟨v, mo, x, h1, h2, h3⟩ => ⟨v, mo, x, h1, hR v mo h2, h3⟩⟩

/-- the usual contract: this result, and nothing else is to be seen -/
def Gives (P : Program) (f : FuncId) (args : List V) (m : Mem) (v : V) : Prop := CallA P f args m fun v' mo => v' = v ∧ mo = none

def dOk (N : Nat) : Option Nat → Prop
  | none => True
  | some d => d < N

/-- one operation -/
def WOp (P : Program) (N : Nat) (t : List (Nat × V)) (m : Mem) (op : Op) (dst : Option Nat) (K : List (Nat × V) → Mem → Prop) : Prop :=
  dOk N dst ∧
  match op with
  | .call ⟨.value f, args, _⟩ => match evO t f with
    | .clo (.func g) fs cs => CallA P g (fs ++ args.toList.map (evO t) ++ cs) m (fun v mo => K (tput t dst v) (mo.getD m))
    | _ => False
  | op => match evA P t m op with
    | some (p, v, m') => p ∧ K (tput t dst v) m'
    | none => False

theorem undef_rel {w : World} {ρ : List Re} {B : Nat → Prop} : RelV w ρ B (.tup []) undef := .tup [] #[] rfl (fun i c x h => by simp at h)
/-- operations in their order -/
def WOs (P : Program) (N : Nat) (ops : Array Oper) : List Oper → List (Nat × V) → Mem → (List (Nat × V) → Mem → Prop) → Prop
  | [], t, m, Q => Q t m
  | o :: rest, t, m, Q => match o.guard with
    | none => WOp P N t m o.op o.dst (fun t m => WOs P N ops rest t m Q)
    | some (j, want) => match (ops[j]?).bind (·.dst) with
      | some d => match tget t d with
        | .bool c => (c = want → WOp P N t m o.op o.dst (fun t m => WOs P N ops rest t m Q)) ∧ (¬ c = want → dOk N o.dst ∧ WOs P N ops rest (tput t o.dst (.tup [])) m Q)
        | .tup [] => dOk N o.dst ∧ WOs P N ops rest (tput t o.dst (.tup [])) m Q
        | _ => False
      | none => False

theorem run_callFunc {P : Program} {f : FuncId} (h : isGo P f = true) (args : Array Value) (w : World) : (callFunc f args).run P w = .ok (.enter f args) w := by
  unfold isGo at h
  split at h
  · rename_i fn hf
    simp only [Bool.and_eq_true, Bool.not_eq_true'] at h
    obtain ⟨h1, h2⟩ := h
    have h3 : ¬ fn.body = none := by
      intro hb; rw [hb] at h2; simp at h2
    have h1' : ¬ fn.name = "runtime.NumGoroutine" := by simpa using h1
    simp [callFunc, hf, h1', h3, go_sem]
  · cases h

theorem RelT.after {w w' : World} {ρ ρ' : List Re} {m m' : Mem} {t : List (Nat × V)} {a : Act} (h : RelT w ρ m t a) (af : After w ρ m w' ρ' m') : RelT w' ρ' m' t a := fun i => af.rel (h i)
theorem After.of_same {w w' : World} {ρ : List Re} {m : Mem} (hM : RelM w ρ m) (hb : Below w.heap.size w w') : After w ρ m w' ρ m :=
  ⟨Keep.of_below hb, fun _ _ h => h, hM.mono hb, fun _ _ h => h, fun _ _ h => h⟩
theorem dOk_lt {N : Nat} {d : Option Nat} (h : dOk N d) : ∀ k, d = some k → k < N := by
  intro k e; subst e; exact h

theorem WOp_sound {P : Program} {N : Nat} {w : World} {ρ : List Re} {m : Mem} {t : List (Nat × V)} {a : Act} {o : Oper} {K : List (Nat × V) → Mem → Prop} {K' : Act → World → Prop} {Q' : Exit → Act → World → Prop}
    (hR : Rel N w ρ m t a) (h : WOp P N t m o.op o.dst K) (hK : ∀ t' m' a' w' ρ', K t' m' → Rel N w' ρ' m' t' a' → After w ρ m w' ρ' m' → K' a' w') : o.wp P a w K' Q' := by
  obtain ⟨hd, h⟩ := h
  have hput : ∀ {w' : World} {ρ' : List Re} {m' : Mem} {v : V} {x : Value}, After w ρ m w' ρ' m' → RelV w' ρ' (bad m' ρ') v x → Rel N w' ρ' m' (tput t o.dst v) (a.put o.dst x) := by
    intro w' ρ' m' v x af rv
    refine ⟨af.mem, tput_rel (hR.tm.after af) rv (fun k e => by rw [hR.size]; exact dOk_lt hd k e), ?_, ?_⟩
    · cases o.dst <;> simp [Act.put, hR.size]
    · cases o.dst <;> simp [Act.put, hR.defers]
  have pureCase : (match evA P t m o.op with
    | some (p, v, m') => p ∧ K (tput t o.dst v) m'
    | none => False) → o.wp P a w K' Q' := by
    intro h
    split at h
    · rename_i p v m' he
      obtain ⟨n, w', ρ', h1, af, h2, _⟩ := evA_sound hR.mem hR.tm he h.1
      unfold Oper.wp
      rw [h1]
      rcases h2 with ⟨x, rfl, rv⟩ | ⟨rfl, rfl⟩
      · exact hK _ _ _ _ _ h.2 (hput af rv) af
      · exact hK _ _ _ _ _ h.2 (hput af (.any _)) af
    · exact h.elim
  split at h
  · rename_i f args ts ho
    split at h
    · rename_i g fs cs hf
      have hfr := evO_rel hR.tm f
      rw [hf] at hfr
      generalize hef : a.eval f = ef at hfr
      cases hfr with
      | clo _ _ _ f2 c2 hlf hlc hrf hrc =>
        obtain ⟨hgo, hcall⟩ := h
        have hargs : RelAs w ρ m (fs ++ args.toList.map (evO t) ++ cs) (f2 ++ args.map a.eval ++ c2) := by
          have e2 : (f2 ++ args.map a.eval ++ c2).toList = f2.toList ++ args.toList.map a.eval ++ c2.toList := by simp
          refine ⟨by simp; omega, fun i v x h1 h2 => ?_⟩
          have h2' : (f2.toList ++ args.toList.map a.eval ++ c2.toList)[i]? = some x := by rw [← e2, Array.getElem?_toList]; exact h2
          have hl1 : fs.length = f2.toList.length := by simpa using hlf
          by_cases q1 : i < fs.length
          · rw [List.append_assoc, List.getElem?_append_left q1] at h1
            rw [List.append_assoc, List.getElem?_append_left (by omega)] at h2'
            exact hrf i v x h1 (by simpa using h2')
          · by_cases q2 : i < (fs ++ args.toList.map (evO t)).length
            · rw [List.getElem?_append_left q2, List.getElem?_append_right (by omega)] at h1
              rw [List.getElem?_append_left (by simp at q2 ⊢; simp at hl1; omega), List.getElem?_append_right (by omega), ← hl1] at h2'
              simp only [List.getElem?_map, Option.map_eq_some_iff] at h1 h2'
              obtain ⟨o1, g1, rfl⟩ := h1
              obtain ⟨o2, g2, rfl⟩ := h2'
              rw [g1] at g2
              cases g2
              exact evO_rel hR.tm _
            · rw [List.getElem?_append_right (by omega)] at h1
              have hl2 : (fs ++ args.toList.map (evO t)).length = (f2.toList ++ args.toList.map a.eval).length := by simp at hl1 ⊢; omega
              rw [List.getElem?_append_right (by omega), ← hl2] at h2'
              exact hrc _ v x h1 (by simpa using h2')
        have hc := hcall w ρ _ hR.mem hargs
        unfold Oper.wp
        have hrun : (execOp a.eval o).run P w = .ok (.enter g (f2 ++ args.map a.eval ++ c2)) w := by
          simp only [execOp, ho, resolve, hef, Deferred.ofValue, invoke, Sem.run_bind, Sem.run_pure, Result.andThen_ok, run_callFunc hgo]
        rw [hrun]
        refine hc.mono ?_
        rintro e w' ⟨v, mo, x, rfl, hr, hh⟩
        rcases hh with ⟨rfl, hb, rv⟩ | ⟨m', ρ', rfl, af, rv⟩
        · have af := After.of_same hR.mem hb
          exact hK _ _ _ _ _ hr (hput af rv) af
        · exact hK _ _ _ _ _ hr (hput af rv) af
    · exact h.elim
  · exact pureCase h

theorem WOs_sound {P : Program} {N : Nat} {ops : Array Oper} {Q : List (Nat × V) → Mem → Prop} {Q' : Exit → Act → World → Prop} : ∀ (l : List Oper) {w : World} {ρ : List Re} {m : Mem} {t : List (Nat × V)} {a : Act},
    Rel N w ρ m t a → WOs P N ops l t m Q → (∀ t' m' a' w' ρ', Q t' m' → Rel N w' ρ' m' t' a' → After w ρ m w' ρ' m' → Q' .normal a' w') → wpList P ops Q' l a w
  | [], w, ρ, m, t, a, hR, h, hQ => wpList_nil (hQ _ _ _ _ _ h hR (After.refl hR.mem))
  | o :: rest, w, ρ, m, t, a, hR, h, hQ => by
    have step : WOp P N t m o.op o.dst (fun t m => WOs P N ops rest t m Q) → o.wp P a w (wpList P ops Q' rest) Q' := fun h =>
      WOp_sound hR h (fun t' m' a' w' ρ' hk hR' af => WOs_sound rest hR' hk (fun t2 m2 a2 w2 ρ2 q1 q2 q3 => hQ _ _ _ _ _ q1 q2 (af.trans q3)))
    unfold wpList
    simp only [WOs] at h
    cases hg : o.guard with
    | none =>
      rw [hg] at h
      rw [if_pos (by simp [Region.wanted, hg])]
      exact .inl (step h)
    | some jw =>
      obtain ⟨j, want⟩ := jw
      rw [hg] at h
      simp only at h
      split at h
      · rename_i d hd
        split at h
        · rename_i c hc
          have hr := hR.tm d
          rw [hc] at hr
          have hget : a.tmps[d]? = some (.bool c) := by
            have : a.tmps.getD d undef = .bool c := by
              generalize a.tmps.getD d undef = x at hr
              cases hr; rfl
            rw [Array.getD_eq_getD_getElem?] at this
            cases hx : a.tmps[d]? with
            | none => rw [hx] at this; simp [undef] at this
            | some y => rw [hx] at this; simp at this; rw [this]
          have hy : yielded ops a.tmps j = some c := by
            unfold yielded
            rw [hd]
            simp only [Option.bind_some, hget]
          by_cases hcw : c = want
          · rw [if_pos (by simp [Region.wanted, hg, hy, hcw])]
            exact .inl (step (h.1 hcw))
          · rw [if_neg (by simp [Region.wanted, hg, hy, hcw])]
            obtain ⟨hdk, h2⟩ := h.2 hcw
            have hR' : Rel N w ρ m (tput t o.dst (.tup [])) (a.put o.dst undef) :=
              ⟨hR.mem, tput_rel hR.tm undef_rel (fun k e => by rw [hR.size]; exact dOk_lt hdk k e), by cases o.dst <;> simp [Act.put, hR.size], by cases o.dst <;> simp [Act.put, hR.defers]⟩
            exact WOs_sound rest hR' h2 hQ
        · rename_i hc
          have hr := hR.tm d
          rw [hc] at hr
          have hu : a.tmps.getD d undef = .tuple #[] := by
            generalize a.tmps.getD d undef = x at hr
            cases hr with
            | tup _ xs hl _ => have : xs = #[] := Array.eq_empty_of_size_eq_zero hl.symm
                               rw [this]
          have hy : yielded ops a.tmps j = none := by
            unfold yielded
            rw [hd]
            simp only [Option.bind_some]
            rw [Array.getD_eq_getD_getElem?] at hu
            cases hx : a.tmps[d]? with
            | none => rfl
            | some y => rw [hx] at hu; simp at hu; subst hu; rfl
          rw [if_neg (by simp [Region.wanted, hg, hy])]
          obtain ⟨hdk, h2⟩ := h
          have hR' : Rel N w ρ m (tput t o.dst (.tup [])) (a.put o.dst undef) :=
            ⟨hR.mem, tput_rel hR.tm undef_rel (fun k e => by rw [hR.size]; exact dOk_lt hdk k e), by cases o.dst <;> simp [Act.put, hR.size], by cases o.dst <;> simp [Act.put, hR.defers]⟩
          exact WOs_sound rest hR' h2 hQ
        · exact h.elim
      · exact h.elim
end Go.Proofs.Yteogokmbedmkjaa
