import Derived.Test.YteogokmbedmkjaaF21
/- the plain reading, step by step: memory -/
namespace Go.Proofs.Yteogokmbedmkjaa
open Go.RowKit

theorem u64w {n : Int} (h1 : 0 ≤ n) (h2 : n ≤ 18446744073709551615) : IntKind.u64.wrap n = n := by rw [IntKind.wrap_u64]; omega
theorem lend_lend (m : Mem) : lend (lend m) = lend m := by
  unfold lend
  rw [List.map_map]
  apply List.map_congr_left
  intro b _
  cases b with
  | cells st ty sz es => cases st <;> rfl
  | map kt et es => rfl
  | dead => rfl
theorem lend_append (a b : Mem) : lend (a ++ b) = lend a ++ lend b := by simp [lend]
theorem lend_nil : lend [] = [] := rfl
theorem lend_length (m : Mem) : (lend m).length = m.length := by simp [lend]
theorem lend_append_nil (a : Mem) : lend (a ++ []) = lend a := by simp

section
variable {L ext : Mem} {j : Nat} {b : Blk}
theorem mg : (L ++ ext)[L.length + j]? = ext[j]? := by rw [List.getElem?_append_right (by omega)]; congr 1; omega
theorem ms : (L ++ ext).set (L.length + j) b = L ++ ext.set j b := by
  rw [List.set_append_right _ _ (by omega)]; congr 2; omega
theorem mg0 : (L ++ ext)[L.length]? = ext[0]? := mg (j := 0)
theorem ms0 : (L ++ ext).set L.length b = L ++ ext.set 0 b := ms (j := 0)
theorem ma : (L ++ ext) ++ [b] = L ++ (ext ++ [b]) := List.append_assoc ..
theorem ml : (L ++ ext).length = L.length + ext.length := List.length_append
theorem lenAll {p : V → Bool} : (([] : List V).all p) = true := rfl
end

section
variable {P : Program} {N : Nat} {t : List (Nat × V)} {m : Mem}
theorem b_aeq {T : TypeId} {c1 c2 : List V} : evB P m .eql T (.agg c1) (.agg c2) = match eqT P T with
    | some l => if c1.length = szT P T ∧ c2.length = szT P T then (match planEq c1 c2 l with
      | some b => some (True, .bool b, m)
      | none => none) else none
    | none => none := by
  unfold evB evEq eqV
  cases eqT P T with
  | none => rfl
  | some l =>
    by_cases hc : c1.length = szT P T ∧ c2.length = szT P T
    · cases hp : planEq c1 c2 l <;> simp [hc, hp, evBin]
    · simp [hc, evBin]
theorem b_ane {T : TypeId} {c1 c2 : List V} : evB P m .neq T (.agg c1) (.agg c2) = match eqT P T with
    | some l => if c1.length = szT P T ∧ c2.length = szT P T then (match planEq c1 c2 l with
      | some b => some (True, .bool (!b), m)
      | none => none) else none
    | none => none := by
  unfold evB evEq eqV
  cases eqT P T with
  | none => rfl
  | some l =>
    by_cases hc : c1.length = szT P T ∧ c2.length = szT P T
    · cases hp : planEq c1 c2 l <;> simp [hc, hp, evBin]
    · simp [hc, evBin]
theorem ev_slice (T : TypeId) (x : Operand) (lo hi : Option Operand) : evA P t m (.slice T x lo hi none) = match evStrSlice P t T x lo hi with
    | some (p, v) => some (p, v, m)
    | none => evSlice P t m T x lo hi := rfl
theorem maxLen_eq : maxLen = 9223372036854775807 := rfl
theorem bool_ite {b : Bool} {x y : V} : (if b = true then x else y) = bif b then x else y := by cases b <;> rfl
/-- a quiet contract: one flat result -/
theorem Gives_in {f : FuncId} {fn : Func} {c : Code} {args : List V} {m : Mem} {n : Nat} {rs : Array ResultVar} {v : V} (hf : P.funcs[f]? = some fn) (hb : fn.body = some c) (hN : fn.ntmps = n) (hr : fn.results = rs) (hg : isGo P f = true) (hn : args.length ≤ n) (hv : v.flat = true)
    (h : ∀ Q : Exit → List (Nat × V) → Mem → Prop, (∀ e t m', (e = .normal ∨ e = .ret) → resV P t m' rs.toList = some v → Q e t m') → WA P n c (argT 0 args) (lend m ++ []) Q) : Gives P f args m v :=
  Gives_enter hf hb hN hr hg hn hv (by rw [List.append_nil] at h; exact h)
/-- a quiet contract: whatever may be said of the result -/
theorem CallA_in {f : FuncId} {fn : Func} {c : Code} {args : List V} {m : Mem} {n : Nat} {rs : Array ResultVar} {R : V → Option Mem → Prop} (hf : P.funcs[f]? = some fn) (hb : fn.body = some c) (hN : fn.ntmps = n) (hr : fn.results = rs) (hg : isGo P f = true) (hn : args.length ≤ n)
    (h : ∀ Q : Exit → List (Nat × V) → Mem → Prop, (∀ e t m', (e = .normal ∨ e = .ret) → ∀ v, resV P t m' rs.toList = some v → Fin m R v m' → Q e t m') → WA P n c (argT 0 args) (lend m ++ []) Q) : CallA P f args m R := by
  refine CallA_enter hf hb hN hr hg hn ?_
  rw [List.append_nil] at h
  refine h _ ?_
  intro e t m' he v hr hF
  refine ⟨he, ?_⟩
  rw [hr]
  exact hF

section
variable {Q : List (Nat × V) → Mem → Prop} {ops : Array Oper} {rest : List Oper} {d : Nat} {op : Op} {ty : TypeId} {pos : String} {af : Array Edge} {g : FuncId} {ts : Array TypeId} {l : List Operand} {vs : List V} {v : V} {kd : Nat → Kd} {is : List El} {LL : Nat} {i : Nat}
theorem WOs_noS {j e : Nat} {want : Bool} (hj : (ops[j]?).bind (·.dst) = some e) (hd : dOk N (some d)) (ht : tget t e = .bool (!want)) (h : WOs P N ops rest ((d, .tup []) :: t) m Q) : WOs P N ops (⟨some d, op, ty, pos, af, some (j, want)⟩ :: rest) t m Q := WOs_no' hj hd ht h
theorem WOs_noSU {j e : Nat} {want : Bool} (hj : (ops[j]?).bind (·.dst) = some e) (hd : dOk N (some d)) (ht : tget t e = .tup []) (h : WOs P N ops rest ((d, .tup []) :: t) m Q) : WOs P N ops (⟨some d, op, ty, pos, af, some (j, want)⟩ :: rest) t m Q := WOs_noU hj hd ht h
theorem WDs_noSU {j e : Nat} {want : Bool} (hi : ops[i]? = some ⟨some d, op, ty, pos, af, some (j, want)⟩) (hj : (ops[j]?).bind (·.dst) = some e) (hd : dOk N (some d)) (ht : tget t e = .tup []) (h : WDs P N ops kd LL is ((d, .tup []) :: t) m Q) : WDs P N ops kd LL (.one i :: is) t m Q := WDs_noU hi hj hd ht h
theorem WOs_noN {j e : Nat} {want : Bool} (hj : (ops[j]?).bind (·.dst) = some e) (ht : tget t e = .bool (!want)) (h : WOs P N ops rest t m Q) : WOs P N ops (⟨none, op, ty, pos, af, some (j, want)⟩ :: rest) t m Q := WOs_no' hj dOk_none ht h
theorem fn_args {t : List (Nat × V)} (l : List Operand) {vs : List V} (h : l.map (evO t) = vs) : ([] : List V) ++ l.toArray.toList.map (evO t) ++ [] = vs := by simpa using h
theorem WOs_fn (hd : dOk N (some d)) (ha : l.map (evO t) = vs) (hc : Gives P g vs m v) (h : WOs P N ops rest ((d, v) :: t) m Q) : WOs P N ops (⟨some d, .call ⟨.value (.func g), l.toArray, ts⟩, ty, pos, af, none⟩ :: rest) t m Q :=
  WOs_gives hd rfl (fn_args l ha) hc h
theorem WOs_fnA {R : V → Option Mem → Prop} (hd : dOk N (some d)) (ha : l.map (evO t) = vs) (hc : CallA P g vs m R) (h : ∀ v mo, R v mo → WOs P N ops rest ((d, v) :: t) (mo.getD m) Q) : WOs P N ops (⟨some d, .call ⟨.value (.func g), l.toArray, ts⟩, ty, pos, af, none⟩ :: rest) t m Q :=
  WOs_call hd rfl (fn_args l ha) hc h
/-- a call of a function value -/
theorem WOs_dyn {f : Operand} {fs cs : List V} (hd : dOk N (some d)) (hf : evO t f = .clo (.func g) fs cs) (ha : fs ++ l.map (evO t) ++ cs = vs) (hc : Gives P g vs m v) (h : WOs P N ops rest ((d, v) :: t) m Q) : WOs P N ops (⟨some d, .call ⟨.value f, l.toArray, ts⟩, ty, pos, af, none⟩ :: rest) t m Q :=
  WOs_gives hd hf (by simpa using ha) hc h
theorem WDs_split {b : Bool} {k : Nat} (h1 : b = true → WDs P N ops kd LL is ((k, .bool true) :: t) m Q) (h2 : b = false → WDs P N ops kd LL is ((k, .bool false) :: t) m Q) : WDs P N ops kd LL is ((k, .bool b) :: t) m Q := by
  cases b
  · exact h2 rfl
  · exact h1 rfl
theorem WDs_splitD {p : Prop} [Decidable p] {k : Nat} (h1 : p → WDs P N ops kd LL is ((k, .bool true) :: t) m Q) (h2 : ¬ p → WDs P N ops kd LL is ((k, .bool false) :: t) m Q) : WDs P N ops kd LL is ((k, .bool (decide p)) :: t) m Q :=
  WDs_split (fun h => h1 (of_decide_eq_true h)) (fun h => h2 (of_decide_eq_false h))
theorem WDs_splitN {p : Prop} [Decidable p] {k : Nat} (h1 : ¬ p → WDs P N ops kd LL is ((k, .bool true) :: t) m Q) (h2 : p → WDs P N ops kd LL is ((k, .bool false) :: t) m Q) : WDs P N ops kd LL is ((k, .bool (!decide p)) :: t) m Q :=
  WDs_split (fun h => h1 (by simpa using h)) (fun h => h2 (by simpa using h))
theorem WDs_noS {j e : Nat} {want : Bool} (hi : ops[i]? = some ⟨some d, op, ty, pos, af, some (j, want)⟩) (hj : (ops[j]?).bind (·.dst) = some e) (hd : dOk N (some d)) (ht : tget t e = .bool (!want)) (h : WDs P N ops kd LL is ((d, .tup []) :: t) m Q) : WDs P N ops kd LL (.one i :: is) t m Q := WDs_no' hi hj hd ht h
theorem WDs_noN {j e : Nat} {want : Bool} (hi : ops[i]? = some ⟨none, op, ty, pos, af, some (j, want)⟩) (hj : (ops[j]?).bind (·.dst) = some e) (ht : tget t e = .bool (!want)) (h : WDs P N ops kd LL is t m Q) : WDs P N ops kd LL (.one i :: is) t m Q := WDs_no' hi hj dOk_none ht h
theorem WDs_fn (hi : ops[i]? = some ⟨some d, .call ⟨.value (.func g), l.toArray, ts⟩, ty, pos, af, none⟩) (hd : dOk N (some d)) (ha : l.map (evO t) = vs) (hc : Gives P g vs m v) (hk : (kd i = .q ∧ v.det = true) ∨ kd i = .a ∨ kd i = .w) (h : WDs P N ops kd LL is ((d, v) :: t) m Q) : WDs P N ops kd LL (.one i :: is) t m Q :=
  WDs_gives hi hd rfl (fn_args l ha) hk hc h
end
theorem WAn_step {c : Code} {Q : Exit → List (Nat × V) → Mem → Prop} {n : Nat} (h : WA P N c t m (qThen (WAn P N c Q n) Q)) : WAn P N c Q (n + 1) t m := h
theorem qT_WAn {c : Code} {Q Q' : Exit → List (Nat × V) → Mem → Prop} {n : Nat} (h : WAn P N c Q n t m) : qThen (WAn P N c Q n) Q' .normal t m := h
/-- a contract of the kit's kind -/
theorem Gives_of_calls {f : FuncId} {args : List V} {v : V} {m : Mem} (hg : isGo P f = true) (ha : detL args = true) (hv : v.det = true) (h : ∀ w, Calls P f (args.map V.real).toArray w fun e w' => e = .returned v.real ∧ Below w.heap.size w w') : Gives P f args m v := by
  refine ⟨hg, fun w ρ xs hM hA => ?_⟩
  have hx : xs = (args.map V.real).toArray := by
    apply Array.ext
    · simp; exact hA.1.symm
    · intro i h1 h2
      have hi : i < args.length := by rw [hA.1]; exact h1
      have e1 : args[i]? = some args[i] := List.getElem?_eq_getElem hi
      have hd := detL_mem ha _ (List.getElem_mem hi)
      have := det_eq (real_rel (w := w) (ρ := ρ) (B := bad m ρ) hd) hd (hA.2 i _ _ e1 (Array.getElem?_eq_getElem h1))
      rw [this]; simp
  subst hx
  refine (h w).mono ?_
  rintro e w' ⟨rfl, hb⟩
  exact ⟨v, none, _, rfl, ⟨rfl, rfl⟩, .inl ⟨rfl, hb, real_rel hv⟩⟩
end
end Go.Proofs.Yteogokmbedmkjaa
