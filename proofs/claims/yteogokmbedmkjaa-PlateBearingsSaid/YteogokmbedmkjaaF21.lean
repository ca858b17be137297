import Derived.Test.YteogokmbedmkjaaF20
import Derived.IntWalk
/- the plain reading, step by step: one rule for each operation, one for each kind of code -/
namespace Go.Proofs.Yteogokmbedmkjaa
open Go.RowKit

section
variable {P : Program} {N : Nat} {t : List (Nat × V)} {m : Mem} {Q : List (Nat × V) → Mem → Prop} {ops : Array Oper} {rest : List Oper}

theorem WOs_nil (h : Q t m) : WOs P N ops [] t m Q := h
theorem evA_call {f : Operand} {args : Array Operand} {ts : Array TypeId} : evA P t m (.call ⟨.value f, args, ts⟩) = none := rfl
theorem WOp_of {op : Op} {dst : Option Nat} {K : List (Nat × V) → Mem → Prop} (hd : dOk N dst) (h : match evA P t m op with
    | some (p, v, m') => p ∧ K (tput t dst v) m'
    | none => False) : WOp P N t m op dst K := by
  refine ⟨hd, ?_⟩
  split
  · exact h.elim
  · exact h
theorem WOs_op {d : Option Nat} {op : Op} {ty : TypeId} {pos : String} {af : Array Edge} (hd : dOk N d) (h : ∀ K : List (Nat × V) → Mem → Prop, (∀ t m, WOs P N ops rest t m Q → K t m) → match evA P t m op with
    | some (p, v, m') => p ∧ K (tput t d v) m'
    | none => False) : WOs P N ops (⟨d, op, ty, pos, af, none⟩ :: rest) t m Q :=
  WOp_of hd (h _ fun _ _ h => h)
theorem WOs_yes {d : Option Nat} {op : Op} {ty : TypeId} {pos : String} {af : Array Edge} {j e : Nat} {want : Bool} (hj : (ops[j]?).bind (·.dst) = some e) (ht : tget t e = .bool want) (h : WOs P N ops (⟨d, op, ty, pos, af, none⟩ :: rest) t m Q) :
    WOs P N ops (⟨d, op, ty, pos, af, some (j, want)⟩ :: rest) t m Q := by
  unfold WOs
  simp only [hj, ht]
  exact ⟨fun _ => h, fun hn => (hn trivial).elim⟩
theorem WOs_no {d : Option Nat} {op : Op} {ty : TypeId} {pos : String} {af : Array Edge} {j e : Nat} {want c : Bool} (hj : (ops[j]?).bind (·.dst) = some e) (ht : tget t e = .bool c) (hc : (c == want) = false) (hd : dOk N d) (h : WOs P N ops rest (tput t d (.tup [])) m Q) :
    WOs P N ops (⟨d, op, ty, pos, af, some (j, want)⟩ :: rest) t m Q := by
  have hne : ¬ c = want := by simpa using hc
  unfold WOs
  simp only [hj, ht]
  exact ⟨fun e => (hne e).elim, fun _ => ⟨hd, h⟩⟩
theorem WOs_no' {d : Option Nat} {op : Op} {ty : TypeId} {pos : String} {af : Array Edge} {j e : Nat} {want : Bool} (hj : (ops[j]?).bind (·.dst) = some e) (hd : dOk N d) (ht : tget t e = .bool (!want)) (h : WOs P N ops rest (tput t d (.tup [])) m Q) :
    WOs P N ops (⟨d, op, ty, pos, af, some (j, want)⟩ :: rest) t m Q := WOs_no hj ht (by cases want <;> rfl) hd h
theorem WOs_noU {d : Option Nat} {op : Op} {ty : TypeId} {pos : String} {af : Array Edge} {j e : Nat} {want : Bool} (hj : (ops[j]?).bind (·.dst) = some e) (hd : dOk N d) (ht : tget t e = .tup []) (h : WOs P N ops rest (tput t d (.tup [])) m Q) :
    WOs P N ops (⟨d, op, ty, pos, af, some (j, want)⟩ :: rest) t m Q := by
  unfold WOs
  simp only [hj, ht]
  exact ⟨hd, h⟩
theorem WOs_call {d : Option Nat} {ty : TypeId} {pos : String} {af : Array Edge} {f : Operand} {args : Array Operand} {ts : Array TypeId} {g : FuncId} {fs cs vs : List V} {R : V → Option Mem → Prop} (hd : dOk N d) (hf : evO t f = .clo (.func g) fs cs)
    (ha : fs ++ args.toList.map (evO t) ++ cs = vs) (hc : CallA P g vs m R) (h : ∀ v mo, R v mo → WOs P N ops rest (tput t d v) (mo.getD m) Q) : WOs P N ops (⟨d, .call ⟨.value f, args, ts⟩, ty, pos, af, none⟩ :: rest) t m Q := by
  subst ha
  refine ⟨hd, ?_⟩
  simp only [hf]
  exact hc.mono fun v mo hr => h v mo hr
theorem WOs_gives {d : Option Nat} {ty : TypeId} {pos : String} {af : Array Edge} {f : Operand} {args : Array Operand} {ts : Array TypeId} {g : FuncId} {fs cs vs : List V} {v : V} (hd : dOk N d) (hf : evO t f = .clo (.func g) fs cs)
    (ha : fs ++ args.toList.map (evO t) ++ cs = vs) (hc : Gives P g vs m v) (h : WOs P N ops rest (tput t d v) m Q) : WOs P N ops (⟨d, .call ⟨.value f, args, ts⟩, ty, pos, af, none⟩ :: rest) t m Q := by
  refine WOs_call hd hf ha hc ?_
  rintro v mo ⟨rfl, rfl⟩
  exact h
/-- two ways on from here, by a bool that has just come up -/
theorem WOs_split {b : Bool} {i : Nat} (h1 : b = true → WOs P N ops rest ((i, .bool true) :: t) m Q) (h2 : b = false → WOs P N ops rest ((i, .bool false) :: t) m Q) : WOs P N ops rest ((i, .bool b) :: t) m Q := by
  cases b
  · exact h2 rfl
  · exact h1 rfl
def dOkB (N : Nat) : Option Nat → Bool
  | none => true
  | some d => Nat.blt d N
theorem dOk_b {d : Option Nat} (h : dOkB N d = true) : dOk N d := by
  cases d with
  | none => trivial
  | some d => exact Nat.le_of_ble_eq_true h
theorem dOk_none : dOk N none := trivial
theorem dOk_some {d : Nat} (h : d < N) : dOk N (some d) := h
theorem WA_cond_k {c : Operand} {x y : Code} {b : Bool} {Q : Exit → List (Nat × V) → Mem → Prop} (hc : evO t c = .bool b) (h : if b = true then WA P N x t m Q else WA P N y t m Q) : WA P N (.cond c x y) t m Q :=
  WA_cond hc (fun e => by rw [if_pos e] at h; exact h) (fun e => by rw [if_neg (by simp [e])] at h; exact h)
/-- only these slots matter from here -/
def pickT (ks : List Nat) (t : List (Nat × V)) : List (Nat × V) := ks.map fun k => (k, tget t k)
theorem pickT_get : ∀ (ks : List Nat) (i : Nat), tget (pickT ks t) i = tget t i ∨ tget (pickT ks t) i = .any
  | [], _ => .inr rfl
  | k :: ks, i => by
    show tget ((k, tget t k) :: pickT ks t) i = _ ∨ tget ((k, tget t k) :: pickT ks t) i = _
    by_cases e : k = i
    · subst e; exact .inl (by simp [tget])
    · have : tget ((k, tget t k) :: pickT ks t) i = tget (pickT ks t) i := by simp [tget, e]
      rw [this]; exact pickT_get ks i
theorem WA_keep {c : Code} {Q : Exit → List (Nat × V) → Mem → Prop} (ks : List Nat) (h : WA P N c (pickT ks t) m Q) : WA P N c t m Q := WA_forget _ (pickT_get ks) h

/-! the operations, one by one -/
theorem ev_move (x : Operand) : evA P t m (.move x) = some (True, evO t x, m) := rfl
theorem ev_assign (x : Operand) : evA P t m (.assign x) = some (True, evO t x, m) := rfl
theorem ev_pick (c a b : Operand) : evA P t m (.pick c a b) = match evO t c with
    | .bool c => some (True, if c = true then evO t a else evO t b, m)
    | _ => none := rfl
theorem ev_alloc (T : TypeId) : evA P t m (.alloc T) = match zeT P T with
    | some zs => if 0 < zs.length ∧ zs.length ≤ 1000000 then some (True, .ptr m.length 0 0, m ++ [.cells .own T zs.length [zs]]) else none
    | none => none := rfl
theorem ev_box (T : TypeId) (x : Operand) : evA P t m (.box T x) = match cellsV (evO t x) with
    | some xs => if 0 < xs.length ∧ xs.length ≤ 1000000 then some (True, .ptr m.length 0 0, m ++ [.cells .own T xs.length [xs]]) else none
    | none => none := rfl
def evLoad (P : Program) (m : Mem) (T : TypeId) : V → Res
  | .bp cs o => okO m (partV P T cs o)
  | .ptr b i o => match m[b]? with
    | some (.cells _ _ _ es) => match es[i]? with
      | some e => okO m (partV P T e o)
      | none => none
    | _ => none
  | _ => none
theorem ev_load (T : TypeId) (x : Operand) : evA P t m (.load T x) = evLoad P m T (evO t x) := rfl
def evStore (P : Program) (m : Mem) (T : TypeId) : V → Option (List V) → Res
  | .ptr b i o, some xs => match m[b]? with
    | some (.cells .own ty sz es) => match es[i]? with
      | some e => if xs.length = szT P T ∧ 0 < xs.length ∧ o + xs.length ≤ sz then some (True, .any, m.set b (.cells .own ty sz (es.set i (setAt e o xs)))) else none
      | none => none
    | _ => none
  | _, _ => none
theorem ev_store (T : TypeId) (x y : Operand) : evA P t m (.store T x y) = evStore P m T (evO t x) (cellsV (evO t y)) := by
  simp only [evA, evOp]
  generalize evO t x = a
  generalize cellsV (evO t y) = b
  rfl
def evB (P : Program) (m : Mem) (op : BinOp) (T : TypeId) (x y : V) : Res := match evEq P op T x y with
  | some v => some (True, v, m)
  | none => match evBin op x y with
    | some (p, v) => some (p, v, m)
    | none => none
theorem ev_binOp (op : BinOp) (T : TypeId) (x y : Operand) (T' : TypeId) : evA P t m (.binOp op T x y T') = evB P m op T (evO t x) (evO t y) := rfl
theorem ev_unOp (op : UnOp) (T : TypeId) (x : Operand) : evA P t m (.unOp op T x) = okO m (evUn op (evO t x)) := rfl
theorem ev_extract (x : Operand) (i : Nat) : evA P t m (.extract x i) = match evO t x with
    | .tup vs => okO m (vs[i]?)
    | _ => none := rfl
def evFA (P : Program) (m : Mem) (T : TypeId) (j : Nat) (x : V) : Res := match fdT P T j, x with
    | some (off, _), .bp cs o => okR m (.bp cs (o + off))
    | some (off, _), .ptr b i o => okR m (.ptr b i (o + off))
    | _, _ => none
theorem ev_fieldAddr (T : TypeId) (x : Operand) (j : Nat) : evA P t m (.fieldAddr T x j) = evFA P m T j (evO t x) := rfl
def evF (P : Program) (m : Mem) (T : TypeId) (j : Nat) (x : V) : Res := match fdT P T j, x with
    | some (off, ft), .agg cs => okO m (partV P ft cs off)
    | _, _ => none
theorem ev_field (T : TypeId) (x : Operand) (j : Nat) : evA P t m (.field T x j) = evF P m T j (evO t x) := rfl
def evIA (P : Program) (m : Mem) (T : TypeId) (x ix : V) : Res := match ix with
    | .int _ n => match slT P T, x with
      | some E, .lst es => match es[n.toNat]? with
        | some e => if e.length = szT P E ∧ 0 < szT P E then some (0 ≤ n, .bp e 0, m) else none
        | none => none
      | some E, .sl b k => match m[b]? with
        | some (.cells _ _ sz _) => if sz = szT P E ∧ 0 < szT P E then some (0 ≤ n ∧ n < (k : Int), .ptr b n.toNat 0, m) else none
        | _ => none
      | _, .bp cs o => match arT P T with
        | some (k, E) => if 0 < szT P E then some (0 ≤ n ∧ n < (k : Int), .bp cs (o + n.toNat * szT P E), m) else none
        | none => none
      | _, .ptr b i o => match arT P T with
        | some (k, E) => if 0 < szT P E then some (0 ≤ n ∧ n < (k : Int), .ptr b i (o + n.toNat * szT P E), m) else none
        | none => none
      | _, _ => none
    | _ => none
theorem ev_indexAddr (T : TypeId) (x ix : Operand) : evA P t m (.indexAddr T x ix) = evIA P m T (evO t x) (evO t ix) := rfl
def evI (P : Program) (m : Mem) (T : TypeId) (x ix : V) : Res := match ix, arT P T, x with
    | .int _ n, some (k, E), .agg cs => match partV P E cs (n.toNat * szT P E) with
      | some v => if 0 < szT P E then some (0 ≤ n ∧ n < (k : Int), v, m) else none
      | none => none
    | _, _, _ => none
theorem ev_index (T : TypeId) (x ix : Operand) : evA P t m (.index T x ix) = evI P m T (evO t x) (evO t ix) := rfl
theorem ev_makeFunc (fn : Fn) (f c : Array Operand) : evA P t m (.makeFunc fn f c) = some (True, .clo fn (f.toList.map (evO t)) (c.toList.map (evO t)), m) := rfl
def evBuild (P : Program) (m : Mem) (T : TypeId) (vs : List (Nat × V)) : Res := match zeT P T with
    | some zs => match arT P T with
      | some (_, E) => if 0 < szT P E then
          match fillV (fun i => some (i * szT P E, szT P E)) zs vs with
          | some cs => okR m (.agg cs)
          | none => none
        else none
      | none => if stT P T = true then
          match fillV (fun i => (fdT P T i).map fun (o, ft) => (o, szT P ft)) zs vs with
          | some cs => okR m (.agg cs)
          | none => none
        else none
    | none => none
theorem ev_build (T : TypeId) (parts : Array (Nat × Operand)) : evA P t m (.build T parts) = evBuild P m T (parts.toList.map fun (i, x) => (i, evO t x)) := rfl
theorem ev_makeSlice (T : TypeId) (l c : Operand) : evA P t m (.makeSlice T l c) = evMake P t m T l c := rfl
theorem ev_buildSlice (T : TypeId) (n : Nat) (parts : Array (Nat × Operand)) : evA P t m (.buildSlice T n parts) = evBuildSl P t m T n parts := rfl
theorem ev_convert (S D : TypeId) (x : Operand) : evA P t m (.convert S D x) = match intT P S, intT P D, evO t x with
    | some _, some k, .int _ n => okR m (.int k (k.wrap n))
    | _, _, _ => none := rfl
theorem ev_len (x : Operand) (T : TypeId) : evA P t m (.call ⟨.builtin .len, #[x], #[T]⟩) = okO m (evLen P T (evO t x)) := rfl
theorem ev_max (x y : Operand) (ts : Array TypeId) : evA P t m (.call ⟨.builtin .max, #[x, y], ts⟩) = okO m (evMax (evO t x) (evO t y)) := rfl
theorem ev_min (x y : Operand) (ts : Array TypeId) : evA P t m (.call ⟨.builtin .min, #[x, y], ts⟩) = okO m (evMin (evO t x) (evO t y)) := rfl
theorem ev_append (s x : Operand) (T T' : TypeId) : evA P t m (.call ⟨.builtin .append, #[s, x], #[T, T']⟩) = if T' = T then evAppend P t m T s x else none := rfl

/-! numbers -/
theorem b_add {T : TypeId} {k : IntKind} {a b : Int} : evB P m .add T (.int k a) (.int k b) = some (True, .int k (k.wrap (a + b)), m) := by simp [evB, evEq, evBin]
theorem b_sub {T : TypeId} {k : IntKind} {a b : Int} : evB P m .sub T (.int k a) (.int k b) = some (True, .int k (k.wrap (a - b)), m) := by simp [evB, evEq, evBin]
theorem b_mul {T : TypeId} {k : IntKind} {a b : Int} : evB P m .mul T (.int k a) (.int k b) = some (True, .int k (k.wrap (a * b)), m) := by simp [evB, evEq, evBin]
theorem b_quo {T : TypeId} {k : IntKind} {a b : Int} : evB P m .quo T (.int k a) (.int k b) = some (b ≠ 0, .int k (k.wrap (a.tdiv b)), m) := by simp [evB, evEq, evBin]
theorem b_rem {T : TypeId} {k : IntKind} {a b : Int} : evB P m .rem T (.int k a) (.int k b) = some (b ≠ 0, .int k (a.tmod b), m) := by simp [evB, evEq, evBin]
theorem b_eql {T : TypeId} {k : IntKind} {a b : Int} : evB P m .eql T (.int k a) (.int k b) = some (True, .bool (decide (a = b)), m) := by simp [evB, evEq, eqV, evBin]
theorem b_neq {T : TypeId} {k : IntKind} {a b : Int} : evB P m .neq T (.int k a) (.int k b) = some (True, .bool (!decide (a = b)), m) := by simp [evB, evEq, eqV, evBin]
theorem b_lss {T : TypeId} {k : IntKind} {a b : Int} : evB P m .lss T (.int k a) (.int k b) = some (True, .bool (decide (a < b)), m) := by simp [evB, evEq, evBin]
theorem b_leq {T : TypeId} {k : IntKind} {a b : Int} : evB P m .leq T (.int k a) (.int k b) = some (True, .bool (decide (a ≤ b)), m) := by simp [evB, evEq, evBin]
theorem b_gtr {T : TypeId} {k : IntKind} {a b : Int} : evB P m .gtr T (.int k a) (.int k b) = some (True, .bool (decide (b < a)), m) := by simp [evB, evEq, evBin]
theorem b_geq {T : TypeId} {k : IntKind} {a b : Int} : evB P m .geq T (.int k a) (.int k b) = some (True, .bool (decide (b ≤ a)), m) := by simp [evB, evEq, evBin]
theorem b_shr {T : TypeId} {k j : IntKind} {a b : Int} : evB P m .shr T (.int k a) (.int j b) = some (0 ≤ b, .int k (a.fdiv (2 ^ (min b.toNat k.bits))), m) := by simp [evB, evEq, evBin]
theorem b_shl {T : TypeId} {k j : IntKind} {a b : Int} : evB P m .shl T (.int k a) (.int j b) = some (0 ≤ b, .int k (k.wrap (a * 2 ^ (min b.toNat k.bits))), m) := by simp [evB, evEq, evBin]
theorem b_sadd {T : TypeId} {a b : List UInt8} : evB P m .add T (.str a) (.str b) = some (a.length + b.length ≤ 1000000000, .str (a ++ b), m) := by simp [evB, evEq, evBin]
theorem b_seql {T : TypeId} {a b : List UInt8} : evB P m .eql T (.str a) (.str b) = some (True, .bool (decide (a = b)), m) := by simp [evB, evEq, eqV, evBin]
theorem b_sneq {T : TypeId} {a b : List UInt8} : evB P m .neq T (.str a) (.str b) = some (True, .bool (!decide (a = b)), m) := by simp [evB, evEq, eqV, evBin]
theorem b_aeql {T : TypeId} {c1 c2 : List V} {l : List (Nat × Nat)} {b : Bool} (hl : eqT P T = some l) (h1 : c1.length = szT P T) (h2 : c2.length = szT P T) (h : planEq c1 c2 l = some b) : evB P m .eql T (.agg c1) (.agg c2) = some (True, .bool b, m) := by simp [evB, evEq, eqV, hl, h1, h2, h]
theorem b_aneq {T : TypeId} {c1 c2 : List V} {l : List (Nat × Nat)} {b : Bool} (hl : eqT P T = some l) (h1 : c1.length = szT P T) (h2 : c2.length = szT P T) (h : planEq c1 c2 l = some b) : evB P m .neq T (.agg c1) (.agg c2) = some (True, .bool (!b), m) := by simp [evB, evEq, eqV, hl, h1, h2, h]
theorem i64w {n : Int} (h1 : -9223372036854775808 ≤ n) (h2 : n ≤ 9223372036854775807) : IntKind.i64.wrap n = n := IntWalk.i64_in n ⟨h1, h2⟩
theorem u_not {b : Bool} : evUn .not (.bool b) = some (.bool (!b)) := rfl
theorem u_neg {k : IntKind} {a : Int} : evUn .neg (.int k a) = some (.int k (k.wrap (-a))) := rfl
theorem okO_some {v : V} : okO m (some v) = some (True, v, m) := rfl
theorem okR_eq {v : V} : okR m v = some (True, v, m) := rfl
theorem tg_hit {i : Nat} {v : V} {r : List (Nat × V)} : tget ((i, v) :: r) i = v := by simp [tget]
theorem evO_tmp {i : Nat} : evO t (.tmp i) = tget t i := rfl
theorem evO_const {c : Value} : evO t (.const c) = ofC c := rfl
theorem evO_func {f : FuncId} : evO t (.func f) = .clo (.func f) [] [] := rfl
theorem ofC_int {k : IntKind} {n : Int} : ofC (.int k n) = .int k n := rfl
theorem ofC_bool {b : Bool} : ofC (.bool b) = .bool b := rfl
theorem tput_some {d : Nat} {v : V} : tput t (some d) v = (d, v) :: t := rfl
theorem tput_none {v : V} : tput t none v = t := rfl

theorem WOs_splitD {p : Prop} [Decidable p] {i : Nat} (h1 : p → WOs P N ops rest ((i, .bool true) :: t) m Q) (h2 : ¬ p → WOs P N ops rest ((i, .bool false) :: t) m Q) : WOs P N ops rest ((i, .bool (decide p)) :: t) m Q :=
  WOs_split (fun h => h1 (of_decide_eq_true h)) (fun h => h2 (of_decide_eq_false h))
theorem WOs_splitN {p : Prop} [Decidable p] {i : Nat} (h1 : ¬ p → WOs P N ops rest ((i, .bool true) :: t) m Q) (h2 : p → WOs P N ops rest ((i, .bool false) :: t) m Q) : WOs P N ops rest ((i, .bool (!decide p)) :: t) m Q :=
  WOs_split (fun h => h1 (by simpa using h)) (fun h => h2 (by simpa using h))
theorem WA_condT {c : Operand} {x y : Code} {Q : Exit → List (Nat × V) → Mem → Prop} (hc : evO t c = .bool true) (h : WA P N x t m Q) : WA P N (.cond c x y) t m Q := WA_cond hc (fun _ => h) (fun e => by cases e)
theorem WA_condF {c : Operand} {x y : Code} {Q : Exit → List (Nat × V) → Mem → Prop} (hc : evO t c = .bool false) (h : WA P N y t m Q) : WA P N (.cond c x y) t m Q := WA_cond hc (fun e => by cases e) (fun _ => h)

/-! regions that draw their order -/
variable {kd : Nat → Kd} {l : List El} {L : Nat}
theorem WDs_nil (h : Q t m) : WDs P N ops kd L [] t m Q := h
theorem WDs_one {i : Nat} {o : Oper} (hi : ops[i]? = some o) (hg : o.guard = none) (h : WDop P N L (kd i) t m o.op o.dst (fun t m => WDs P N ops kd L l t m Q)) : WDs P N ops kd L (.one i :: l) t m Q := by
  simp only [WDs, hi, hg]; exact h
theorem WDs_op {i : Nat} {d : Option Nat} {op : Op} {ty : TypeId} {pos : String} {af : Array Edge} (hi : ops[i]? = some ⟨d, op, ty, pos, af, none⟩) (hd : dOk N d) (h : ∀ K : List (Nat × V) → Mem → Prop, (∀ t m, WDs P N ops kd L l t m Q → K t m) → match evA P t m op with
    | some (p, v, m') => p ∧ kOk L (kd i) t op m m' v ∧ K (tput t d v) m'
    | none => False) : WDs P N ops kd L (.one i :: l) t m Q := by
  refine WDs_one hi rfl ⟨hd, ?_⟩
  have h := h _ fun _ _ h => h
  dsimp only
  split
  · exact h.elim
  · exact h
theorem WDs_yes {i : Nat} {d : Option Nat} {op : Op} {ty : TypeId} {pos : String} {af : Array Edge} {j e : Nat} {want : Bool} (hi : ops[i]? = some ⟨d, op, ty, pos, af, some (j, want)⟩) (hj : (ops[j]?).bind (·.dst) = some e) (ht : tget t e = .bool want)
    (hd : dOk N d) (h : ∀ K : List (Nat × V) → Mem → Prop, (∀ t m, WDs P N ops kd L l t m Q → K t m) → match evA P t m op with
    | some (p, v, m') => p ∧ kOk L (kd i) t op m m' v ∧ K (tput t d v) m'
    | none => False) : WDs P N ops kd L (.one i :: l) t m Q := by
  unfold WDs
  simp only [hi, hj, ht]
  refine ⟨fun _ => ⟨hd, ?_⟩, fun hn => (hn trivial).elim⟩
  have h := h _ fun _ _ h => h
  dsimp only
  split
  · exact h.elim
  · exact h
theorem WDs_no {i : Nat} {d : Option Nat} {op : Op} {ty : TypeId} {pos : String} {af : Array Edge} {j e : Nat} {want c : Bool} (hi : ops[i]? = some ⟨d, op, ty, pos, af, some (j, want)⟩) (hj : (ops[j]?).bind (·.dst) = some e) (ht : tget t e = .bool c) (hc : (c == want) = false) (hd : dOk N d)
    (h : WDs P N ops kd L l (tput t d (.tup [])) m Q) : WDs P N ops kd L (.one i :: l) t m Q := by
  have hne : ¬ c = want := by simpa using hc
  unfold WDs
  simp only [hi, hj, ht]
  exact ⟨fun e => (hne e).elim, fun _ => ⟨hd, h⟩⟩
theorem WDs_no' {i : Nat} {d : Option Nat} {op : Op} {ty : TypeId} {pos : String} {af : Array Edge} {j e : Nat} {want : Bool} (hi : ops[i]? = some ⟨d, op, ty, pos, af, some (j, want)⟩) (hj : (ops[j]?).bind (·.dst) = some e) (hd : dOk N d) (ht : tget t e = .bool (!want))
    (h : WDs P N ops kd L l (tput t d (.tup [])) m Q) : WDs P N ops kd L (.one i :: l) t m Q := WDs_no hi hj ht (by cases want <;> rfl) hd h
theorem WDs_noU {i : Nat} {d : Option Nat} {op : Op} {ty : TypeId} {pos : String} {af : Array Edge} {j e : Nat} {want : Bool} (hi : ops[i]? = some ⟨d, op, ty, pos, af, some (j, want)⟩) (hj : (ops[j]?).bind (·.dst) = some e) (hd : dOk N d) (ht : tget t e = .tup [])
    (h : WDs P N ops kd L l (tput t d (.tup [])) m Q) : WDs P N ops kd L (.one i :: l) t m Q := by
  unfold WDs
  simp only [hi, hj, ht]
  exact ⟨hd, h⟩
theorem WDs_gives {i : Nat} {d : Option Nat} {ty : TypeId} {pos : String} {af : Array Edge} {f : Operand} {args : Array Operand} {ts : Array TypeId} {g : FuncId} {fs cs vs : List V} {v : V} (hi : ops[i]? = some ⟨d, .call ⟨.value f, args, ts⟩, ty, pos, af, none⟩) (hd : dOk N d) (hf : evO t f = .clo (.func g) fs cs)
    (ha : fs ++ args.toList.map (evO t) ++ cs = vs) (hk : (kd i = .q ∧ v.det = true) ∨ kd i = .a ∨ kd i = .w) (hc : Gives P g vs m v) (h : WDs P N ops kd L l (tput t d v) m Q) : WDs P N ops kd L (.one i :: l) t m Q := by
  subst ha
  refine WDs_one hi rfl ⟨hd, ?_⟩
  simp only [hf]
  rcases hk with ⟨e, hdet⟩ | e | e <;> rw [e]
  · exact ⟨v, hdet, hc, h⟩
  · exact hc.mono fun v mo hr => by obtain ⟨rfl, rfl⟩ := hr; exact ⟨rfl, h⟩
  · exact hc.mono fun v mo hr => by obtain ⟨rfl, rfl⟩ := hr; exact h
theorem CallA_enter {f : FuncId} {fn : Func} {c : Code} {args : List V} {m : Mem} {R : V → Option Mem → Prop} {n : Nat} {rs : Array ResultVar} (hf : P.funcs[f]? = some fn) (hb : fn.body = some c) (hN : fn.ntmps = n) (hr : fn.results = rs) (hg : isGo P f = true) (hn : args.length ≤ n)
    (h : WA P n c (argT 0 args) (lend m) (fun e t m' => (e = .normal ∨ e = .ret) ∧ match resV P t m' rs.toList with
      | some v => Fin m R v m'
      | none => False)) : CallA P f args m R := by
  subst hN; subst hr
  exact CallA_intro hf hb hg hn h
/-- a quiet contract: one flat result -/
theorem Gives_enter {f : FuncId} {fn : Func} {c : Code} {args : List V} {m : Mem} {n : Nat} {rs : Array ResultVar} {v : V} (hf : P.funcs[f]? = some fn) (hb : fn.body = some c) (hN : fn.ntmps = n) (hr : fn.results = rs) (hg : isGo P f = true) (hn : args.length ≤ n) (hv : v.flat = true)
    (h : ∀ Q : Exit → List (Nat × V) → Mem → Prop, (∀ e t m', (e = .normal ∨ e = .ret) → resV P t m' rs.toList = some v → Q e t m') → WA P n c (argT 0 args) (lend m) Q) : Gives P f args m v := by
  refine CallA_enter hf hb hN hr hg hn (h _ ?_)
  intro e t m' he hr
  refine ⟨he, ?_⟩
  rw [hr]
  exact .inl ⟨hv, rfl, rfl⟩

def zipT : List Nat → List V → List (Nat × V)
  | k :: ks, v :: vs => (k, v) :: zipT ks vs
  | _, _ => []
theorem zipT_get : ∀ (ks : List Nat) (vs : List V) (t : List (Nat × V)), ks.map (tget t) = vs → ∀ i, tget (zipT ks vs) i = tget t i ∨ tget (zipT ks vs) i = .any
  | [], _, _, _, _ => .inr rfl
  | k :: ks, [], _, _, _ => .inr rfl
  | k :: ks, v :: vs, t, h, i => by
    simp only [List.map_cons, List.cons.injEq] at h
    show tget ((k, v) :: zipT ks vs) i = _ ∨ tget ((k, v) :: zipT ks vs) i = _
    by_cases e : k = i
    · subst e; exact .inl (by simp [tget, h.1])
    · have : tget ((k, v) :: zipT ks vs) i = tget (zipT ks vs) i := by simp [tget, e]
      rw [this]; exact zipT_get ks vs t h.2 i
/-- a loop whose state is told by 's' -/
theorem WA_while {c : Code} {Q : Exit → List (Nat × V) → Mem → Prop} {σ : Type} (ks : List Nat) (st : σ → List V) (me : σ → Mem) (inv : σ → Prop) (μ : σ → Nat) (s0 : σ) (h0 : inv s0) (ht : ks.map (tget t) = st s0) (hm : m = me s0)
    (hr : ∀ s, inv s → ∀ K : List (Nat × V) → Mem → Prop, (∀ s' t' m', ks.map (tget t') = st s' → m' = me s' → inv s' → μ s' < μ s → K t' m') → WA P N c (zipT ks (st s)) (me s) (qThen K Q)) : WA P N (.loop c) t m Q := by
  refine WA_loop (fun n t m => ∃ s, inv s ∧ n = μ s ∧ ks.map (tget t) = st s ∧ m = me s) (n := μ s0) ⟨s0, h0, rfl, ht, hm⟩ ?_
  rintro n t m ⟨s, h1, rfl, h2, rfl⟩
  refine WA_forget _ (zipT_get ks _ t h2) (hr s h1 _ ?_)
  intro s' t' m' e1 e2 e3 e4
  exact ⟨μ s', e4, s', e3, rfl, e1, e2⟩

/-! code, in a row -/
variable {Q Q' : Exit → List (Nat × V) → Mem → Prop} {K : List (Nat × V) → Mem → Prop} {x y z : Code}
theorem WA_seq' (h : WA P N x t m (qThen (fun t m => WA P N y t m Q) Q)) : WA P N (.seq x y) t m Q :=
  WA_seq_k fun K hK => WA_mono h fun e t m h => by
    cases e with
    | normal => exact hK _ _ h
    | _ => exact h
theorem qT_WA (h : WA P N y t m Q) : qThen (fun t m => WA P N y t m Q) Q' .normal t m := h
theorem qT_normal (h : K t m) : qThen K Q .normal t m := h
theorem qT_ret (h : Q .ret t m) : qThen K Q .ret t m := h
theorem qT_exit {id : Nat} (h : Q (.exit id) t m) : qThen K Q (.exit id) t m := h
theorem qB_exit {id : Nat} (h : Q .normal t m) : qBlock id Q (.exit id) t m := by simpa [qBlock] using h
theorem qB_other {id id' : Nat} (hne : (id' == id) = false) (h : Q (.exit id') t m) : qBlock id Q (.exit id') t m := by
  have : ¬ id' = id := by simpa using hne
  simpa [qBlock, this] using h
theorem qB_normal {id : Nat} (h : Q .normal t m) : qBlock id Q .normal t m := h
theorem qB_ret {id : Nat} (h : Q .ret t m) : qBlock id Q .ret t m := h
end
end Go.Proofs.Yteogokmbedmkjaa
