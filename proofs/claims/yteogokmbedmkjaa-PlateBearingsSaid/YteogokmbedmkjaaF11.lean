import Derived.Test.YteogokmbedmkjaaFE
/- slices made and cut; the built-in functions; all operations together -/
namespace Go.Proofs.Yteogokmbedmkjaa
open Go.RowKit

def strT (P : Program) (T : TypeId) : Bool := match P.underlying T with
  | some .string => true
  | _ => false
def evMake (P : Program) (t : List (Nat × V)) (m : Mem) (T : TypeId) (l c : Operand) : Res :=
  match slT P T, evO t l, evO t c with
  | some E, .int _ n, .int _ n' => match zeT P E with
    | some zs => if smT P E = true then some (n' = n ∧ 0 ≤ n ∧ n ≤ 1000000, .sl m.length n.toNat, m ++ [.cells .own E (szT P E) (List.replicate n.toNat zs)]) else none
    | none => none
  | _, _, _ => none
def chunks (n s : Nat) (cs : List V) : List (List V) := (List.range n).map fun i => (cs.drop (i * s)).take s
def repL (n : Nat) (zs : List V) : List V := (List.replicate n zs).flatten
def evBuildSl (P : Program) (t : List (Nat × V)) (m : Mem) (T : TypeId) (n : Nat) (parts : Array (Nat × Operand)) : Res :=
  match slT P T with
  | some E => match zeT P E with
    | some zs => if smT P E = true ∧ n * szT P E ≤ 16777216 ∧ n ≤ 1000000 then
        match fillV (fun i => some (i * szT P E, szT P E)) (repL n zs) (parts.toList.map fun (i, x) => (i, evO t x)) with
        | some cs => some (True, .sl m.length n, m ++ [.cells .own E (szT P E) (chunks n (szT P E) cs)])
        | none => none
      else none
    | none => none
  | none => none
def evLen (P : Program) (T : TypeId) (x : V) : Option V :=
  match slT P T, x with
  | some _, .sl _ n => some (.int .i64 n)
  | some _, .lst es => some (.int .i64 es.length)
  | some _, .nilsl => some (.int .i64 0)
  | _, .str s => if strT P T = true then some (.int .i64 s.length) else none
  | _, _ => none
def evMax (x y : V) : Option V :=
  match x, y with
  | .int k a, .int _ b => some (.int k (if b > a then b else a))
  | _, _ => none
def evMin (x y : V) : Option V :=
  match x, y with
  | .int k a, .int _ b => some (.int k (if b < a then b else a))
  | _, _ => none
def bound (t : List (Nat × V)) (d : Nat) : Option Operand → Option (Int)
  | none => some d
  | some x => match evO t x with
    | .int _ n => some n
    | _ => none
def evSlice (P : Program) (t : List (Nat × V)) (m : Mem) (T : TypeId) (x : Operand) (lo hi : Option Operand) : Res :=
  match evO t x with
  | .lst es => match slT P T, bound t 0 lo, bound t es.length hi with
    | some E, some l, some h => if es.all (fun e => e.length == szT P E) = true ∧ 0 < szT P E then some (0 ≤ l ∧ l ≤ h ∧ h ≤ es.length, .lst ((es.drop l.toNat).take (h - l).toNat), m) else none
    | _, _, _ => none
  | .sl b n => match slT P T, bound t 0 lo, bound t n hi, m[b]? with
    | some E, some l, some h, some (.cells _ ty sz es) => if sz = szT P E then some (0 ≤ l ∧ l ≤ h ∧ h ≤ n ∧ n ≤ es.length, .lst ((es.drop l.toNat).take (h - l).toNat), m.set b (.cells .ro ty sz es)) else none
    | _, _, _, _ => none
  | .ptr b i o => match arT P T, lo, hi, m[b]? with
    | some (k, E), none, none, some (.cells _ ty sz es) => match es[i]? with
      | some e => if 0 < szT P E ∧ k ≤ maxLen ∧ o + k * szT P E ≤ sz then some (True, .lst (chunks k (szT P E) (e.drop o)), m.set b (.cells .ro ty sz es)) else none
      | none => none
    | _, _, _, _ => none
  | _ => none
def evStrSlice (P : Program) (t : List (Nat × V)) (T : TypeId) (x : Operand) (lo hi : Option Operand) : Option (Prop × V) :=
  match evO t x with
  | .str s => match strT P T, bound t 0 lo, bound t s.length hi with
    | true, some l, some h => some (0 ≤ l ∧ l ≤ h ∧ h ≤ s.length, .str ((s.drop l.toNat).take (h - l).toNat))
    | _, _, _ => none
  | _ => none

/-- every operation that is no call of a function -/
def evA (P : Program) (t : List (Nat × V)) (m : Mem) : Op → Res
  | .makeSlice T l c => evMake P t m T l c
  | .buildSlice T n parts => evBuildSl P t m T n parts
  | .slice T x lo hi none => match evStrSlice P t T x lo hi with
    | some (p, v) => some (p, v, m)
    | none => evSlice P t m T x lo hi
  | .convert S D x => match intT P S, intT P D, evO t x with
    | some _, some k, .int _ n => okR m (.int k (k.wrap n))
    | _, _, _ => none
  | .call ⟨.builtin .len, ⟨[x]⟩, ⟨[T]⟩⟩ => okO m (evLen P T (evO t x))
  | .call ⟨.builtin .max, ⟨[x, y]⟩, _⟩ => okO m (evMax (evO t x) (evO t y))
  | .call ⟨.builtin .min, ⟨[x, y]⟩, _⟩ => okO m (evMin (evO t x) (evO t y))
  | .call ⟨.builtin .append, ⟨[s, x]⟩, ⟨[T, T']⟩⟩ => if T' = T then evAppend P t m T s x else none
  | .binOp op T x y T' => match evEq P op T (evO t x) (evO t y) with
    | some v => okR m v
    | none => evOp P t m (.binOp op T x y T')
  | op => evOp P t m op
end Go.Proofs.Yteogokmbedmkjaa
