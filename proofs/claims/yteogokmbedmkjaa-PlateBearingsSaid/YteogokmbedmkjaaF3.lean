import Derived.Test.YteogokmbedmkjaaF2
/- what an operation gives, in the plain reading -/
namespace Go.Proofs.Yteogokmbedmkjaa
open Go.RowKit

def tget : List (Nat × V) → Nat → V
  | [], _ => .any
  | (i, v) :: r, j => if i = j then v else tget r j
def tput (t : List (Nat × V)) : Option Nat → V → List (Nat × V)
  | some d, v => (d, v) :: t
  | none, _ => t
def ofC : Value → V
  | .int k n => .int k n
  | .bool b => .bool b
  | .string s => .str s.data.toList
  | .pointer none => .nilptr
  | .slice none 0 0 => .nilsl
  | .map none => .nilmap
  | .nilFunc => .nilfn
  | .nilIface => .nilif
  | _ => .any
def evO (t : List (Nat × V)) : Operand → V
  | .tmp i => tget t i
  | .const c => ofC c
  | .global _ => .any
  | .func f => .clo (.func f) [] []

/-! what the table of types tells -/
def szT (P : Program) (T : TypeId) : Nat := P.cellsOf T
def agT (P : Program) (T : TypeId) : Option Bool := match P.underlying T with
  | some (.struct _) => some true
  | some (.array _ _) => some true
  | some _ => some false
  | none => none
/-- the element type of a slice type -/
def slT (P : Program) (T : TypeId) : Option TypeId := match P.underlying T with
  | some (.slice e) => some e
  | _ => none
/-- length and element type of an array type -/
def arT (P : Program) (T : TypeId) : Option (Nat × TypeId) := match P.underlying T with
  | some (.array n e) => some (n, e)
  | _ => none
/-- offset and size of a struct's field (none: of no cell) -/
def fdT (P : Program) (T : TypeId) (j : Nat) : Option (Nat × TypeId) := match P.underlying T with
  | some (.struct fs) => (fs[j]?).bind fun f => if P.cellsOf f.type = 0 then none else some (f.offset, f.type)
  | _ => none
/-- is it a struct type, all of whose fields' types are known -/
def stT (P : Program) (T : TypeId) : Bool := match P.underlying T with
  | some (.struct fs) => fs.toList.all fun f => (P.info? f.type).isSome
  | _ => false
def intT (P : Program) (T : TypeId) : Option IntKind := match P.underlying T with
  | some (.int k) => some k
  | _ => none
def oneC (l : List Value) : Option (List V) := let vs := l.map ofC; if vs.all V.one then some vs else none
/-- the zero value's cells -/
def zeT (P : Program) (T : TypeId) : Option (List V) := ((P.info? T).bind fun i => i.zero.bind fun z => oneC z.cells.toList)
/-- may a slice of this element type grow: elements of one cell or more, and not too large -/
def smT (P : Program) (T : TypeId) : Bool := match P.info? T with
  | some i => (match i.zero with | some z => i.bytes ≤ 100000000 && 0 < i.size && z.cells.size == i.size && z.cells.all (fun c => c.oneCell') | none => false)
  | none => false

def cellsV : V → Option (List V)
  | .agg cs => if cs.all V.one then some cs else none
  | v => if v.one then some [v] else none
def partV (P : Program) (T : TypeId) (cs : List V) (o : Nat) : Option V :=
  match agT P T with
  | some true => if o + szT P T ≤ cs.length then some (.agg ((cs.drop o).take (szT P T))) else none
  | some false => cs[o]?
  | none => none

abbrev Res := Option (Prop × V × Mem)
def okR (m : Mem) (v : V) : Res := some (True, v, m)
def okO (m : Mem) : Option V → Res
  | some v => some (True, v, m)
  | none => none

def evBin (op : BinOp) (x y : V) : Option (Prop × V) :=
  match op, x, y with
  | .add, .int k a, .int k' b => if k = k' then some (True, .int k (k.wrap (a + b))) else none
  | .sub, .int k a, .int k' b => if k = k' then some (True, .int k (k.wrap (a - b))) else none
  | .mul, .int k a, .int k' b => if k = k' then some (True, .int k (k.wrap (a * b))) else none
  | .quo, .int k a, .int k' b => if k = k' then some (b ≠ 0, .int k (k.wrap (a.tdiv b))) else none
  | .rem, .int k a, .int k' b => if k = k' then some (b ≠ 0, .int k (a.tmod b)) else none
  | .eql, .int k a, .int k' b => if k = k' then some (True, .bool (decide (a = b))) else none
  | .neq, .int k a, .int k' b => if k = k' then some (True, .bool (!decide (a = b))) else none
  | .lss, .int k a, .int k' b => if k = k' then some (True, .bool (decide (a < b))) else none
  | .leq, .int k a, .int k' b => if k = k' then some (True, .bool (decide (a ≤ b))) else none
  | .gtr, .int k a, .int k' b => if k = k' then some (True, .bool (decide (b < a))) else none
  | .geq, .int k a, .int k' b => if k = k' then some (True, .bool (decide (b ≤ a))) else none
  | .shr, .int k a, .int _ b => some (0 ≤ b, .int k (a.fdiv (2 ^ (min b.toNat k.bits))))
  | .shl, .int k a, .int _ b => some (0 ≤ b, .int k (k.wrap (a * 2 ^ (min b.toNat k.bits))))
  | .add, .str a, .str b => some (a.length + b.length ≤ 1000000000, .str (a ++ b))
  | .eql, .str a, .str b => some (True, .bool (decide (a = b)))
  | .neq, .str a, .str b => some (True, .bool (!decide (a = b)))
  | _, _, _ => none

def evUn (op : UnOp) (x : V) : Option V :=
  match op, x with
  | .not, .bool b => some (.bool (!b))
  | .neg, .int k a => some (.int k (k.wrap (-a)))
  | _, _ => none

def setAt (cs : List V) (o : Nat) (xs : List V) : List V := cs.take o ++ xs ++ cs.drop (o + xs.length)

/-- an array's or a struct's parts laid into its zero value -/
def fillV (place : Nat → Option (Nat × Nat)) (cs : List V) : List (Nat × V) → Option (List V)
  | [] => some cs
  | (i, v) :: rest =>
    match place i, cellsV v with
    | some (off, size), some xs => if xs.length = size ∧ off + size ≤ cs.length then fillV place (setAt cs off xs) rest else none
    | _, _ => none

/-- the elements that a slice value reads as -/
def elsV (m : Mem) : V → Option (List (List V))
  | .nilsl => some []
  | .lst es => some es
  | .sl b n => match m[b]? with
    | some (.cells _ _ _ es) => if n ≤ es.length then some (es.take n) else none
    | _ => none
  | _ => none

def evOp (P : Program) (t : List (Nat × V)) (m : Mem) : Op → Res
  | .move x => okR m (evO t x)
  | .assign x => okR m (evO t x)
  | .pick c a b => match evO t c with
    | .bool c => okR m (if c = true then evO t a else evO t b)
    | _ => none
  | .alloc T => match zeT P T with
    | some zs => if 0 < zs.length ∧ zs.length ≤ 1000000 then some (True, .ptr m.length 0 0, m ++ [.cells .own T zs.length [zs]]) else none
    | none => none
  | .box T x => match cellsV (evO t x) with
    | some xs => if 0 < xs.length ∧ xs.length ≤ 1000000 then some (True, .ptr m.length 0 0, m ++ [.cells .own T xs.length [xs]]) else none
    | none => none
  | .load T x => match evO t x with
    | .bp cs o => okO m (partV P T cs o)
    | .ptr b i o => match m[b]? with
      | some (.cells _ _ _ es) => match es[i]? with
        | some e => okO m (partV P T e o)
        | none => none
      | _ => none
    | _ => none
  | .store T x y => match evO t x, cellsV (evO t y) with
    | .ptr b i o, some xs => match m[b]? with
      | some (.cells .own ty sz es) => match es[i]? with
        | some e => if xs.length = szT P T ∧ 0 < xs.length ∧ o + xs.length ≤ sz then some (True, .any, m.set b (.cells .own ty sz (es.set i (setAt e o xs)))) else none
        | none => none
      | _ => none
    | _, _ => none
  | .binOp op _ x y _ => match evBin op (evO t x) (evO t y) with
    | some (p, v) => some (p, v, m)
    | none => none
  | .unOp op _ x => okO m (evUn op (evO t x))
  | .extract x i => match evO t x with
    | .tup vs => okO m (vs[i]?)
    | _ => none
  | .fieldAddr T x j => match fdT P T j, evO t x with
    | some (off, _), .bp cs o => okR m (.bp cs (o + off))
    | some (off, _), .ptr b i o => okR m (.ptr b i (o + off))
    | _, _ => none
  | .field T x j => match fdT P T j, evO t x with
    | some (off, ft), .agg cs => okO m (partV P ft cs off)
    | _, _ => none
  | .indexAddr T x ix => match evO t ix with
    | .int _ n => match slT P T, evO t x with
      | some E, .lst es => match es[n.toNat]? with
        | some e => if e.length = szT P E ∧ 0 < szT P E then some (0 ≤ n, .bp e 0, m) else none
        | none => none
      | some E, .sl b k => match m[b]? with
        | some (.cells _ _ sz _) => if sz = szT P E ∧ 0 < szT P E then some (0 ≤ n ∧ n < (k : Int), .ptr b n.toNat 0, m) else none
        | _ => none
      | _, .bp cs o => match arT P T with
        | some (k, E) => if 0 < szT P E then some (0 ≤ n ∧ n < (k : Int), .bp cs (o + n.toNat * szT P E), m) else none
        | none => none
      | _, .ptr b i o => match arT P T with
        | some (k, E) => if 0 < szT P E then some (0 ≤ n ∧ n < (k : Int), .ptr b i (o + n.toNat * szT P E), m) else none
        | none => none
      | _, _ => none
    | _ => none
  | .index T x ix => match evO t ix, arT P T, evO t x with
    | .int _ n, some (k, E), .agg cs => match partV P E cs (n.toNat * szT P E) with
      | some v => if 0 < szT P E then some (0 ≤ n ∧ n < (k : Int), v, m) else none
      | none => none
    | _, _, _ => none
  | .makeFunc fn f c => okR m (.clo fn (f.toList.map (evO t)) (c.toList.map (evO t)))
  | .build T parts => match zeT P T with
    | some zs => match arT P T with
      | some (_, E) => if 0 < szT P E then
          match fillV (fun i => some (i * szT P E, szT P E)) zs (parts.toList.map fun (i, x) => (i, evO t x)) with
          | some cs => okR m (.agg cs)
          | none => none
        else none
      | none => if stT P T = true then
          match fillV (fun i => (fdT P T i).map fun (o, ft) => (o, szT P ft)) zs (parts.toList.map fun (i, x) => (i, evO t x)) with
          | some cs => okR m (.agg cs)
          | none => none
        else none
    | none => none
  | _ => none
end Go.Proofs.Yteogokmbedmkjaa
