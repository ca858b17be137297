import Derived.WalkKit
import Derived.Below
import Derived.Deep.Quiet
import Derived.Deep.AppendLies
import Derived.Maps.AppendAt
import Derived.Laws.MakeOwn
import Derived.Laws.CopyRow
/- A plain reading of a call's memory: values as trees (a slice that came in, or goes out, is the list of its cells), and the blocks that the call itself writes. -/
namespace Go.Proofs.Yteogokmbedmkjaa
open Go.RowKit

inductive V where
  | any
  | int (k : IntKind) (n : Int)
  | bool (b : Bool)
  | str (s : List UInt8)
  | nilptr
  | nilsl
  | nilmap
  | nilfn
  | nilif
  | agg (cs : List V)
  | tup (vs : List V)
  | lst (es : List (List V))
  | bp (cs : List V) (o : Nat)
  | ptr (b i o : Nat)
  | sl (b n : Nat)
  | mp (b : Nat)
  | clo (fn : Fn) (first caps : List V)

/-- where an abstract block lies: its real block, how many elements fit, how many cells an element has -/
structure Re where
  blk : Nat
  cap : Nat
  sz : Nat

/-- the call's own; a caller's own (it is read alone, and no slice is cut of it); read alone from now on -/
inductive Sta where
  | own
  | lent
  | ro
  deriving DecidableEq

inductive Blk where
  | cells (st : Sta) (ty : TypeId) (sz : Nat) (es : List (List V))
  | map (kt et : TypeId) (es : List (V × V))
  | dead

/-- may the call write it -/
def Blk.own : Blk → Bool
  | .cells .own _ _ _ => true
  | .map _ _ _ => true
  | _ => false
/-- may anybody write it, now or later -/
def Blk.bad : Blk → Bool
  | .cells .ro _ _ _ => false
  | .dead => false
  | _ => true
theorem Blk.bad_of_own {b : Blk} (h : b.own = true) : b.bad = true := by
  cases b with
  | cells st ty sz es => cases st <;> first | rfl | simp [Blk.own] at h
  | map kt et es => rfl
  | dead => simp [Blk.own] at h
theorem Blk.live_of_bad {b : Blk} (h : b.bad = true) : b ≠ .dead := by
  rintro rfl; simp [Blk.bad] at h

abbrev Mem := List Blk

/-- a value that is one cell -/
def V.one : V → Bool
  | .agg _ | .tup _ | .any => false
  | _ => true

inductive RelV (w : World) (ρ : List Re) (B : Nat → Prop) : V → Value → Prop where
  | any (x : Value) : RelV w ρ B .any x
  | int (k : IntKind) (n : Int) : RelV w ρ B (.int k n) (.int k n)
  | bool (b : Bool) : RelV w ρ B (.bool b) (.bool b)
  | str (s : List UInt8) (b : ByteArray) (h : b.data.toList = s) : RelV w ρ B (.str s) (.string b)
  | nilptr : RelV w ρ B .nilptr (.pointer none)
  | nilsl : RelV w ρ B .nilsl (.slice none 0 0)
  | lnil (a : Option Addr) (c : Nat) (hc : c ≤ maxLen) (ha : a = none → c = 0) : RelV w ρ B (.lst []) (.slice a 0 c)
  | nilmap : RelV w ρ B .nilmap (.map none)
  | nilfn : RelV w ρ B .nilfn .nilFunc
  | nilif : RelV w ρ B .nilif .nilIface
  | agg (cs : List V) (xs : Array Value) (hl : cs.length = xs.size) (h : ∀ (i : Nat) c x, cs[i]? = some c → xs[i]? = some x → RelV w ρ B c x) : RelV w ρ B (.agg cs) (.agg xs)
  | tup (cs : List V) (xs : Array Value) (hl : cs.length = xs.size) (h : ∀ (i : Nat) c x, cs[i]? = some c → xs[i]? = some x → RelV w ρ B c x) : RelV w ρ B (.tup cs) (.tuple xs)
  | lst (es : List (List V)) (b off c s : Nat) (Y : Nat → Nat → Value) (hb : b < w.heap.size) (hB : ¬ B b) (hc : es.length ≤ c) (hm : c ≤ maxLen) (hs : ∀ e ∈ es, e.length = s)
      (hY : ∀ (i j : Nat) e v, es[i]? = some e → e[j]? = some v → w.cell? ⟨b, off + i * s + j, none⟩ = some (Y i j))
      (hV : ∀ (i j : Nat) e v, es[i]? = some e → e[j]? = some v → RelV w ρ B v (Y i j)) (hO : ∀ (i j : Nat) e v, es[i]? = some e → e[j]? = some v → v.one = true) : RelV w ρ B (.lst es) (.slice (some ⟨b, off, none⟩) es.length c)
  | bp (cs : List V) (o b off : Nat) (Y : Nat → Value) (hb : b < w.heap.size) (hB : ¬ B b)
      (hY : ∀ (j : Nat) v, cs[j]? = some v → w.cell? ⟨b, off + j, none⟩ = some (Y j))
      (hV : ∀ (j : Nat) v, cs[j]? = some v → RelV w ρ B v (Y j)) (hO : ∀ (j : Nat) v, cs[j]? = some v → v.one = true) : RelV w ρ B (.bp cs o) (.pointer (some ⟨b, off + o, none⟩))
  | ptr (b i o : Nat) (r : Re) (hr : ρ[b]? = some r) : RelV w ρ B (.ptr b i o) (.pointer (some ⟨r.blk, i * r.sz + o, none⟩))
  | sl (b n : Nat) (r : Re) (hr : ρ[b]? = some r) (hn : n ≤ r.cap) (hm : r.cap ≤ maxLen) : RelV w ρ B (.sl b n) (.slice (some ⟨r.blk, 0, none⟩) n r.cap)
  | mp (b : Nat) (r : Re) (hr : ρ[b]? = some r) : RelV w ρ B (.mp b) (.map (some r.blk))
  | clo (fn : Fn) (f1 c1 : List V) (f2 c2 : Array Value) (hf : f1.length = f2.size) (hc : c1.length = c2.size)
      (h1 : ∀ (i : Nat) c x, f1[i]? = some c → f2[i]? = some x → RelV w ρ B c x) (h2 : ∀ (i : Nat) c x, c1[i]? = some c → c2[i]? = some x → RelV w ρ B c x) : RelV w ρ B (.clo fn f1 c1) (.func fn f2 c2)

/-- the real blocks of the abstract ones that are such -/
def has (p : Blk → Bool) (m : Mem) (ρ : List Re) (k : Nat) : Prop := ∃ (b : Nat) (blk : Blk) (r : Re), m[b]? = some blk ∧ p blk = true ∧ ρ[b]? = some r ∧ r.blk = k
/-- .. that the call may write -/
abbrev owned (m : Mem) (ρ : List Re) (k : Nat) : Prop := has Blk.own m ρ k
/-- .. that somebody may write -/
abbrev bad (m : Mem) (ρ : List Re) (k : Nat) : Prop := has Blk.bad m ρ k
theorem bad_of_owned {m : Mem} {ρ : List Re} {k : Nat} (h : owned m ρ k) : bad m ρ k := by
  obtain ⟨b, blk, r, h1, h2, h3, h4⟩ := h
  exact ⟨b, blk, r, h1, Blk.bad_of_own h2, h3, h4⟩

/-- what is not owned stays -/
structure Keep (B : Nat → Prop) (w w' : World) : Prop where
  os : w'.os = w.os
  tape : w'.tape = w.tape
  output : w'.output = w.output
  size : w.heap.size ≤ w'.heap.size
  block : ∀ k, k < w.heap.size → ¬ B k → w'.heap[k]? = w.heap[k]?

theorem Keep.refl (B : Nat → Prop) (w : World) : Keep B w w := ⟨rfl, rfl, rfl, Nat.le_refl _, fun _ _ _ => rfl⟩
theorem Keep.trans {B B' : Nat → Prop} {a b c : World} (h : Keep B a b) (k : Keep B' b c) (hB : ∀ r, r < a.heap.size → B' r → B r) : Keep B a c :=
  ⟨k.os.trans h.os, k.tape.trans h.tape, k.output.trans h.output, Nat.le_trans h.size k.size, fun i hi hn => (k.block i (Nat.lt_of_lt_of_le hi h.size) (fun hb => hn (hB i hi hb))).trans (h.block i hi hn)⟩
theorem Keep.of_below {B : Nat → Prop} {w w' : World} (h : Below w.heap.size w w') : Keep B w w' := ⟨h.os, h.tape, h.output, h.size, fun k hk _ => h.block k hk⟩
theorem Keep.to_below {w w' : World} (h : Keep (fun _ => False) w w') : Below w.heap.size w w' := ⟨h.os, h.tape, h.output, h.size, fun k hk => h.block k hk (fun h => h)⟩

theorem RelV.mono {w w' : World} {ρ ρ' : List Re} {B B' : Nat → Prop} (hs : w.heap.size ≤ w'.heap.size) (hk : ∀ k, k < w.heap.size → ¬ B k → w'.heap[k]? = w.heap[k]?)
    (hB : ∀ k, k < w.heap.size → B' k → B k) (hρ : ∀ (b : Nat) r, ρ[b]? = some r → ρ'[b]? = some r) {v : V} {x : Value} (h : RelV w ρ B v x) : RelV w' ρ' B' v x := by
  induction h with
  | any x => exact .any x
  | int k n => exact .int k n
  | bool b => exact .bool b
  | str s b h => exact .str s b h
  | nilptr => exact .nilptr
  | nilsl => exact .nilsl
  | lnil a c hc ha => exact .lnil a c hc ha
  | nilmap => exact .nilmap
  | nilfn => exact .nilfn
  | nilif => exact .nilif
  | agg cs xs hl _ ih => exact .agg cs xs hl ih
  | tup cs xs hl _ ih => exact .tup cs xs hl ih
  | lst es b off c s Y hb hB' hc hm hs' hY _ hO ih =>
    exact .lst es b off c s Y (Nat.lt_of_lt_of_le hb hs) (fun h => hB' (hB b hb h)) hc hm hs' (fun i j e v h1 h2 => (World.cell?_of_block (w := w) (hk b hb hB')).trans (hY i j e v h1 h2)) ih hO
  | bp cs o b off Y hb hB' hY _ hO ih =>
    exact .bp cs o b off Y (Nat.lt_of_lt_of_le hb hs) (fun h => hB' (hB b hb h)) (fun j v h1 => (World.cell?_of_block (w := w) (hk b hb hB')).trans (hY j v h1)) ih hO
  | ptr b i o r hr => exact .ptr b i o r (hρ b r hr)
  | sl b n r hr hn hm => exact .sl b n r (hρ b r hr) hn hm
  | mp b r hr => exact .mp b r (hρ b r hr)
  | clo fn f1 c1 f2 c2 hf hc _ _ ih1 ih2 => exact .clo fn f1 c1 f2 c2 hf hc ih1 ih2

theorem RelV.one {w : World} {ρ : List Re} {B : Nat → Prop} {v : V} {x : Value} (h : RelV w ρ B v x) (hv : v.one = true) : x.oneCell' = true ∧ x.cells = #[x] := by
  cases h <;> first | exact ⟨rfl, rfl⟩ | simp [V.one] at hv

/-- the call's own memory, as it lies in the world -/
structure RelM (w : World) (ρ : List Re) (m : Mem) : Prop where
  len : ρ.length = m.length
  cells : ∀ (b : Nat) st ty sz es, m[b]? = some (.cells st ty sz es) → ∃ r cur, ρ[b]? = some r ∧ r.sz = sz ∧ 0 < sz ∧ w.heap[r.blk]? = some (.cells cur ty (0, 0)) ∧ cur.size = r.cap * sz ∧ es.length ≤ r.cap ∧ r.cap ≤ maxLen ∧
    (∀ e ∈ es, e.length = sz) ∧ (∀ (i j : Nat) e v, es[i]? = some e → e[j]? = some v → v.one = true ∧ ∃ y, cur[i * sz + j]? = some y ∧ RelV w ρ (bad m ρ) v y)
  inj : ∀ (b b' : Nat) (blk blk' : Blk) (r r' : Re), m[b]? = some blk → blk ≠ Blk.dead → m[b']? = some blk' → blk'.bad = true → ρ[b]? = some r → ρ[b']? = some r' → r.blk = r'.blk → b = b'
  maps : ∀ (b : Nat) kt et es, m[b]? = some (.map kt et es) → False
end Go.Proofs.Yteogokmbedmkjaa
