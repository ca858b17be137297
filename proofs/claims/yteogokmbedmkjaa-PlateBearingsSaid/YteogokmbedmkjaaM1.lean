import Derived.RowKit
import Derived.Below
import Derived.Lib.Hide
import Derived.BigQuiet
/- plain lemmas on whole numbers, and words for the memory of a call -/
namespace Go.Proofs.Yteogokmbedmkjaa
open Go.RowKit
def gcdI (a b : Int) : Int := (Int.gcd a b : Int)
theorem gcd_tmod (a b : Int) : Int.gcd b (a.tmod b) = Int.gcd a b := by
  rw [Int.gcd_comm a b]
  apply Nat.dvd_antisymm
  · apply Int.dvd_gcd
    · exact Int.gcd_dvd_left ..
    · have h := Int.tmod_add_mul_tdiv a b
      conv => rhs; rw [← h]
      exact Int.dvd_add (Int.gcd_dvd_right ..) (Int.dvd_trans (Int.gcd_dvd_left ..) (Int.dvd_mul_right _ _))
  · apply Int.dvd_gcd
    · exact Int.gcd_dvd_left ..
    · have h := Int.tmod_add_mul_tdiv a b
      have h2 : a.tmod b = a - b * a.tdiv b := by omega
      rw [h2]
      exact Int.dvd_sub (Int.gcd_dvd_right ..) (Int.dvd_trans (Int.gcd_dvd_left ..) (Int.dvd_mul_right _ _))
theorem tmod_bd (a b : Int) (ha : -9223372036854775807 ≤ a ∧ a ≤ 9223372036854775807) (hb : b ≠ 0) :
    (-9223372036854775807 ≤ a.tmod b ∧ a.tmod b ≤ 9223372036854775807) ∧ (a.tmod b).natAbs < b.natAbs := by
  have h1 := Int.natAbs_tmod a b
  have h2 : a.natAbs % b.natAbs < b.natAbs := Nat.mod_lt _ (by omega)
  have h3 : a.natAbs % b.natAbs ≤ a.natAbs := Nat.mod_le _ _
  omega
theorem fl_neg {n d : Int} (hd : 0 < d) (h : n.tmod d < 0) : n.tdiv d - 1 = n / d := by
  have h1 := Int.tmod_add_mul_tdiv n d
  have h2 := Int.natAbs_tmod n d
  have h3 : n.natAbs % d.natAbs < d.natAbs := Nat.mod_lt _ (by omega)
  have h4 : n / d = n.tdiv d - 1 := by
    apply Int.le_antisymm
    · apply Int.le_sub_one_of_lt
      apply Int.ediv_lt_of_lt_mul hd
      rw [Int.mul_comm]; omega
    · apply Int.le_ediv_of_mul_le hd
      rw [Int.sub_mul, Int.mul_comm]; omega
  exact h4.symm
theorem fl_pos {n d : Int} (hd : 0 < d) (h : 0 ≤ n.tmod d) : n.tdiv d = n / d := by
  have h1 := Int.tmod_add_mul_tdiv n d
  have h2 := Int.natAbs_tmod n d
  have h3 : n.natAbs % d.natAbs < d.natAbs := Nat.mod_lt _ (by omega)
  have h4 : n / d = n.tdiv d := by
    apply Int.le_antisymm
    · apply Int.le_of_lt_add_one
      apply Int.ediv_lt_of_lt_mul hd
      rw [Int.add_mul, Int.mul_comm]; omega
    · apply Int.le_ediv_of_mul_le hd
      rw [Int.mul_comm]; omega
  exact h4.symm
theorem tdiv_bd (n d : Int) : -(n.natAbs : Int) ≤ n.tdiv d ∧ n.tdiv d ≤ n.natAbs := by
  have h1 : (n.tdiv d).natAbs = n.natAbs / d.natAbs := Int.natAbs_tdiv n d
  have h2 : n.natAbs / d.natAbs ≤ n.natAbs := Nat.div_le_self _ _
  omega
theorem gcdI_pos {a b : Int} (h : a ≠ 0 ∨ b ≠ 0) : 0 < gcdI a b := by
  unfold gcdI
  have : 0 < Int.gcd a b := Int.gcd_pos_iff.2 h
  omega
theorem gcdI_le {a b : Int} (h : 0 < b) : gcdI a b ≤ b := by
  unfold gcdI
  exact Int.le_of_dvd h (Int.gcd_dvd_right ..)
theorem wrap64_id {x : Int} (h1 : -9223372036854775808 ≤ x) (h2 : x ≤ 9223372036854775807) : wrap64 x = x := by unfold wrap64; omega
/-- in lowest terms -/
def qn (a b : Int) : Int := a.tdiv (gcdI a b)
def qd (a b : Int) : Int := b.tdiv (gcdI a b)
theorem qd_eq {a b : Int} (h : 0 < b) : qd a b = b / gcdI a b := by
  unfold qd; rw [Int.tdiv_eq_ediv_of_nonneg (by omega)]
theorem qd_pos {a b : Int} (h : 0 < b) : 0 < qd a b := by
  unfold qd
  have h1 := gcdI_pos (a := a) (Or.inr (show b ≠ 0 by omega))
  have h2 := gcdI_le (a := a) h
  rw [Int.tdiv_eq_ediv_of_nonneg (by omega)]
  have := Int.le_ediv_of_mul_le (a := 1) h1 (b := b) (by omega)
  omega
theorem qn_mul {a b : Int} : qn a b * gcdI a b = a := Int.tdiv_mul_cancel (by unfold gcdI; exact Int.gcd_dvd_left ..)
theorem qd_mul {a b : Int} : qd a b * gcdI a b = b := Int.tdiv_mul_cancel (by unfold gcdI; exact Int.gcd_dvd_right ..)
theorem qn_abs {a b : Int} : (qn a b).natAbs ≤ a.natAbs := by
  unfold qn
  have := tdiv_bd a (gcdI a b)
  omega
theorem qd_le {a b : Int} (h : 0 < b) : qd a b ≤ b := by
  unfold qd
  have := tdiv_bd b (gcdI a b)
  omega
def inB (n lo hi : Int) : Bool := decide (lo ≤ n ∧ n ≤ hi)
def within3 (a b c m : Int) : Bool := inB a (-m) m && (inB b (-m) m && inB c (-m) m)
/-- a world with new blocks: what was there reads as it did -/
theorem bcell {W w1 : World} (hb : Below W.heap.size W w1) : (∀ b o, b < W.heap.size → w1.cell? ⟨b, o, none⟩ = W.cell? ⟨b, o, none⟩) ∧ (∀ b o, b < W.heap.size → w1.frozen? ⟨b, o, none⟩ = W.frozen? ⟨b, o, none⟩) :=
  ⟨fun b o h => hb.cell (p := ⟨b, o, none⟩) h, fun b o h => hb.frozen (p := ⟨b, o, none⟩) h⟩
/-- a region that draws its order, whose operations read, or call what makes new blocks alone -/
theorem wp_region_below {P : Program} {id : Nat} {Q : Exit → Act → World → Prop} {a : Act} {w : World} {l : List Oper} (hm : P.follows .mixedOrders = true) (hB : Region.lexB .any l.toArray = true)
    (h : wpQuiet P l.toArray (fun w' => Below w.heap.size w w') (fun a' => ∀ w', Below w.heap.size w w' → Q .normal a' w') l a) : (Code.region id l.toArray true).wp P Q a w :=
  wp_region_quiet (C := fun w' => Below w.heap.size w w') hm hB (Below.drew (Below.refl _ _)) (by simpa using h)
theorem quiet_intro {P : Program} {o : Oper} {a : Act} {C : World → Prop} {K : Act → Prop} (v : Value) (h : ∀ w, C w → o.quietAt P a C w v) (hk : K (a.put o.dst v)) : o.quiet P a C K := ⟨v, h, hk⟩
theorem calls_in {P : Program} {f : FuncId} {args : Array Value} {B : Nat} {w w1 : World} {v : Value} (hw : Below B w w1) (hB : B ≤ w1.heap.size)
    (h : Calls P f args w1 fun e w' => e = .returned v ∧ Below w1.heap.size w1 w') : Calls P f args w1 fun e w'' => e = .returned v ∧ Below B w w'' :=
  h.mono fun _ _ ⟨he, hb⟩ => ⟨he, hw.trans (hb.mono hB)⟩
theorem below_in {B : Nat} {w v v1 : World} (hb : Below v.heap.size v v1) (hB : B ≤ v.heap.size) (h : Below B w v) : Below B w v1 := h.trans (hb.mono hB)
theorem below_drewN {B : Nat} {a w : World} (h : Below B a w) (n : Nat) : Below B a (w.drewN n) := ⟨h.os, h.tape, h.output, h.size, h.block⟩
theorem ret_int {k : IntKind} {a b : Int} (h : a = b) : Ending.returned (.int k a) = .returned (.int k b) := by rw [h]
theorem ret_bool {a b : Bool} (h : a = b) : Ending.returned (.bool a) = .returned (.bool b) := by rw [h]
end Go.Proofs.Yteogokmbedmkjaa
