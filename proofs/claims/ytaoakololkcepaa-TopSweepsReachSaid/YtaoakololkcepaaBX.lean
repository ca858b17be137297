/- passes of the plan of steps are not empty; how the code turns its lists -/
import Derived.Test.YtaoakololkcepaaYQ
import Derived.Test.YtaoakololkcepaaB9
import Derived.Test.YtaoakololkcepaaB20
set_option linter.unusedSimpArgs false
set_option linter.unusedVariables false
namespace Go.Proofs.Ytaoakololkcepaa
open Go.RowKit
theorem pasK_at {ads : List AdR} {l : List Int} : ∀ {k : Nat}, 0 < pasK ads l k → ∃ j, j < k ∧ pasA (l.getD j 0) (ads.getD j adz).pass = pasK ads l k
  | 0, h => by simp [pasK] at h
  | k + 1, h => by
    simp only [pasK] at h ⊢
    split
    · exact ⟨k, by omega, rfl⟩
    · rename_i hn
      rw [if_neg hn] at h
      obtain ⟨j, h1, h2⟩ := pasK_at h
      exact ⟨j, by omega, h2⟩
theorem pasA_gt {s p : Int} {i : Nat} (hp : 1 ≤ p) (h : (i : Int) < pasA s p) : (i : Int) * p < (s.natAbs : Int) := by
  unfold pasA at h
  have h1 := Int.ediv_mul_le ((s.natAbs : Int) + p - 1) (show p ≠ 0 by omega)
  have h2 := Int.mul_le_mul_of_nonneg_right (show (i : Int) + 1 ≤ ((s.natAbs : Int) + p - 1) / p by omega) (show 0 ≤ p by omega)
  rw [Int.add_mul] at h2
  omega
theorem pas_ne {b : BnR} (hk : Bok b) {l : List Int} (hl : l.length = b.ads.length) {i : Nat} (hi : (i : Int) < pasK b.ads l b.ads.length) : ∃ p r, pasP b (lftN b l i) (ordB b.ads).length = p :: r := by
  obtain ⟨j, hj, h1⟩ := pasK_at (show 0 < pasK b.ads l b.ads.length by omega)
  have hp := (bnd_ok hk).pa j hj
  have h2 := pasA_gt (i := i) hp.1 (by rw [h1]; exact hi)
  have h3 : 0 ≤ (i : Int) * passI b j := Int.mul_nonneg (by omega) (by unfold passI; omega)
  have h4 : clp (passI b j) ((lftN b l i).getD j 0) ≠ 0 := by
    rw [lftN_get (by omega)]
    have e : passI b j = (b.ads.getD j adz).pass := rfl
    rw [← e] at h2 hp
    unfold clp
    omega
  have h5 : j ∈ pasQ b (lftN b l i) := List.mem_filter.2 ⟨ordB_mem hk hj, decide_eq_true h4⟩
  rw [pasP_eq]
  cases hq : pasQ b (lftN b l i) with
  | nil => rw [hq] at h5; cases h5
  | cons a r => exact ⟨_, _, rfl⟩
/-- what PlanOf answers -/
def mkE (b : BnR) (l : List Int) : Int := if bsErr b l ≠ 0 then bsErr b l else if 50 < pasK b.ads l b.ads.length then 8 else 0
def outSt : Nat → TV
  | 0 => .v .nilsl
  | k + 1 => .sl 2 (k + 1)
def outE (b : BnR) (l : List Int) : Nat → List TB
  | 0 => []
  | k + 1 => [.cells .own 75 1 ((plV (plO b l (k + 1))).map (List.map TV.v))]
def lefT (left : List Int) : TB := .cells .own 3 1 ((nsV left).map (List.map TV.v))
def pasSt (j : Nat) : List StR → TV
  | [] => .v .nilsl
  | _ :: r => .sl j (r.length + 1)
def pasE : List StR → List TB
  | [] => []
  | p :: r => [.cells .own 79 2 ((stsV (p :: r)).map (List.map TV.v))]
def gpE (b : BnR) (l : List Int) (i : Nat) (left : List Int) : List TB := benT b :: lefT left :: outE b l i
def gqE (b : BnR) (l : List Int) (i : Nat) (left : List Int) (p : List StR) : List TB := benT b :: lefT left :: (outE b l i ++ pasE p)
theorem gpE_ok {b : BnR} {l left : List Int} {i : Nat} : (gpE b l i left).all (TB.ok (gpE b l i left).length) = true := by
  unfold gpE benT lefT
  cases i with
  | zero => simp only [outE, List.all_cons, TB.ok, TV.okT, List.all_nil, Bool.and_true, Bool.and_self, tvs_ok, List.length_cons, List.length_nil]
  | succ i => simp only [outE, List.all_cons, TB.ok, TV.okT, List.all_nil, Bool.and_true, Bool.and_self, tvs_ok, List.length_cons, List.length_nil]
theorem gqE_ok {b : BnR} {l left : List Int} {i : Nat} {p : List StR} : (gqE b l i left p).all (TB.ok (gqE b l i left p).length) = true := by
  unfold gqE benT lefT
  cases i <;> cases p <;> simp only [outE, pasE, List.nil_append, List.cons_append, List.all_cons, TB.ok, TV.okT, List.all_nil, Bool.and_true, Bool.and_self, tvs_ok, List.length_cons, List.length_nil]
theorem gpS_ok {b : BnR} {l left : List Int} {i n : Nat} {l1 : List V} : (.ptr 0 0 0 :: .sl 1 n :: outSt i :: l1.map TV.v).all (TV.okT (gpE b l i left).length) = true := by
  have h : ∀ (ls : List V) n, (ls.map TV.v).all (TV.okT n) = true := fun ls n => by simp [TV.okT]
  cases i with
  | zero => simp only [outSt, gpE, outE, List.all_cons, TV.okT, h, Bool.and_true, List.length_cons, List.length_nil]; decide
  | succ i => simp only [outSt, gpE, outE, List.all_cons, TV.okT, h, Bool.and_true, List.length_cons, List.length_nil]; decide
def pasJ : Nat → Nat
  | 0 => 2
  | _ + 1 => 3
theorem gqS_ok {b : BnR} {l left : List Int} {i n : Nat} {p : List StR} {l1 : List V} : (.ptr 0 0 0 :: .sl 1 n :: outSt i :: pasSt (pasJ i) p :: l1.map TV.v).all (TV.okT (gqE b l i left p).length) = true := by
  have h : ∀ (ls : List V) n, (ls.map TV.v).all (TV.okT n) = true := fun ls n => by simp [TV.okT]
  cases i <;> cases p <;> simp only [outSt, pasSt, pasJ, gqE, outE, pasE, List.nil_append, List.cons_append, List.all_cons, TV.okT, h, Bool.and_true, List.length_cons, List.length_nil] <;> decide
theorem imn (a c : Int) : (if c < a then c else a) = min a c := by omega
theorem imx (a c : Int) : (if c > a then c else a) = max a c := by omega
end Go.Proofs.Ytaoakololkcepaa
