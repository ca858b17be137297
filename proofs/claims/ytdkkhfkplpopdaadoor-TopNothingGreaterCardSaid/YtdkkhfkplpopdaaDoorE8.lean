/- the law's start: the package variable reads as laid -/
import Derived.Test.YtdkkhfkplpopdaaDoorRows
import Derived.Test.YtdkkhfkplpopdaaDoorE1
import Derived.LaidMore
import Derived.OpenShut
import Derived.Stop.Joined
import Derived.ProofKit
set_option linter.unusedSimpArgs false
set_option linter.unusedVariables false
namespace Go.Proofs.YtdkkhfkplpopdaaDoor
open Go.RowKit Go.ChangeShapes Go.WideShapes Go.ChangeAt
theorem own : ownKnob Tryd.prog.godebug = none := by kernel_rfl
theorem laidOut : laidOutB Tryd.prog = true := by kernel_rfl
def laidV : List (String × DataW Unit) := [("agraffe/number.primes", Rows.laid_agraffe_number_primes)]
theorem gPrimes : Tryd.prog.globalNamed "agraffe/number.primes" = some 0 := by kernel_rfl
theorem tPrimes : (Tryd.prog.globals[0]?).map (·.type) = some 65 := by kernel_rfl
theorem cell_u64 : Tryd.prog.cellsOf 57 = 1 := by kernel_rfl
/-- the door's own heap meets the condition -/
theorem door_met (os : Os) (args : Array Value) : laidMetH Tryd.prog laidV ((World.doorLaid Tryd.prog 400 os).forCall (fun _ _ => 0) ⟨#[], args, []⟩).memory :=
  laidMetH_of_parts3 (fuel := 8) (laidMet_of_run' 8 (by kernel_rfl) (by kernel_rfl)) (by kernel_rfl) (by kernel_rfl)
theorem of_laid {W : World} (h : laidMetH Tryd.prog laidV W) (j : Nat) (v : Int) (hj : [(2 : Int), 3, 5][j]? = some v) : W.cell? ⟨0, j, none⟩ = some (.int .u64 v) := by
  rw [MakeChecks.laidMetH_plain _ _ _ (by kernel_rfl)] at h
  obtain ⟨ps, ⟨g0, t0, cs0, f0, p0, q0, hg0, ht0, hv0, hd0, _⟩, _⟩ := h
  obtain rfl := Option.some.inj (gPrimes.symm.trans hg0)
  obtain rfl := Option.some.inj (tPrimes.symm.trans ht0)
  obtain ⟨xs, m1, rfl, hx1, hlen, hn3, hel⟩ := DataW.trod_array Tryd.underlying65 hd0
  have c65 : Tryd.prog.cellsOf 65 = 3 := by kernel_rfl
  have hjl : j < 3 := by
    have := (List.getElem?_eq_some_iff.1 hj).1
    simpa using this
  have h0 := hel j hjl
  simp only [Prod.mk.injEq, DataW.agg.injEq, Rows.laid_agraffe_number_primes] at hx1
  have hxj : j < xs.length := by omega
  rw [List.getElem?_eq_getElem hxj] at h0
  obtain ⟨k, e1, e2, _⟩ := DataW.trod_int Tryd.underlying57 h0
  have e3 : (xs.map (·.1))[j]? = some (.lit (.int .u64 k)) := by
    rw [List.getElem?_map, List.getElem?_eq_getElem hxj, Option.map_some, e2]
  rw [← hx1.1] at e3
  have hk : k = v := by
    match j, hjl, hj, e3 with
    | 0, _, hj, e3 => simp at hj e3; omega
    | 1, _, hj, e3 => simp at hj e3; omega
    | 2, _, hj, e3 => simp at hj e3; omega
  subst hk
  have := World.var?_cell hg0 hv0 j
  rw [this]
  rw [cell_u64, Nat.mul_one] at e1
  have e4 := congrArg (fun l => l[0]?) e1
  simp only [List.getElem?_take, List.getElem?_drop, Nat.add_zero] at e4
  simpa using e4
theorem glob_ok {W : World} (h : laidMetH Tryd.prog laidV W) : GlobOk W [] (bad [] []) := by
  intro g
  unfold gval
  split
  · rename_i hg
    subst hg
    have hc : ∀ (j : Nat) v, [V.int .u64 2, .int .u64 3, .int .u64 5][j]? = some v → ∃ n, v = .int .u64 n ∧ [(2 : Int), 3, 5][j]? = some n := by
      intro j v hj
      match j, hj with
      | 0, hj => simp at hj; exact ⟨2, hj.symm, rfl⟩
      | 1, hj => simp at hj; exact ⟨3, hj.symm, rfl⟩
      | 2, hj => simp at hj; exact ⟨5, hj.symm, rfl⟩
      | j + 3, hj => simp at hj
    have h0 := of_laid h 0 2 rfl
    have hlt : 0 < W.heap.size := by
      rcases Nat.eq_zero_or_pos W.heap.size with q | q
      · simp [World.cell?, Array.getElem?_eq_none (show W.heap.size ≤ 0 by omega)] at h0
      · exact q
    refine RelV.bp _ 0 0 0 (fun j => .int .u64 ([(2 : Int), 3, 5].getD j 0)) hlt (owned_nil 0) ?_ ?_ ?_
    · intro j v hj
      obtain ⟨n, rfl, hn⟩ := hc j v hj
      rw [Nat.zero_add, of_laid h j n hn, List.getD_eq_getElem?_getD, hn]
      rfl
    · intro j v hj
      obtain ⟨n, rfl, hn⟩ := hc j v hj
      rw [List.getD_eq_getElem?_getD, hn]
      exact .int _ _
    · intro j v hj
      obtain ⟨n, rfl, hn⟩ := hc j v hj
      rfl
  · exact .any _
end Go.Proofs.YtdkkhfkplpopdaaDoor
