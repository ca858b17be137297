/- contracts: the curve of a part at a dip; positions and ratios -/
import Derived.Test.YtbcjcbcakcdnfaaGreatC24
set_option linter.unusedSimpArgs false
set_option linter.unusedVariables false
namespace Go.Proofs.YtbcjcbcakcdnfaaGreat
open Go.RowKit
attribute [local irreducible] WA WOs WDs WAn qThen qBlock tput
set_option maxHeartbeats 1000000
set_option maxRecDepth 20000
set_option linter.unusedSimpArgs false
set_option linter.unusedVariables false
attribute [local irreducible] smB cut sm
theorem psE_pt {a : ActR} {s : List UInt8} {n d : Int} (h : ptE a s ≠ 0) : psE a s n d = ptE a s := by unfold psE; rw [if_pos h]
theorem psE_dp {a : ActR} {s : List UInt8} {n d : Int} (h : ptE a s = 0) : psE a s n d = dipErr a n d := by unfold psE; rw [if_neg (by omega)]
theorem chk_dp {a : ActR} {n d : Int} (h : acErr a = 0) : chkDip a n d = dipErr a n d := by unfold chkDip; rw [if_neg (by omega)]
theorem dip_q {a : ActR} {n d : Int} (h : dipErr a n d = 0) : frErr n d = 0 ∧ (toQ (n, d)).num = n ∧ ((toQ (n, d)).den : Int) = d ∧ sm (toQ (n, d)) ∧ 0 ≤ n ∧ n ≤ a.dip * d := by
  unfold dipErr at h
  split at h
  · contradiction
  · rename_i h0
    have h0 : frErr n d = 0 := by omega
    obtain ⟨h1, h2⟩ := frErr_q h0
    unfold rawQ at h1
    injection h1 with h3 h4
    split at h
    · simp at h
    · exact ⟨h0, h3, h4, h2, by omega, by omega⟩
def posV (a : ActR) (s : List UInt8) (n d : Int) : V :=
  if psE a s n d ≠ 0 then .tup [frO none, .int .i64 (psE a s n d)] else match cvP a (prI a s).toNat with
  | none => .tup [frO none, .int .i64 8]
  | some c => if valOk c (toQ (n, d)) then .tup [.agg [.int .i64 (Rat.num (valE c (toQ (n, d)))), .int .i64 ((Rat.den (valE c (toQ (n, d))) : Nat) : Int)], .int .i64 0] else .tup [frO none, .int .i64 8]
def ratV (a : ActR) (s : List UInt8) (n d : Int) : V :=
  if psE a s n d ≠ 0 then .tup [frO none, .int .i64 (psE a s n d)] else match cvP a (prI a s).toNat with
  | none => .tup [frO none, .int .i64 8]
  | some c => .tup [.agg [.int .i64 (Rat.num (slopeE c (toQ (n, d)))), .int .i64 ((Rat.den (slopeE c (toQ (n, d))) : Nat) : Int)], .int .i64 0]
theorem psE_ok {a : ActR} {s : List UInt8} {n d : Int} (h : psE a s n d = 0) : ptE a s = 0 ∧ dipErr a n d = 0 := by
  unfold psE at h
  split at h
  · contradiction
  · exact ⟨by omega, h⟩
end Go.Proofs.YtbcjcbcakcdnfaaGreat
