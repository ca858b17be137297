/- levels and dips, two ways -/
import Derived.Test.YtmigenmibohnkaaYF
import Derived.Test.YtmigenmibohnkaaC43
set_option linter.unusedSimpArgs false
set_option linter.unusedVariables false
namespace Go.Proofs.Ytmigenmibohnkaa
open Go.RowKit
/-- at a corner nothing too large comes up -/
theorem val_at {c : List Pt} (h : Valid c) {i : Nat} (hi : i < c.length) : valOk c (at' c i).1 ∧ valE c (at' c i).1 = (at' c i).2 := by
  refine ⟨?_, val_cnr h.asc hi⟩
  have hn : cnt c (at' c i).1 = i + 1 := (cnt_uniq h.asc (by omega) (fun j hj => h.asc.le (by omega) hi) fun j h3 h4 => h.asc.lt (by omega) h4).symm
  unfold valOk
  simp only [hn]
  by_cases hl : i + 1 = c.length
  · exact .inr (.inl hl)
  · refine .inr (.inr ?_)
    rw [Nat.add_sub_cancel, Rat.sub_self, Rat.zero_mul, Rat.add_zero]
    exact ⟨sm_zero, sm_zero, (h.sm i hi).2⟩
theorem cv_dip {a : ActR} (h : acErr a = 0) {j : Nat} (hj : j < a.parts.length) {c : List Pt} (hc : cvP a j = some c) {k : Nat} (hk : k < c.length) : 0 ≤ (at' c k).1 ∧ (at' c k).1 ≤ (a.dip : Rat) := by
  have hp := acErr_pts h
  obtain ⟨h1, h2⟩ := curP_ends hp hj hc
  have hv := cvP_valid hp hj hc
  rw [← h1, ← h2]
  exact ⟨hv.asc.le (by omega) hk, hv.asc.le (by omega) (by omega)⟩
theorem dip_ok {a : ActR} {q : Rat} (hs : sm q) (h0 : 0 ≤ q) (h1 : q ≤ (a.dip : Rat)) : dipErr a q.num (q.den : Int) = 0 := by
  unfold dipErr
  rw [frErr_raw, if_pos hs, if_neg (by decide), if_neg]
  rintro (h | h)
  · have := Rat.num_nonneg.2 h0
    omega
  · have h2 := (cmp_le q (a.dip : Rat)).2 h1
    have e1 : ((a.dip : Rat)).num = a.dip := rfl
    have e2 : ((a.dip : Rat)).den = 1 := rfl
    rw [e1, e2] at h2
    rw [show ((1 : Nat) : Int) = 1 from rfl, Int.mul_one] at h2
    omega
theorem toQ_q (q : Rat) : toQ (q.num, (q.den : Int)) = q := fit_of q
/-- the position of a part at a right dip -/
theorem pos_at {a : ActR} (h : acErr a = 0) {s : List UInt8} (hs : 0 ≤ prI a s) {q : Rat} (hq : sm q) (h0 : 0 ≤ q) (h1 : q ≤ (a.dip : Rat)) {c : List Pt} (hc : cvP a (prI a s).toNat = some c) : posR a s q.num (q.den : Int) = if valOk c q then (some (valE c q), 0) else (none, 8) := by
  have hp : ptE a s = 0 := by unfold ptE; rw [if_neg (by omega), if_neg (by omega)]
  have hps : psE a s q.num (q.den : Int) = 0 := by rw [psE_dp hp]; exact dip_ok hq h0 h1
  unfold posR
  rw [if_neg (by omega), hc]
  dsimp only
  rw [toQ_q]
theorem rch_befor {c : List Pt} (hv : Valid c) {lv x : Rat} {f : Bool} {e : Int} (h : rch c lv f = (some x, e)) {k : Nat} (hk : k < c.length) (hx : (at' c k).1 < x) : rchd f lv (at' c k) = false := by
  rcases rch_cases c lv f with h1 | ⟨h1, h2⟩ | ⟨i, hi, h1, h2⟩
  · exact h1 k hk
  · rw [rch_zero h1 h2] at h
    injection h with h3 _
    injection h3 with h3
    have := hv.asc.le (Nat.zero_le k) hk
    grind
  · rw [rch_succ hi h1 h2] at h
    by_cases ho : alOk (at' c i) (at' c (i + 1)) lv
    · rw [if_pos ho] at h
      injection h with h3 _
      injection h3 with h3
      by_cases hki : k < i + 1
      · exact h1 k hki
      · have h4 := hv.asc.le (i := i + 1) (j := k) (by omega) hk
        have hy := rchd_y (h1 i (by omega)) h2
        have h5 := alE_in (y := lv) (hv.up i hi) (by
          cases f with
          | false => exact .inl (hy.2.1 rfl)
          | true => exact .inr (hy.2.2 rfl))
        grind
    · rw [if_neg ho] at h
      simp at h
theorem rch_no {c : List Pt} {lv : Rat} {f : Bool} (h : rch c lv f = (none, 12)) {k : Nat} (hk : k < c.length) : rchd f lv (at' c k) = false := by
  rcases rch_cases c lv f with h1 | ⟨h1, h2⟩ | ⟨i, hi, h1, h2⟩
  · exact h1 k hk
  · rw [rch_zero h1 h2] at h
    simp at h
  · rw [rch_succ hi h1 h2] at h
    by_cases ho : alOk (at' c i) (at' c (i + 1)) lv
    · rw [if_pos ho] at h; simp at h
    · rw [if_neg ho] at h; simp at h
end Go.Proofs.Ytmigenmibohnkaa
