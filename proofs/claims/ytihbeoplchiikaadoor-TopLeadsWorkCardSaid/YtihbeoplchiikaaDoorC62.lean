/- contract: whether an action with more leads is accepted, of the reference -/
import Derived.Test.YtihbeoplchiikaaDoorC61
import Derived.Test.YtihbeoplchiikaaDoorGJ
import Derived.Test.YtihbeoplchiikaaDoorC44
import Derived.Test.YtihbeoplchiikaaDoorYN
set_option linter.unusedSimpArgs false
set_option linter.unusedVariables false
namespace Go.Proofs.YtihbeoplchiikaaDoor
open Go.RowKit
attribute [local irreducible] WA WOs WDs WAn qThen qBlock tput
set_option maxHeartbeats 1000000
set_option maxRecDepth 20000
set_option linter.unusedSimpArgs false
set_option linter.unusedVariables false
set_option maxHeartbeats 4000000
attribute [local irreducible] smB cut sm
/-- the action with some holes' leads -/
def pick (holes : List (Int × Int)) (set : List Nat) : List (Int × Int) := set.map fun i => holes.getD i l0
def addL (a : ActR) (holes : List (Int × Int)) (set : List Nat) : ActR := { a with leads := a.leads ++ pick holes set }
def accB (a : ActR) (holes : List (Int × Int)) (dn up : Int) (set : List Nat) : Bool := decide (a.leads.length + set.length ≤ 8) && decide (fitE (addL a holes set) dn up 0 = 0)
theorem pick_len {holes : List (Int × Int)} {set : List Nat} : (pick holes set).length = set.length := by simp [pick]
theorem pick_take {holes : List (Int × Int)} {set : List Nat} {i : Nat} (h : i < set.length) : pick holes (set.take (i + 1)) = pick holes (set.take i) ++ [holes.getD (set.getD i 0) l0] := by
  unfold pick
  rw [List.take_succ_eq_append_getElem h, List.map_append]
  have : set.getD i 0 = set[i] := by rw [List.getD_eq_getElem?_getD, List.getElem?_eq_getElem h]; rfl
  rw [this]
  rfl
theorem add_lt {a : ActR} (h : Lt a) {holes : List (Int × Int)} {set : List Nat} (h8 : a.leads.length + set.length ≤ 8) : Lt (addL a holes set) := ⟨h.np, h.ne, by simp [addL, pick]; omega, h.pn, h.en⟩
theorem lds_add {l p : List (Int × Int)} (h : ldsErr l = 0) (h8 : l.length + p.length ≤ 8) (hp : ∀ x ∈ p, ldErr x = 0) : ldsErr (l ++ p) = 0 := by
  unfold ldsErr at h ⊢
  rw [if_neg (by omega)] at h
  rw [if_neg (by rw [List.length_append]; omega)]
  refine firstE_zero.2 fun i hi => ?_
  unfold ldErrAt
  rw [List.length_append] at hi
  rcases Nat.lt_or_ge i l.length with q | q
  · rw [List.getD_eq_getElem?_getD, List.getElem?_append_left q, ← List.getD_eq_getElem?_getD]
    exact firstE_zero.1 h i q
  · rw [List.getD_eq_getElem?_getD, List.getElem?_append_right q, List.getElem?_eq_getElem (by omega)]
    exact hp _ (List.getElem_mem _)
theorem ac_leads {a : ActR} (h : acErr a = 0) : ldsErr a.leads = 0 := by
  unfold acErr at h
  repeat' split at h
  all_goals first | exact h | exact absurd h (by assumption) | exact absurd h (by decide)
theorem add_err {a : ActR} (h : acErr a = 0) {holes : List (Int × Int)} {set : List Nat} (hh : ldsErr holes = 0) (hs : ∀ i ∈ set, i < holes.length) (h8 : a.leads.length + set.length ≤ 8) : acErr (addL a holes set) = 0 := by
  have hl := ac_leads h
  have h1 : ldsErr (addL a holes set).leads = 0 := by
    refine lds_add hl (by rw [pick_len]; exact h8) fun x hx => ?_
    obtain ⟨i, hi, rfl⟩ := List.mem_map.1 hx
    unfold ldsErr at hh
    split at hh
    · exact absurd hh (by decide)
    · exact firstE_zero.1 hh i (hs i hi)
  unfold acErr at h ⊢
  have e : evErrAt (addL a holes set) = evErrAt a := rfl
  have e1 : (addL a holes set).dip = a.dip := rfl
  have e2 : (addL a holes set).parts = a.parts := rfl
  have e3 : (addL a holes set).evs = a.evs := rfl
  rw [e, e1, e2, e3, h1]
  rw [hl] at h
  exact h
theorem ldsV_snoc (l : List (Int × Int)) (x y : Int) : ldsV (l ++ [(x, y)]) = ldsV l ++ [[V.int .i64 x, V.int .i64 y]] := by simp [ldsV, ldV]
end Go.Proofs.YtihbeoplchiikaaDoor
