import Derived.Test.YtihbeoplchiikaaDoorC3
import Derived.Test.YtihbeoplchiikaaDoorYC
set_option linter.unusedSimpArgs false
set_option linter.unusedVariables false
/- contracts: slopes -/
namespace Go.Proofs.YtihbeoplchiikaaDoor
open Go.RowKit
attribute [local irreducible] WA WOs WDs WAn qThen qBlock tput
set_option maxHeartbeats 1000000
set_option maxRecDepth 20000
set_option linter.unusedSimpArgs false
set_option linter.unusedVariables false
attribute [local irreducible] smB cut
def ptV (p : Pt) : List V := [.int .i64 p.1.num, .int .i64 (p.1.den : Int), .int .i64 p.2.num, .int .i64 (p.2.den : Int)]
/-- the slope, and whether it is large, as the program finds them -/
def slP (a b : Pt) : Rat := quoQ (cut (b.2 - a.2)) (cut (b.1 - a.1))
def slG (g : Bool) (a b : Pt) : Bool := ((g || !smB (b.2 - a.2)) || !smB (b.1 - a.1)) || quoB (cut (b.2 - a.2)) (cut (b.1 - a.1))
theorem sm_quoQ (a b : Rat) : sm (quoQ a b) := by
  unfold quoQ; split
  · exact sm_zero
  · exact sm_cut _
theorem sm_slP (a b : Pt) : sm (slP a b) := sm_quoQ _ _
theorem sub_ne {a b : Rat} (h : a < b) : b - a ≠ 0 := by
  intro e
  have : b = a := by grind
  rw [this] at h
  exact Rat.lt_irrefl h
theorem slP_ok {a b : Pt} (h : slOk a b) (hlt : a.1 < b.1) (g : Bool) : slP a b = sl a b ∧ slG g a b = g := by
  obtain ⟨h1, h2, h3⟩ := h
  have hne := sub_ne hlt
  unfold slP slG quoQ quoB
  rw [cut_sm h2, cut_sm h1, if_neg hne, if_neg hne, smB_of h1, smB_of h2]
  unfold sl at h3
  rw [cut_sm h3, smB_of h3]
  exact ⟨rfl, by simp⟩
theorem slG_iff {a b : Pt} (hlt : a.1 < b.1) : slG false a b = false ↔ slOk a b := by
  refine ⟨fun h => ?_, fun h => (slP_ok h hlt false).2⟩
  unfold slG quoB at h
  simp only [Bool.or_eq_false_iff, Bool.not_eq_false', Bool.false_or] at h
  obtain ⟨⟨h1, h2⟩, h3⟩ := h
  have s1 := smB_iff.1 h1
  have s2 := smB_iff.1 h2
  rw [cut_sm s1, cut_sm s2, if_neg (sub_ne hlt)] at h3
  have h4 : smB ((b.2 - a.2) / (b.1 - a.1)) = true := by simpa using h3
  exact ⟨s1, s2, smB_iff.1 h4⟩
theorem slG_true (a b : Pt) : slG true a b = true := by unfold slG; simp
theorem uC4_67_1 {N : Nat} {l : List Oper} {t : List (Nat × V)} {m : Mem} {Q : Exit → List (Nat × V) → Mem → Prop} (h : RgT Tryd.prog N l t m Q 82 (fun i => if i == 14 then .w else if i == 6 || i == 12 || i == 13 then .f else if i == 3 || i == 5 || i == 9 || i == 11 then .q else .p) [.one 0, .one 1, .one 2, .one 3, .one 4, .one 5, .one 7, .one 8, .one 9, .one 10, .one 11, .one 6, .one 12, .one 13, .one 14]) : WA Tryd.prog N (.region 1 l.toArray true) t m Q := d_rgT h
theorem slope_w (k : Nat) (a b : Pt) (g : Bool) (a1 : sm a.1) (a2 : sm a.2) (b1 : sm b.1) (b2 : sm b.2) : CallW Tryd.prog 67 [.ptr k 0 0, .agg (ptV a), .agg (ptV b)] k (.cells .own 82 1 [[.bool (g)]]) (.cells .own 82 1 [[.bool (slG g a b)]]) (.agg [.int .i64 (Rat.num (slP a b)), .int .i64 ((Rat.den (slP a b) : Nat) : Int)]) := by
  obtain ⟨x, y⟩ := a
  obtain ⟨u, v⟩ := b
  dsimp only at *
  unfold ptV slP slG
  dsimp only
  refine CallW_in (tvs := [.ptr 0 0 0, .v (.agg [.int .i64 x.num, .int .i64 (x.den : Int), .int .i64 y.num, .int .i64 (y.den : Int)]), .v (.agg [.int .i64 u.num, .int .i64 (u.den : Int), .int .i64 v.num, .int .i64 (v.den : Int)])]) Tryd.func67 rfl Tryd.ntmps67 Tryd.results67 (by kernel_rfl) (by simp) (by simp [flatL, V.flat]) rfl fun m Q hQ => ?_
  simp only [List.map_cons, List.map_nil, TV.inst]
  (repeat' (first | (refine sx ?_ ?_ <;> intro h <;> first | (exfalso; omega) | skip) | (refine g_op ?_; refine g_call ?_; refine g_args ?_; (first | refine s_fnW (sub_w _ _ _ _ ?_ ?_) ?_ | refine s_fnW (quoQ_w _ _ _ _ (sm_cut _) (sm_cut _)) ?_) <;> try first | omega | assumption) | refine ny ?_ | refine WA_block ?_ | (refine uC4_67_1 ?_; refine ⟨by kernel_rfl, ?_⟩) | ((first | refine grp_w (sub_w _ _ _ _ ?_ ?_) ?_ | refine grp_w (quoQ_w _ _ _ _ (sm_cut _) (sm_cut _)) ?_) <;> try first | omega | assumption) | (refine g_d ?_; refine d_args ?_; (first | refine d_fnW (sub_w _ _ _ _ ?_ ?_) ?_ | refine d_fnW (quoQ_w _ _ _ _ (sm_cut _) (sm_cut _)) ?_) <;> try first | omega | assumption)))
  all_goals (refine r_esW hQ ?_ ?_ <;> try with_reducible rfl)
end Go.Proofs.YtihbeoplchiikaaDoor
/- contracts: right curves -/
namespace Go.Proofs.YtihbeoplchiikaaDoor
open Go.RowKit
attribute [local irreducible] WA WOs WDs WAn qThen qBlock tput
set_option maxHeartbeats 1000000
set_option maxRecDepth 20000
set_option linter.unusedSimpArgs false
set_option linter.unusedVariables false
attribute [local irreducible] smB cut sm
def rkV (k : Rk) : List V := [.int .i64 k.1.1, .int .i64 k.1.2, .int .i64 k.2.1, .int .i64 k.2.2]
def rksV (l : List Rk) : List (List V) := l.map rkV
theorem rksV_length {l : List Rk} : (rksV l).length = l.length := by simp [rksV]
theorem rksV_get {l : List Rk} {i : Nat} (h : i < l.length) : (rksV l)[i]? = some (rkV (l.getD i rk0)) := by
  unfold rksV; rw [List.getElem?_map, rk_getD h]; rfl
theorem rksV_all {l : List Rk} {n : Nat} (h : n = 4) : (rksV l).all (fun e => e.length == n) = true := by subst h; simp [rksV, rkV]
theorem rksV_plain (l : List Rk) : plainLL (rksV l) = true := by
  induction l with
  | nil => rfl
  | cons x xs ih => simp only [rksV, List.map_cons, plainLL, rkV, plainL, V.plain, Bool.true_and] at ih ⊢; exact ih
theorem rksV_flat (l : List Rk) : (rksV l).all flatL = true := by simp [rksV, rkV, flatL, V.flat]
theorem cmpQ_le {p q : Rat} : cmpQ p q ≤ 0 ↔ p ≤ q := by
  unfold cmpQ
  by_cases h1 : p < q
  · rw [if_pos h1]; simp [Rat.le_of_lt h1]
  · rw [if_neg h1]
    by_cases h2 : q < p
    · rw [if_pos h2]; simp [Rat.not_le.2 h2]
    · rw [if_neg h2]; simp [Rat.not_lt.1 h2]
theorem cmpQ_bd (p q : Rat) : -1 ≤ cmpQ p q ∧ cmpQ p q ≤ 1 := by unfold cmpQ; split <;> (try split) <;> omega
end Go.Proofs.YtihbeoplchiikaaDoor
