/- contracts: the law's own helpers -/
import Derived.Test.YtihbeoplchiikaaGreatDoorC35
import Derived.Test.YtihbeoplchiikaaGreatDoorC10
set_option linter.unusedSimpArgs false
set_option linter.unusedVariables false
namespace Go.Proofs.YtihbeoplchiikaaGreatDoor
open Go.RowKit
attribute [local irreducible] WA WOs WDs WAn qThen qBlock tput
set_option maxHeartbeats 1000000
set_option maxRecDepth 20000
set_option linter.unusedSimpArgs false
set_option linter.unusedVariables false
attribute [local irreducible] smB cut sm
section
variable {m0 D X B : Mem}
theorem fin_as {j k : Nat} {st : Sta} {ty sz : Nat} {es : List (List V)} {R : V → Option Mem → Prop} (hB : B = lend m0 ++ D) (hX : X[j]? = some (.cells st ty sz es)) (hk : k ≤ es.length) (hp : plainLL (es.take k) = true) (h : R (.agg [.lst (es.take k)]) none) :
    Fin m0 R (.agg [.sl (B.length + j) k]) (B ++ X) := by
  subst hB
  refine .inr ⟨D ++ X, _, by simp, ?_, h⟩
  show (frzs (frz _ _ 3) _).map V.agg = _
  simp only [frzs, frz_sl (n := 2) hX hk hp, Option.map_some]
/-- a value that is handed back as it is told there -/
def FrzTo (m0 M : Mem) (v u : V) : Prop := frz M m0.length 3 v = some u
theorem frzTo_int (k : IntKind) (i : Int) (M : Mem) : FrzTo m0 M (.int k i) (.int k i) := frz_int _ _ _ _ _
theorem frzTo_nil (M : Mem) : FrzTo m0 M .nilsl .nilsl := frz_plain _ _ _ rfl (by simp) (by simp) (by simp) (by simp)
theorem frzTo_sl {j k : Nat} {st : Sta} {ty sz : Nat} {es : List (List V)} (hX : X[j]? = some (.cells st ty sz es)) (hk : k = es.length) (hp : plainLL es = true) : FrzTo m0 (lend m0 ++ X) (.sl ((lend m0).length + j) k) (.lst es) := by
  subst hk
  have h := frz_sl (m0 := m0) (D := []) (X := X) (n := 2) (j := j) (k := es.length) hX (Nat.le_refl _) (by rw [List.take_of_length_le (Nat.le_refl _)]; exact hp)
  rw [List.append_nil, List.take_of_length_le (Nat.le_refl _)] at h
  exact h
theorem fin_a4 {v1 v2 v3 v4 u1 u2 u3 u4 : V} {R : V → Option Mem → Prop} (h1 : FrzTo m0 (lend m0 ++ X) v1 u1) (h2 : FrzTo m0 (lend m0 ++ X) v2 u2) (h3 : FrzTo m0 (lend m0 ++ X) v3 u3) (h4 : FrzTo m0 (lend m0 ++ X) v4 u4) (h : R (.agg [u1, u2, u3, u4]) none) : Fin m0 R (.agg [v1, v2, v3, v4]) (lend m0 ++ X) := by
  refine .inr ⟨X, _, rfl, ?_, h⟩
  unfold FrzTo at h1 h2 h3 h4
  show (frzs (frz _ _ 3) _).map V.agg = _
  simp only [frzs, h1, h2, h3, h4, Option.map_some]
end

theorem lknee_c (x y : Int) (m : Mem) : Gives Tryz.prog 42 [.int .i64 x, .int .i64 y] m (.agg [.int .i64 x, .int .i64 1, .int .i64 y, .int .i64 1]) := by
  refine Gives_in Tryz.func42 rfl Tryz.ntmps42 Tryz.results42 (by kernel_rfl) (by simp) rfl fun Q hQ => ?_
  (repeat' (first | (refine sx ?_ ?_ <;> intro h <;> first | (exfalso; omega) | skip) | (refine na ?_; (first | refine nb (rwhole_c _) ?_) <;> try first | omega | assumption) | refine ny ?_ | refine WA_block ?_))
  all_goals (refine r_es hQ ?_; try with_reducible rfl)
def wk (x y : Int) : Rk := ((x, 1), (y, 1))
theorem uC37_12_5 {N : Nat} {l : List Oper} {t : List (Nat × V)} {m : Mem} {Q : Exit → List (Nat × V) → Mem → Prop} (h : RgN Tryz.prog N l t m Q (fun i => if i == 13 || i == 15 then .w else if i == 12 then .a else if i == 1 || i == 5 || i == 10 || i == 11 then .q else .p) [.one 0, .one 1, .one 2, .one 3, .one 4, .one 5, .one 6, .one 7, .one 8, .one 9, .one 10, .one 11, .one 12, .one 13, .one 14, .one 15]) : WA Tryz.prog N (.region 5 l.toArray true) t m Q := d_rgN h
theorem lcurve4_c (a b c d : Int) (M : Mem) (k : Nat) (st : Sta) (hk : M[k]? = some (.cells st 3 1 [[.int .i64 a], [.int .i64 b], [.int .i64 c], [.int .i64 d]])) : Gives Tryz.prog 12 [.sl k 4] M (.agg [.lst (rksV [wk a b, wk c d])]) := by
  have hkl := lend_get2 hk
  refine CallA_in Tryz.func12 rfl Tryz.ntmps12 Tryz.results12 (by kernel_rfl) (by simp) fun Q hQ => ?_
  (have FX := hkl; repeat' (first | (refine sx ?_ ?_ <;> intro h <;> first | (exfalso; omega) | skip) | (refine na ?_; (first | refine nb (lknee_c _ _) ?_) <;> try first | omega | assumption) | refine ny ?_ | refine WA_block ?_ | (refine uC37_12_5 ?_; refine ⟨by kernel_rfl, ?_⟩) | (refine g_d ?_; (first | refine d_fnY (lknee_c _ _ _) ?_) <;> try first | omega | assumption)))
  refine WA_rounds 3 ?_
  (have FX := hkl; repeat' (first | (refine sx ?_ ?_ <;> intro h <;> first | (exfalso; omega) | skip) | (refine na ?_; (first | refine nb (lknee_c _ _) ?_) <;> try first | omega | assumption) | refine ny ?_ | refine WA_block ?_ | (refine uC37_12_5 ?_; refine ⟨by kernel_rfl, ?_⟩) | (refine g_d ?_; (first | refine d_fnY (lknee_c _ _ _) ?_) <;> try first | omega | assumption)))
  all_goals (try (exfalso; omega))
  all_goals (refine r_esA hQ (fin_as (D := []) (B := lend M) (j := 5) (k := 2) (by simp) rfl (by simp) rfl ⟨rfl, rfl⟩))
theorem lcurve6_c (a b c d e f : Int) (M : Mem) (k : Nat) (st : Sta) (hk : M[k]? = some (.cells st 3 1 [[.int .i64 a], [.int .i64 b], [.int .i64 c], [.int .i64 d], [.int .i64 e], [.int .i64 f]])) : Gives Tryz.prog 12 [.sl k 6] M (.agg [.lst (rksV [wk a b, wk c d, wk e f])]) := by
  have hkl := lend_get2 hk
  refine CallA_in Tryz.func12 rfl Tryz.ntmps12 Tryz.results12 (by kernel_rfl) (by simp) fun Q hQ => ?_
  (have FX := hkl; repeat' (first | (refine sx ?_ ?_ <;> intro h <;> first | (exfalso; omega) | skip) | (refine na ?_; (first | refine nb (lknee_c _ _) ?_) <;> try first | omega | assumption) | refine ny ?_ | refine WA_block ?_ | (refine uC37_12_5 ?_; refine ⟨by kernel_rfl, ?_⟩) | (refine g_d ?_; (first | refine d_fnY (lknee_c _ _ _) ?_) <;> try first | omega | assumption)))
  refine WA_rounds 4 ?_
  (have FX := hkl; repeat' (first | (refine sx ?_ ?_ <;> intro h <;> first | (exfalso; omega) | skip) | (refine na ?_; (first | refine nb (lknee_c _ _) ?_) <;> try first | omega | assumption) | refine ny ?_ | refine WA_block ?_ | (refine uC37_12_5 ?_; refine ⟨by kernel_rfl, ?_⟩) | (refine g_d ?_; (first | refine d_fnY (lknee_c _ _ _) ?_) <;> try first | omega | assumption)))
  all_goals (try (exfalso; omega))
  all_goals (refine r_esA hQ (fin_as (D := []) (B := lend M) (j := 7) (k := 3) (by simp) rfl (by simp) rfl ⟨rfl, rfl⟩))

theorem lcurve_c (l : List Rk) (hl : l.length ≤ 100000) (m : Mem) : Gives Tryz.prog 29 [.agg [.lst (rksV l)]] m (.agg [.lst (rksV l)]) := by
  have hlen := rksV_length (l := l)
  have hal : ∀ n, n = 4 → (rksV l).all (fun e => e.length == n) = true := fun n h => rksV_all h
  refine CallA_in Tryz.func29 rfl Tryz.ntmps29 Tryz.results29 (by kernel_rfl) (by simp) fun Q hQ => ?_
  (have FX := And.intro hlen hal; repeat' (first | (refine sx ?_ ?_ <;> intro h <;> first | (exfalso; omega) | skip) | refine ny ?_ | refine WA_block ?_))
  all_goals (try (exfalso; omega))
  all_goals (refine r_esA hQ (fin_as (D := []) (B := lend m) (j := 3) (by simp) rfl (by rw [hlen]; exact Nat.le_refl _) (by rw [List.take_of_length_le (by rw [hlen]; exact Nat.le_refl _)]; exact rksV_plain _) ⟨?_, rfl⟩))
  all_goals (rw [List.take_of_length_le (by rw [hlen]; exact Nat.le_refl _)])
theorem uC37_17_6 {N : Nat} {l : List Oper} {t : List (Nat × V)} {m : Mem} {Q : Exit → List (Nat × V) → Mem → Prop} (h : RgN Tryz.prog N l t m Q (fun i => if i == 3 || i == 7 || i == 8 then .q else .p) [.one 0, .one 1, .one 2, .one 3, .one 4, .one 5, .one 6, .one 7, .one 8]) : WA Tryz.prog N (.region 6 l.toArray true) t m Q := d_rgN h
theorem btexts_same (s t : List UInt8) (M : Mem) (k : Nat) (st : Sta) (hk : M[k]? = some (.cells st 9 1 [[.str s], [.str t]])) : Gives Tryz.prog 17 [.lst [[.str s], [.str t]], .sl k 2] M (.bool true) := by
  have hkl := lend_get2 hk
  refine Gives_in Tryz.func17 rfl Tryz.ntmps17 Tryz.results17 (by kernel_rfl) (by simp) rfl fun Q hQ => ?_
  (have FX := hkl; repeat' (first | (refine sx ?_ ?_ <;> intro h <;> first | (exfalso; omega) | skip) | refine ny ?_ | refine WA_block ?_ | (refine uC37_17_6 ?_; refine ⟨by kernel_rfl, ?_⟩)))
  refine WA_rounds 3 ?_
  (have FX := hkl; repeat' (first | (refine sx ?_ ?_ <;> intro h <;> first | (exfalso; omega) | skip) | refine ny ?_ | refine WA_block ?_ | (refine uC37_17_6 ?_; refine ⟨by kernel_rfl, ?_⟩)))
  all_goals (try (exfalso; first | omega | contradiction))
  all_goals (refine r_es hQ ?_; try with_reducible rfl)
def sane (n d : Int) : Prop := (-1152921504606846976 ≤ n ∧ n ≤ 1152921504606846976) ∧ (-1152921504606846976 ≤ d ∧ d ≤ 1152921504606846976)
instance (n d : Int) : Decidable (sane n d) := inferInstanceAs (Decidable (_ ∧ _))
/-- few corners, or far too many, all of them sane -/
def few (l : List Rk) (most : Int) : Prop := ¬ (most < l.length ∧ l.length ≤ 60 ∨ 63 < l.length) ∧ ∀ i, i < l.length → sane (l.getD i rk0).1.1 (l.getD i rk0).1.2 ∧ sane (l.getD i rk0).2.1 (l.getD i rk0).2.2
instance (l : List Rk) (most : Int) : Decidable (few l most) := inferInstanceAs (Decidable (_ ∧ _))
end Go.Proofs.YtihbeoplchiikaaGreatDoor
