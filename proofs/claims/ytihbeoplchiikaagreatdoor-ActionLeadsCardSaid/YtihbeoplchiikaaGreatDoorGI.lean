import Derived.Test.YtihbeoplchiikaaGreatDoorC37
import Derived.Test.YtihbeoplchiikaaGreatDoorC34
import Derived.Test.YtihbeoplchiikaaGreatDoorC36
import Derived.Test.YtihbeoplchiikaaGreatDoorGF
import Derived.Test.YtihbeoplchiikaaGreatDoorC20
import Derived.Test.YtihbeoplchiikaaGreatDoorC44
set_option linter.unusedSimpArgs false
set_option linter.unusedVariables false
/- contracts: the chapter's examples -/
namespace Go.Proofs.YtihbeoplchiikaaGreatDoor
open Go.RowKit
attribute [local irreducible] WA WOs WDs WAn qThen qBlock tput
set_option maxHeartbeats 1000000
set_option maxRecDepth 20000
set_option linter.unusedSimpArgs false
set_option linter.unusedVariables false
def wippenB : List UInt8 := [119, 105, 112, 112, 101, 110]
def hammerB : List UInt8 := [104, 97, 109, 109, 101, 114]
def liftB : List UInt8 := [108, 105, 102, 116]
def letoffB : List UInt8 := [108, 101, 116, 45, 111, 102, 102]
def dropB : List UInt8 := [100, 114, 111, 112]
def upA : ActR := ⟨1000, [⟨wippenB, [], [wk 0 0, wk 1000 500], 100, 20⟩, ⟨hammerB, wippenB, [wk 0 0, wk 450 4500, wk 500 4300], 30, 10⟩], [⟨liftB, wippenB, 1, false⟩, ⟨letoffB, hammerB, 4500, false⟩, ⟨dropB, hammerB, 4600, false⟩], []⟩
theorem upA_lt : Lt upA := by
  refine ⟨by decide, by decide, by decide, ?_, ?_⟩
  · intro i hi
    have : i = 0 ∨ i = 1 := by simp only [upA, List.length_cons, List.length_nil] at hi; omega
    rcases this with rfl | rfl <;> decide
  · intro i hi
    have : i = 0 ∨ i = 1 ∨ i = 2 := by simp only [upA, List.length_cons, List.length_nil] at hi; omega
    rcases this with rfl | rfl | rfl <;> decide
theorem upA_ok : acErr upA = 0 := by decide +kernel
theorem upA_dip : chkDip upA 0 1 = 0 := by decide +kernel
theorem upA_tou : touP upA (toQ (0, 1)) = some ((260 : Rat), (140 : Rat)) := by decide +kernel
theorem upA_hap : hapS upA = some [(0, (2 : Rat)), (1, (900 : Rat))] := by decide +kernel
def exL : List Rk := [wk 0 0, wk 10 5, wk 20 25]
theorem exL_val : valR exL 15 1 = (some (15 : Rat), 0) := by decide +kernel
theorem exL_b : RkB exL := by
  intro i hi
  have : i = 0 ∨ i = 1 ∨ i = 2 := by simp only [exL, List.length_cons, List.length_nil] at hi; omega
  rcases this with rfl | rfl | rfl <;> decide
end Go.Proofs.YtihbeoplchiikaaGreatDoor
/- contracts: the chapter's examples are as told -/
namespace Go.Proofs.YtihbeoplchiikaaGreatDoor
open Go.RowKit
attribute [local irreducible] WA WOs WDs WAn qThen qBlock tput
set_option maxHeartbeats 1000000
set_option maxRecDepth 20000
set_option linter.unusedSimpArgs false
set_option linter.unusedVariables false

theorem lupright_c (m : Mem) : Gives Tryz.prog 15 [] m (.agg (actV upA)) := by
  suffices key : Gives Tryz.prog 15 [] m (.agg [.int .i64 1000, .lst (prtsV upA.parts), .lst (evsV upA.evs), .nilsl]) by
    exact Gives_weak key (wk_agg ⟨WkV.refl _, WkV.refl _, WkV.refl _, wk_nil, trivial⟩)
  refine CallA_in Tryz.func15 rfl Tryz.ntmps15 Tryz.results15 (by kernel_rfl) (by simp) fun Q hQ => ?_
  (repeat' (first | (refine sx ?_ ?_ <;> intro h <;> first | (exfalso; omega) | skip) | (refine na ?_; (first | refine s_fn (lcurve4_c 0 0 1000 500 _ _ .own ?_) ?_ | refine s_fn (lcurve6_c 0 0 450 4500 500 4300 _ _ .own ?_) ?_) <;> try first | omega | assumption) | refine ny ?_ | refine WA_block ?_))
  all_goals try (simp; done)
  all_goals (refine r_esA hQ (fin_a4 (frzTo_int _ _ _) (frzTo_sl (j := 3) rfl rfl rfl) (frzTo_sl (j := 4) rfl rfl rfl) (frzTo_nil _) ⟨rfl, rfl⟩))
theorem ex_val (m : Mem) : Gives Tryz.prog 11 [.agg [.lst (rksV [wk 0 0, wk 10 5, wk 20 25])], .agg [.int .i64 15, .int .i64 1]] m (.tup [.agg [.int .i64 15, .int .i64 1], .int .i64 0]) := by
  have h := avalue_c exL exL_b 15 1 (by constructor <;> decide) (by constructor <;> decide) m
  rw [exL_val] at h
  exact h
theorem ex_tou (m : Mem) : Gives Tryz.prog 14 [.agg (actV upA), .agg [.int .i64 0, .int .i64 1]] m (.tup [.agg [.int .i64 260, .int .i64 1, .int .i64 140, .int .i64 1], .int .i64 0]) := by
  have h := atouchx_c upA upA_lt 0 1 (by constructor <;> decide) (by constructor <;> decide) m
  unfold touE at h
  rw [upA_dip, if_neg (by decide), upA_tou] at h
  exact h
theorem ex_ord (m : Mem) : Gives Tryz.prog 16 [.agg (actV upA)] m (.tup [.lst [[.str [108, 105, 102, 116]], [.str [108, 101, 116, 45, 111, 102, 102]]], .int .i64 0]) := by
  have h := aorder_c upA upA_lt (fun _ => by decide) m
  unfold ordV at h
  rw [upA_ok, if_neg (by decide), upA_hap] at h
  exact h
theorem uC39_4_4 {N : Nat} {l : List Oper} {t : List (Nat × V)} {m : Mem} {Q : Exit → List (Nat × V) → Mem → Prop} (h : RgN Tryz.prog N l t m Q (fun i => if i == 24 || i == 25 then .a else if i == 3 || i == 4 || i == 5 || i == 12 || i == 13 || i == 14 || i == 16 then .q else .p) [.one 0, .one 1, .one 2, .one 3, .one 4, .one 5, .one 6, .one 7, .one 8, .one 9, .one 10, .one 11, .one 12, .one 13, .one 14, .one 15, .one 16, .one 17, .one 18, .one 19, .one 20, .one 21, .one 22, .one 23, .one 24, .one 25, .one 26, .one 27]) : WA Tryz.prog N (.region 4 l.toArray true) t m Q := d_rgN h
theorem lawake_c (m : Mem) : Gives Tryz.prog 4 [] m (.bool true) := by
  refine Gives_in Tryz.func4 rfl Tryz.ntmps4 Tryz.results4 (by kernel_rfl) (by simp) rfl fun Q hQ => ?_
  (repeat' (first | (refine sx ?_ ?_ <;> intro h <;> first | (exfalso; omega) | skip) | (refine na ?_; (first | refine s_fn (lcurve6_c 0 0 10 5 20 25 _ _ .own ?_) ?_ | refine d_fn (lcurve6_c 0 0 10 5 20 25 _ _ .own ?_) ?_ | refine d_fnQ (fun _ => lcurve6_c 0 0 10 5 20 25 _ _ .own ?_) ?_ | refine grp_cons (fun _ => lcurve6_c 0 0 10 5 20 25 _ _ .own ?_) ?_ | refine nb (rwhole_c _) ?_ | refine nb ex_val ?_ | refine nb lupright_c ?_ | refine nb ex_tou ?_ | refine nb ex_ord ?_ | refine s_fn (btexts_same [108, 105, 102, 116] [108, 101, 116, 45, 111, 102, 102] _ _ .own ?_) ?_ | refine d_fn (btexts_same [108, 105, 102, 116] [108, 101, 116, 45, 111, 102, 102] _ _ .own ?_) ?_ | refine d_fnQ (fun _ => btexts_same [108, 105, 102, 116] [108, 101, 116, 45, 111, 102, 102] _ _ .own ?_) ?_ | refine grp_cons (fun _ => btexts_same [108, 105, 102, 116] [108, 101, 116, 45, 111, 102, 102] _ _ .own ?_) ?_) <;> try first | omega | assumption) | refine ny ?_ | refine WA_block ?_ | (refine uC39_4_4 ?_; refine ⟨by kernel_rfl, ?_⟩) | (refine g_d ?_; (first | refine d_fnY (lcurve6_c 0 0 10 5 20 25 _ _ .own ?_) ?_ | refine d_fnY (rwhole_c _ _) ?_ | refine d_fnY (ex_val _) ?_ | refine d_fnY (lupright_c _) ?_ | refine d_fnY (ex_tou _) ?_ | refine d_fnY (ex_ord _) ?_ | refine d_fnY (btexts_same [108, 105, 102, 116] [108, 101, 116, 45, 111, 102, 102] _ _ .own ?_) ?_) <;> try first | omega | assumption)))
  all_goals try (simp; done)
  all_goals (refine r_es hQ ?_; try with_reducible rfl)
end Go.Proofs.YtihbeoplchiikaaGreatDoor
/- contracts: light actions; positions, in cases -/
namespace Go.Proofs.YtihbeoplchiikaaGreatDoor
open Go.RowKit
attribute [local irreducible] WA WOs WDs WAn qThen qBlock tput
set_option maxHeartbeats 1000000
set_option maxRecDepth 20000
set_option linter.unusedSimpArgs false
set_option linter.unusedVariables false
set_option maxHeartbeats 4000000
def ptLight (p : PartR) : Prop := ¬ (30 < p.name.length ∨ 30 < p.driver.length ∨ 6 < p.cor.length ∧ p.cor.length ≤ 12 ∨ 15 < p.cor.length)
instance (p : PartR) : Decidable (ptLight p) := inferInstanceAs (Decidable (¬ _))
def evLight (e : EvR) : Prop := ¬ (30 < e.name.length ∨ 30 < e.part.length)
instance (e : EvR) : Decidable (evLight e) := inferInstanceAs (Decidable (¬ _))
def lenLight (a : ActR) : Prop := ¬ (5 < a.parts.length ∧ a.parts.length ≤ 12 ∨ 15 < a.parts.length ∨ 6 < a.evs.length ∧ a.evs.length ≤ 20 ∨ 25 < a.evs.length ∨ 12 < a.leads.length)
instance (a : ActR) : Decidable (lenLight a) := inferInstanceAs (Decidable (¬ _))
def light (a : ActR) : Prop := lenLight a ∧ (∀ i, i < a.parts.length → ptLight (a.parts.getD i p0)) ∧ ∀ i, i < a.evs.length → evLight (a.evs.getD i e0)
instance (a : ActR) : Decidable (light a) := inferInstanceAs (Decidable (_ ∧ _))
theorem light_lt {a : ActR} (h : light a) : Lt a := by
  obtain ⟨h1, h2, h3⟩ := h
  unfold lenLight at h1
  refine ⟨by omega, by omega, by omega, fun i hi => ?_, fun i hi => ?_⟩
  · have := h2 i hi; unfold ptLight at this; omega
  · have := h3 i hi; unfold evLight at this; omega
theorem ext_all {p : Nat → Prop} {i : Nat} (h : ∀ j, j < i → p j) (hi : p i) : ∀ j, j < i + 1 → p j := by
  intro j hj
  rcases Nat.lt_or_ge j i with q | q
  · exact h j q
  · obtain rfl : j = i := by omega
    exact hi

theorem llight_n (a : ActR) (hn : ¬ lenLight a) (m : Mem) : Gives Tryz.prog 5 [.agg (actV a)] m (.bool (decide (light a))) := by
  have hlp := prtsV_length (l := a.parts)
  have hle := evsV_length (l := a.evs)
  have hll := ldsV_length (l := a.leads)
  have hga := hlp
  have hkl := hlp
  have hf : decide (light a) = false := decide_eq_false fun h => hn h.1
  rw [hf]
  unfold lenLight at hn
  unfold actV
  refine Gives_in Tryz.func5 rfl Tryz.ntmps5 Tryz.results5 (by kernel_rfl) (by simp) rfl fun Q hQ => ?_
  (have FX := fx5 hlp hle hll hga hkl; repeat' (first | (refine sx ?_ ?_ <;> intro h <;> first | (exfalso; omega) | skip) | refine ny ?_ | refine WA_block ?_))
  all_goals (try (exfalso; omega))
  all_goals (refine r_es hQ ?_; try with_reducible rfl)
theorem llight_c (a : ActR) (m : Mem) : Gives Tryz.prog 5 [.agg (actV a)] m (.bool (decide (light a))) := by
  have hlp := prtsV_length (l := a.parts)
  have hle := evsV_length (l := a.evs)
  have hll := ldsV_length (l := a.leads)
  have hga := hlp
  have hkl := hlp
  by_cases hn : lenLight a
  · unfold lenLight at hn
    unfold actV
    refine Gives_in Tryz.func5 rfl Tryz.ntmps5 Tryz.results5 (by kernel_rfl) (by simp) rfl fun Q hQ => ?_
    (have FX := fx5 hlp hle hll hga hkl; repeat' (first | (refine sx ?_ ?_ <;> intro h <;> first | (exfalso; omega) | skip) | refine ny ?_ | refine WA_block ?_))
    all_goals (try (exfalso; omega))
    all_goals
      refine WA_whileK (σ := Nat) [1, 3] (fun i => [.ptr (lend m).length 0 0, .int .i64 i]) (fun _ => [actB a]) 1 (fun i => i ≤ a.parts.length ∧ ∀ j, j < i → ptLight (a.parts.getD j p0)) (fun i => a.parts.length - i) 0 ⟨Nat.zero_le _, fun j h => absurd h (Nat.not_lt_zero _)⟩ tv_ rfl (fun _ => rfl) (by intro s s' _ _; simp [conB, conS, V.keeps, V.plain, Blk.flat, flatL, plainL, V.flat]) (by intro s s' _ _; simp [conB, conS, V.keeps, V.plain, Blk.flat, flatL, plainL, V.flat]) ?_
      rintro i ⟨hi1, hi2⟩ K hK
      simp only [zipT]
      clear FX hga hkl
      rcases Nat.lt_or_ge i a.parts.length with hi | hi
      · have hga := prtsV_get hi
        have hkl := rksV_length (l := (a.parts.getD i p0).cor)
        have hbad : ¬ ptLight (a.parts.getD i p0) → decide (light a) = false := fun h => decide_eq_false fun hh => h (hh.2.1 i hi)
        have hsu := ext_all hi2
        generalize a.parts.getD i p0 = p at *
        unfold prtV at hga
        unfold ptLight at hbad hsu
        (have FX := fx5 hlp hle hll hga hkl; repeat' (first | (refine sx ?_ ?_ <;> intro h <;> first | (exfalso; omega) | skip) | refine ny ?_ | refine WA_block ?_))
        all_goals (try (exfalso; omega))
        all_goals try
          ((refine r_es hQ ?_; try with_reducible rfl)
           exact congrArg V.bool (hbad (by omega)).symm)
        all_goals (refine nextL_ hK (i + 1) ⟨hi, hsu (by omega)⟩ (by omega))
      · have hie : i = a.parts.length := by omega
        subst hie
        have hga := hlp
        have hkl := hlp
        (have FX := fx5 hlp hle hll hga hkl; repeat' (first | (refine sx ?_ ?_ <;> intro h <;> first | (exfalso; omega) | skip) | refine ny ?_ | refine WA_block ?_))
        all_goals (try (exfalso; omega))
        clear FX hK
        refine WA_whileK (σ := Nat) [1, 5] (fun i => [.ptr (lend m).length 0 0, .int .i64 i]) (fun _ => [actB a]) 1 (fun i => i ≤ a.evs.length ∧ ∀ j, j < i → evLight (a.evs.getD j e0)) (fun i => a.evs.length - i) 0 ⟨Nat.zero_le _, fun j h => absurd h (Nat.not_lt_zero _)⟩ tv_ rfl (fun _ => rfl) (by intro s s' _ _; simp [conB, conS, V.keeps, V.plain, Blk.flat, flatL, plainL, V.flat]) (by intro s s' _ _; simp [conB, conS, V.keeps, V.plain, Blk.flat, flatL, plainL, V.flat]) ?_
        rintro i ⟨hj1, hj2⟩ K hK
        simp only [zipT]
        clear hga hkl
        rcases Nat.lt_or_ge i a.evs.length with hj | hj
        · have hga := evsV_get hj
          have hkl := hlp
          have hbad : ¬ evLight (a.evs.getD i e0) → decide (light a) = false := fun h => decide_eq_false fun hh => h (hh.2.2 i hj)
          have hsu := ext_all hj2
          generalize a.evs.getD i e0 = e at *
          unfold evV at hga
          unfold evLight at hbad hsu
          (have FX := fx5 hlp hle hll hga hkl; repeat' (first | (refine sx ?_ ?_ <;> intro h <;> first | (exfalso; omega) | skip) | refine ny ?_ | refine WA_block ?_))
          all_goals (try (exfalso; omega))
          all_goals try
            ((refine r_es hQ ?_; try with_reducible rfl)
             exact congrArg V.bool (hbad (by omega)).symm)
          all_goals (refine nextL_ hK (i + 1) ⟨hj, hsu (by omega)⟩ (by omega))
        · have hje : i = a.evs.length := by omega
          subst hje
          have hga := hlp
          have hkl := hlp
          (have FX := fx5 hlp hle hll hga hkl; repeat' (first | (refine sx ?_ ?_ <;> intro h <;> first | (exfalso; omega) | skip) | refine ny ?_ | refine WA_block ?_))
          all_goals (try (exfalso; omega))
          all_goals ((refine r_es hQ ?_; try with_reducible rfl))
          all_goals exact congrArg V.bool (decide_eq_true ⟨by unfold lenLight; omega, hi2, hj2⟩).symm
  · exact llight_n a hn m
end Go.Proofs.YtihbeoplchiikaaGreatDoor
/- contract: the copy of a light action -/
namespace Go.Proofs.YtihbeoplchiikaaGreatDoor
open Go.RowKit
attribute [local irreducible] WA WOs WDs WAn qThen qBlock tput
set_option maxHeartbeats 1000000
set_option maxRecDepth 20000
set_option linter.unusedSimpArgs false
set_option linter.unusedVariables false
theorem lcopied_l (a : ActR) (h : light a) (m : Mem) : Gives Tryz.prog 7 [.agg (actV a)] m (.agg (actV a)) := by
  obtain ⟨h1, h2, _⟩ := h
  unfold lenLight at h1
  refine lcopied_c a (by omega) (by omega) (by omega) (fun i hi => ?_) m
  have := h2 i hi
  unfold ptLight at this
  omega
end Go.Proofs.YtihbeoplchiikaaGreatDoor
