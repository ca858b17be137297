/- contracts: events in their order -/
import Derived.Test.YtihbeoplchiikaaGreatDoorYE
import Derived.Test.YtihbeoplchiikaaGreatDoorGD
set_option linter.unusedSimpArgs false
set_option linter.unusedVariables false
namespace Go.Proofs.YtihbeoplchiikaaGreatDoor
open Go.RowKit
attribute [local irreducible] WA WOs WDs WAn qThen qBlock tput
set_option maxHeartbeats 1000000
set_option maxRecDepth 20000
set_option linter.unusedSimpArgs false
set_option linter.unusedVariables false
attribute [local irreducible] smB cut sm

theorem cor_c (x y : Int) (M : Mem) (k : Nat) (st : Sta) (hk : M[k]? = some (.cells st 3 1 [[.int .i64 x], [.int .i64 y]])) : Gives Tryz.prog 24 [.sl k 2] M (.int .i64 (if x ≠ 0 then x else y)) := by
  have hkl := lend_get2 hk
  refine Gives_in Tryz.func24 rfl Tryz.ntmps24 Tryz.results24 (by kernel_rfl) (by simp) rfl fun Q hQ => ?_
  (have FX := hkl; repeat' (first | (refine sx ?_ ?_ <;> intro h <;> first | (exfalso; omega) | skip) | refine ny ?_ | refine WA_block ?_))
  refine WA_rounds 3 ?_
  (have FX := hkl; repeat' (first | (refine sx ?_ ?_ <;> intro h <;> first | (exfalso; omega) | skip) | refine ny ?_ | refine WA_block ?_))
  all_goals (try (exfalso; omega))
  all_goals ((refine r_es hQ ?_; try with_reducible rfl))
  all_goals (refine congrArg (V.int .i64) ?_; (repeat (first | rw [if_pos (by first | assumption | omega | grind)] | rw [if_neg (by first | assumption | omega | grind)])); try omega)
theorem uC27_74_1 {N : Nat} {l : List Oper} {t : List (Nat × V)} {m : Mem} {Q : Exit → List (Nat × V) → Mem → Prop} (h : RgN Tryz.prog N l t m Q (fun i => if i == 10 || i == 11 then .a else if i == 1 || i == 3 || i == 4 || i == 6 || i == 8 || i == 9 then .q else .p) [.one 0, .one 1, .one 2, .one 3, .one 4, .one 5, .one 6, .one 7, .one 8, .one 9, .one 10, .one 11, .one 12]) : WA Tryz.prog N (.region 1 l.toArray true) t m Q := d_rgN h
theorem ahapp1_c (x y : Hp) (hx : sm x.2) (hy : sm y.2) (m : Mem) : Gives Tryz.prog 74 [.agg (hpV x), .agg (hpV y)] m (.int .i64 (cmpH x y)) := by
  unfold hpV
  refine Gives_in Tryz.func74 rfl Tryz.ntmps74 Tryz.results74 (by kernel_rfl) (by simp) rfl fun Q hQ => ?_
  (repeat' (first | (refine sx ?_ ?_ <;> intro h <;> first | (exfalso; omega) | skip) | (refine na ?_; (first | refine nb (acompare_c _ _ hx hy) ?_ | refine nb (ccompare_c _ _) ?_ | refine s_fn (cor_c (cmpQ x.2 y.2) (cmpI x.1 y.1) _ _ .own ?_) ?_ | refine d_fn (cor_c (cmpQ x.2 y.2) (cmpI x.1 y.1) _ _ .own ?_) ?_ | refine d_fnQ (fun _ => cor_c (cmpQ x.2 y.2) (cmpI x.1 y.1) _ _ .own ?_) ?_ | refine grp_cons (fun _ => cor_c (cmpQ x.2 y.2) (cmpI x.1 y.1) _ _ .own ?_) ?_) <;> try first | omega | assumption) | refine ny ?_ | refine WA_block ?_ | (refine uC27_74_1 ?_; refine ⟨by kernel_rfl, ?_⟩) | (refine g_d ?_; (first | refine d_fnY (acompare_c _ _ hx hy _) ?_ | refine d_fnY (ccompare_c _ _ _) ?_ | refine d_fnY (cor_c (cmpQ x.2 y.2) (cmpI x.1 y.1) _ _ .own ?_) ?_) <;> try first | omega | assumption)))
  all_goals try (simp; done)
  all_goals ((refine r_es hQ ?_; try with_reducible rfl))
  all_goals rfl
end Go.Proofs.YtihbeoplchiikaaGreatDoor
