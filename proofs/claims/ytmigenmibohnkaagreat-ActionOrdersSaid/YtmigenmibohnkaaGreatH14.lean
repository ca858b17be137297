/- the law ActionOrders, over contracts -/
import Derived.Test.YtmigenmibohnkaaGreatC58
import Derived.Test.YtmigenmibohnkaaGreatC47
import Derived.Test.YtmigenmibohnkaaGreatC39
set_option linter.unusedSimpArgs false
set_option linter.unusedVariables false
namespace Go.Proofs.YtmigenmibohnkaaGreat
open Go.RowKit
attribute [local irreducible] WA WOs WDs WAn qThen qBlock tput
set_option maxHeartbeats 1000000
set_option maxRecDepth 20000
set_option linter.unusedSimpArgs false
set_option linter.unusedVariables false
attribute [local irreducible] smB cut sm

theorem bcopytexts_c (o : Nms) (hl : o.length ≤ 100000) (m : Mem) : Gives Tryz.prog 57 [.lst (txV o)] m (.lst (txV o)) := by
  have hlen := txV_length (o := o)
  have hal : ∀ n, n = 1 → (txV o).all (fun e => e.length == n) = true := fun n h => txV_o1 h
  refine CallA_in Tryz.func57 rfl Tryz.ntmps57 Tryz.results57 (by kernel_rfl) (by simp) fun Q hQ => ?_
  (have FX := And.intro hlen hal; repeat' (first | (refine sx ?_ ?_ <;> intro h <;> first | (exfalso; omega) | skip) | refine ny ?_ | refine WA_block ?_))
  all_goals (try (exfalso; omega))
  all_goals (refine r_esA hQ (fin_sl (D := []) (B := lend m) (j := 1) (by simp) rfl (by rw [hlen]; exact Nat.le_refl _) (by rw [List.take_of_length_le (by rw [hlen]; exact Nat.le_refl _)]; exact txV_plain _) ⟨?_, rfl⟩))
  all_goals (rw [List.take_of_length_le (by rw [hlen]; exact Nat.le_refl _)])

theorem orders_out (a : ActR) (o : Nms) (g : Int) (hout : ¬ (light a ∧ ¬ 25 < (o.length : Int))) (m : Mem) : Gives Tryz.prog 9 [.agg (actV a), .lst (txV o), .int .i64 g] m (.bool true) := by
  have hlo := txV_length (o := o)
  have hlg := fun m => llight_c a m
  unfold actV at hlg ⊢
  refine Gives_in Tryz.func9 rfl Tryz.ntmps9 Tryz.results9 (by kernel_rfl) (by simp) rfl fun Q hQ => ?_
  (have FX := hlo; repeat' (first | (refine sx ?_ ?_ <;> intro h <;> first | (exfalso; omega) | skip) | (refine g_op ?_; refine g_call ?_; refine g_args ?_; (first | refine s_fn (lawake_c _) ?_ | refine s_fn (hlg _) ?_) <;> try first | omega | assumption) | refine ny ?_ | refine WA_block ?_))
  all_goals (try (exfalso; first | exact hout ⟨by assumption, by assumption⟩ | omega))
  all_goals (refine r_es hQ ?_; try with_reducible rfl)
theorem orders_in (a : ActR) (o : Nms) (g : Int) (hL : light a) (ho : ¬ 25 < (o.length : Int)) (m : Mem) : Gives Tryz.prog 9 [.agg (actV a), .lst (txV o), .int .i64 g] m (.bool true) := by
  have hlo := txV_length (o := o)
  have hlt := light_lt hL
  have hlg := fun m => llight_c a m
  rw [decide_eq_true hL] at hlg
  have hcp := fun m => lcopied_l a hL m
  have hct := fun m => bcopytexts_c o (by omega) m
  have hco := fun m => acheckorder_c a hlt o g (by omega) m
  have hac := fun m => rcheckaction_c a hlt m
  by_cases h1 : acErr a = 0
  · rw [if_neg (by omega)] at hco
    rw [h1] at hac
    have hrc := fun m => rcheckorder_c a hlt h1 o g (by omega) m
    have hgb := fun h => (odErr_ok (a := a) (o := o) (g := g) h).2.1
    have hcl : (odErr a o g).2 = 0 → ¬ g = 0 → ∀ m, Gives Tryz.prog 56 [.agg (actV a), .lst (txV o), .int .i64 (g - 1)] m (.tup [.int .i64 0, .int .i64 0]) := fun h2 h3 m => by
      have h := acheckorder_c a hlt o (g - 1) (by omega) m
      rw [if_neg (by omega)] at h
      unfold odV at h
      rw [odErr_less h2 h3] at h
      exact h
    unfold odV at hco hrc
    generalize (odErr a o g).1 = n0 at *
    generalize (odErr a o g).2 = c0 at *
    unfold actV at hlg hcp hco hac hrc hcl ⊢
    refine Gives_in Tryz.func9 rfl Tryz.ntmps9 Tryz.results9 (by kernel_rfl) (by simp) rfl fun Q hQ => ?_
    (have FX := hlo; repeat' (first | (refine sx ?_ ?_ <;> intro h <;> first | (exfalso; omega) | skip) | (refine g_op ?_; refine g_call ?_; refine g_args ?_; (first | refine s_fn (lawake_c _) ?_ | refine s_fn (hlg _) ?_ | refine s_fn (hcp _) ?_ | refine s_fn (hct _) ?_ | refine s_fn (hco _) ?_ | refine s_fn (hac _) ?_ | refine s_fn (hrc _) ?_ | refine s_fn (hcl (by assumption) (by assumption) _) ?_) <;> try first | omega | assumption) | refine ny ?_ | refine WA_block ?_))
    all_goals (try (exfalso; omega))
    all_goals (refine r_es hQ ?_; try with_reducible rfl)
  · rw [if_pos h1] at hco
    have hlo := And.intro hlo h1
    unfold actV at hlg hcp hco hac ⊢
    refine Gives_in Tryz.func9 rfl Tryz.ntmps9 Tryz.results9 (by kernel_rfl) (by simp) rfl fun Q hQ => ?_
    (have FX := hlo; repeat' (first | (refine sx ?_ ?_ <;> intro h <;> first | (exfalso; omega) | skip) | (refine g_op ?_; refine g_call ?_; refine g_args ?_; (first | refine s_fn (lawake_c _) ?_ | refine s_fn (hlg _) ?_ | refine s_fn (hcp _) ?_ | refine s_fn (hct _) ?_ | refine s_fn (hco _) ?_ | refine s_fn (hac _) ?_) <;> try first | omega | assumption) | refine ny ?_ | refine WA_block ?_))
    all_goals (try (exfalso; omega))
    all_goals (refine r_es hQ ?_; try with_reducible rfl)
theorem orders_law (a : ActR) (o : Nms) (g : Int) (m : Mem) : Gives Tryz.prog 9 [.agg (actV a), .lst (txV o), .int .i64 g] m (.bool true) := by
  by_cases h : light a ∧ ¬ 25 < (o.length : Int)
  · exact orders_in a o g h.1 h.2 m
  · exact orders_out a o g h m
end Go.Proofs.YtmigenmibohnkaaGreat
