/- the law ActionOrders, over contracts -/
import Derived.Test.YtbcjcbcakcdnfaaGreatC58
import Derived.Test.YtbcjcbcakcdnfaaGreatC47
import Derived.Test.YtbcjcbcakcdnfaaGreatC39
set_option linter.unusedSimpArgs false
set_option linter.unusedVariables false
namespace Go.Proofs.YtbcjcbcakcdnfaaGreat
open Go.RowKit
attribute [local irreducible] WA WOs WDs WAn qThen qBlock tput
set_option maxHeartbeats 1000000
set_option maxRecDepth 20000
set_option linter.unusedSimpArgs false
set_option linter.unusedVariables false
attribute [local irreducible] smB cut sm

theorem bcopytexts_c (o : Nms) (hl : o.length ≤ 100000) (m : Mem) : Gives Tryz.prog 32 [.lst (txV o)] m (.lst (txV o)) := by
  have hlen := txV_length (o := o)
  have hal : ∀ n, n = 1 → (txV o).all (fun e => e.length == n) = true := fun n h => txV_o1 h
  refine CallA_in Tryz.func32 rfl Tryz.ntmps32 Tryz.results32 (by kernel_rfl) (by simp) fun Q hQ => ?_
  (have FX := And.intro hlen hal; repeat' (first | (refine sx ?_ ?_ <;> intro h <;> first | (exfalso; omega) | skip) | refine ny ?_ | refine WA_block ?_))
  all_goals (try (exfalso; omega))
  all_goals (refine r_esA hQ (fin_sl (D := []) (B := lend m) (j := 1) (by simp) rfl (by rw [hlen]; exact Nat.le_refl _) (by rw [List.take_of_length_le (by rw [hlen]; exact Nat.le_refl _)]; exact txV_plain _) ⟨?_, rfl⟩))
  all_goals (rw [List.take_of_length_le (by rw [hlen]; exact Nat.le_refl _)])
end Go.Proofs.YtbcjcbcakcdnfaaGreat
