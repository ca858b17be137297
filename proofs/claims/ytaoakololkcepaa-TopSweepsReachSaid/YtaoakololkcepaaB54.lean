/- contracts: how many steps there are; narrow benches -/
import Derived.Test.YtaoakololkcepaaBU
set_option linter.unusedSimpArgs false
set_option linter.unusedVariables false
namespace Go.Proofs.Ytaoakololkcepaa
open Go.RowKit
attribute [local irreducible] WA WOs WDs WAn qThen qBlock tput
set_option maxHeartbeats 1000000
set_option maxRecDepth 20000
set_option linter.unusedSimpArgs false
set_option linter.unusedVariables false
set_option maxHeartbeats 4000000
theorem uB54_60_5 {N : Nat} {l : List Oper} {t : List (Nat × V)} {m : Mem} {Q : Exit → List (Nat × V) → Mem → Prop} (h : RgN Try.prog N l t m Q (fun i => if i == 2 || i == 6 || i == 8 || i == 12 then .q else .p) [.one 0, .one 1, .one 2, .one 3, .one 4, .one 5, .one 6, .one 7, .one 8, .one 9, .one 10, .one 11, .one 12, .one 13, .one 14, .one 15, .one 16]) : WA Try.prog N (.region 5 l.toArray true) t m Q := d_rgN h
theorem rtries_c (b : BnR) (hb : Bnd b) (m : Mem) : Gives Try.prog 60 [.agg [.lst (mssV b.ms), .lst (adsV b.ads)]] m (.int .i64 (trS b.ads b.ads.length)) := by
  have hla := adsV_length (l := b.ads)
  have hga := hla
  have hfa := hb.fa
  refine Gives_in Try.func60 rfl Try.ntmps60 Try.results60 (by kernel_rfl) (by simp) rfl fun Q hQ => ?_
  (have FX := And.intro hla hga; repeat' (first | (refine sx ?_ ?_ <;> intro h <;> first | (exfalso; omega) | skip) | refine ny ?_ | refine WA_block ?_ | (refine uB54_60_5 ?_; refine ⟨by kernel_rfl, ?_⟩)))
  all_goals (try (exfalso; omega))
  refine WA_whileK (σ := Nat) [1, 3, 4] (fun i => [.ptr (lend m).length 0 0, .int .i64 (trS b.ads i), .int .i64 i]) (fun _ => [.cells .own 25 2 [[.lst (mssV b.ms), .lst (adsV b.ads)]]]) 1 (fun i => i ≤ b.ads.length) (fun i => b.ads.length - i) 0 (Nat.zero_le _) tv_ rfl (fun _ => rfl) (by intro s s' _ _; simp [conB, conS, V.keeps, V.plain, Blk.flat, flatL, plainL, V.flat]) (by intro s s' _ _; simp [conB, conS, V.keeps, V.plain, Blk.flat, flatL, plainL, V.flat]) ?_
  rintro i hi1 K hK
  simp only [zipT]
  clear FX hga
  have hbd := trS_bd hb i hi1
  rcases Nat.lt_or_ge i b.ads.length with hi | hi
  · have hga := adsV_get hi
    have hst := fun h => trS_stop (ads := b.ads) (k := i) h (b.ads.length - i)
    rw [show i + (b.ads.length - i) = b.ads.length by omega] at hst
    have hsu : trS b.ads (i + 1) = if trS b.ads i ≤ 100000 then trS b.ads i * ((b.ads.getD i adz).most - (b.ads.getD i adz).least + 1) else trS b.ads i := rfl
    have hle := hb.le i hi
    have hmo := hb.mo i hi
    have hmb := mul_bd (a := 100000) (c := 2001) (x := min (trS b.ads i) 100000) (y := (b.ads.getD i adz).most - (b.ads.getD i adz).least + 1) (by decide) (by omega) (by omega)
    generalize trS b.ads i = n at *
    generalize b.ads.getD i adz = y at *
    obtain ⟨yn, ye, yl, ym, yp, ya⟩ := y
    unfold adV at hga
    dsimp only at hga hle hmo hsu hmb
    by_cases hn : n ≤ 100000
    · rw [if_pos hn] at hsu
      rw [Int.min_eq_left hn] at hmb
      (have FX := And.intro hla hga; repeat' (first | (refine sx ?_ ?_ <;> intro h <;> first | (exfalso; omega) | skip) | refine ny ?_ | refine WA_block ?_ | (refine uB54_60_5 ?_; refine ⟨by kernel_rfl, ?_⟩)))
      all_goals (try (exfalso; omega))
      all_goals (refine nextL_ hK (i + 1) hi (by omega) (ht := by rw [hsu]; exact tv_))
    · rw [hst (by omega)] at hQ
      (have FX := And.intro hla hga; repeat' (first | (refine sx ?_ ?_ <;> intro h <;> first | (exfalso; omega) | skip) | refine ny ?_ | refine WA_block ?_ | (refine uB54_60_5 ?_; refine ⟨by kernel_rfl, ?_⟩)))
      all_goals (try (exfalso; omega))
      all_goals ((refine r_es hQ ?_; try with_reducible rfl))
  · obtain rfl : i = b.ads.length := by omega
    have hga := hla
    (have FX := And.intro hla hga; repeat' (first | (refine sx ?_ ?_ <;> intro h <;> first | (exfalso; omega) | skip) | refine ny ?_ | refine WA_block ?_ | (refine uB54_60_5 ?_; refine ⟨by kernel_rfl, ?_⟩)))
    all_goals (try (exfalso; omega))
    all_goals ((refine r_es hQ ?_; try with_reducible rfl))

theorem lnarrow_c (b : BnR) (m : Mem) : Gives Try.prog 58 [.agg [.lst (mssV b.ms), .lst (adsV b.ads)]] m (.bool (decide (narrow b))) := by
  have hli := fun m => llight_c b m
  have hx0 := mssV_length (l := b.ms)
  have hcb := hx0
  have htr := hx0
  by_cases hL : light b
  · rw [decide_eq_true hL] at hli
    have hb := light_bl hL
    have hcb := fun m => rcheckbench_c b hb m
    by_cases h0 : bnErr b = 0
    · have htr := fun m => rtries_c b (bnd_ok (bn_ok h0)) m
      rw [h0] at hcb
      by_cases hn : trS b.ads b.ads.length ≤ 1500 ∨ 100000 < trS b.ads b.ads.length
      · rw [decide_eq_true (show narrow b from ⟨hL, fun _ => hn⟩)]
        generalize trS b.ads b.ads.length = n at *
        refine Gives_in Try.func58 rfl Try.ntmps58 Try.results58 (by kernel_rfl) (by simp) rfl fun Q hQ => ?_
        (have FX := hx0; repeat' (first | (refine sx ?_ ?_ <;> intro h <;> first | (exfalso; omega) | skip) | (refine g_op ?_; refine g_call ?_; refine g_args ?_; (first | refine s_fn (hli _) ?_ | refine s_fn (hcb _) ?_ | refine s_fn (htr _) ?_) <;> try first | omega | assumption) | refine ny ?_ | refine WA_block ?_))
        all_goals (try (exfalso; omega))
        all_goals ((refine r_es hQ ?_; try with_reducible rfl))
        all_goals (exact congrArg V.bool (by first | rfl | (rw [decide_eq_true (by assumption)]; rfl) | (rw [decide_eq_false (by assumption)]; rfl) | exact (decide_eq_true (by assumption)).symm | exact (decide_eq_false (by assumption)).symm | exact (decide_eq_true (by omega)).symm | exact (decide_eq_false (by omega)).symm))
      · rw [decide_eq_false (show ¬ narrow b from fun h => hn (h.2 h0))]
        generalize trS b.ads b.ads.length = n at *
        refine Gives_in Try.func58 rfl Try.ntmps58 Try.results58 (by kernel_rfl) (by simp) rfl fun Q hQ => ?_
        (have FX := hx0; repeat' (first | (refine sx ?_ ?_ <;> intro h <;> first | (exfalso; omega) | skip) | (refine g_op ?_; refine g_call ?_; refine g_args ?_; (first | refine s_fn (hli _) ?_ | refine s_fn (hcb _) ?_ | refine s_fn (htr _) ?_) <;> try first | omega | assumption) | refine ny ?_ | refine WA_block ?_))
        all_goals (try (exfalso; omega))
        all_goals ((refine r_es hQ ?_; try with_reducible rfl))
        all_goals (exact congrArg V.bool (by first | rfl | (rw [decide_eq_true (by assumption)]; rfl) | (rw [decide_eq_false (by assumption)]; rfl) | exact (decide_eq_true (by assumption)).symm | exact (decide_eq_false (by assumption)).symm | exact (decide_eq_true (by omega)).symm | exact (decide_eq_false (by omega)).symm))
    · rw [decide_eq_true (show narrow b from ⟨hL, fun h => absurd h h0⟩)]
      refine Gives_in Try.func58 rfl Try.ntmps58 Try.results58 (by kernel_rfl) (by simp) rfl fun Q hQ => ?_
      (have FX := hx0; repeat' (first | (refine sx ?_ ?_ <;> intro h <;> first | (exfalso; omega) | skip) | (refine g_op ?_; refine g_call ?_; refine g_args ?_; (first | refine s_fn (hli _) ?_ | refine s_fn (hcb _) ?_ | refine s_fn (htr _) ?_) <;> try first | omega | assumption) | refine ny ?_ | refine WA_block ?_))
      all_goals (try (exfalso; omega))
      all_goals ((refine r_es hQ ?_; try with_reducible rfl))
  · rw [decide_eq_false hL] at hli
    rw [decide_eq_false (show ¬ narrow b from fun h => hL h.1)]
    refine Gives_in Try.func58 rfl Try.ntmps58 Try.results58 (by kernel_rfl) (by simp) rfl fun Q hQ => ?_
    (have FX := hx0; repeat' (first | (refine sx ?_ ?_ <;> intro h <;> first | (exfalso; omega) | skip) | (refine g_op ?_; refine g_call ?_; refine g_args ?_; (first | refine s_fn (hli _) ?_ | refine s_fn (hcb _) ?_ | refine s_fn (htr _) ?_) <;> try first | omega | assumption) | refine ny ?_ | refine WA_block ?_))
    all_goals (try (exfalso; omega))
    all_goals ((refine r_es hQ ?_; try with_reducible rfl))
end Go.Proofs.Ytaoakololkcepaa
