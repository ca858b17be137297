/- the law RegulationValues, over contracts -/
import Derived.Test.YtaoakololkcepaaB36
import Derived.Test.YtaoakololkcepaaB35
import Derived.Test.YtaoakololkcepaaB33
set_option linter.unusedSimpArgs false
set_option linter.unusedVariables false
namespace Go.Proofs.Ytaoakololkcepaa
open Go.RowKit
attribute [local irreducible] WA WOs WDs WAn qThen qBlock tput
set_option maxHeartbeats 1000000
set_option maxRecDepth 20000
set_option linter.unusedSimpArgs false
set_option linter.unusedVariables false
set_option maxHeartbeats 4000000
theorem mid_mul {x lo hi y : Int} (h1 : lo ≤ x) (h2 : x ≤ hi) : min (y * lo) (y * hi) ≤ x * y ∧ x * y ≤ max (y * lo) (y * hi) := by
  rw [Int.mul_comm x y]
  rcases Int.le_total 0 y with hy | hy
  · have a := Int.mul_le_mul_of_nonneg_left h1 hy
    have c := Int.mul_le_mul_of_nonneg_left h2 hy
    omega
  · have a := Int.mul_le_mul_of_nonpos_left hy h1
    have c := Int.mul_le_mul_of_nonpos_left hy h2
    omega
theorem val_mid {b : BnR} {l : List Int} {i : Nat} (hl : ∀ k, k < b.ads.length → (b.ads.getD k adz).least ≤ l.getD k 0 ∧ l.getD k 0 ≤ (b.ads.getD k adz).most) : ∀ k, k ≤ b.ads.length → rcL b i k ≤ valK b l i k ∧ valK b l i k ≤ rcH b i k
  | 0, _ => ⟨Int.le_refl _, Int.le_refl _⟩
  | k + 1, hk => by
    have ih := val_mid (i := i) hl k (by omega)
    have h1 := mid_mul (y := byN b k i) (hl k (by omega)).1 (hl k (by omega)).2
    simp only [rcL, rcH, valK]
    omega
theorem uR3_6_16 {N : Nat} {l : List Oper} {t : List (Nat × V)} {m : Mem} {Q : Exit → List (Nat × V) → Mem → Prop} (h : RgN Try.prog N l t m Q (fun i => if i == 6 || i == 8 || i == 15 || i == 17 then .q else .p) [.one 0, .one 1, .one 2, .one 3, .one 4, .one 5, .one 6, .one 7, .one 8, .one 9, .one 10, .one 11, .one 12, .one 13, .one 14, .one 15, .one 16, .one 17, .one 18, .one 19]) : WA Try.prog N (.region 16 l.toArray true) t m Q := d_rgN h
theorem values_out (b : BnR) (l : List Int) (hout : ¬ (light b ∧ ¬ 20 < (l.length : Int))) (m : Mem) : Gives Try.prog 6 [.agg (bnV b), .lst (nsV l)] m (.bool true) := by
  have hln := nsV_length (l := l)
  unfold bnV
  refine Gives_in Try.func6 rfl Try.ntmps6 Try.results6 (by kernel_rfl) (by simp) rfl fun Q hQ => ?_
  (have FX := hln; repeat' (first | (refine sx ?_ ?_ <;> intro h <;> first | (exfalso; omega) | skip) | (refine g_op ?_; refine g_call ?_; refine g_args ?_; (first | refine s_fn (lawake_c _) ?_ | refine s_fn (llight_c _ _) ?_) <;> try first | omega | assumption) | refine ny ?_ | refine WA_block ?_ | (refine uR3_6_16 ?_; refine ⟨by kernel_rfl, ?_⟩) | ((first | refine grp_cons (fun _ => lawake_c _) ?_ | refine grp_cons (fun _ => llight_c _ _) ?_) <;> try first | omega | assumption) | (refine g_d ?_; refine d_args ?_; (first | refine d_fn (lawake_c _) ?_ | refine d_fn (llight_c _ _) ?_ | refine d_fnQ (fun _ => lawake_c _) ?_ | refine d_fnQ (fun _ => llight_c _ _) ?_) <;> try first | omega | assumption) | (refine g_d ?_; (first | refine d_fnY (lawake_c _) ?_ | refine d_fnY (llight_c _ _) ?_) <;> try first | omega | assumption)))
  all_goals (try (exfalso; first | exact hout ⟨by assumption, by omega⟩ | omega))
  all_goals (refine r_es hQ ?_; try with_reducible rfl)
theorem values_bad (b : BnR) (l : List Int) (hL : light b) (hl : ¬ 20 < (l.length : Int)) (h0 : bsErr b l ≠ 0) (m : Mem) : Gives Try.prog 6 [.agg (bnV b), .lst (nsV l)] m (.bool true) := by
  have hb := light_bl hL
  have hln := nsV_length (l := l)
  have hli := fun m => llight_c b m
  rw [decide_eq_true hL] at hli
  have hcp := fun m => rcopy_c b hb m
  have hci := fun m => bcopyints_c l (by omega) m
  have hva := fun m => gValues_bad b hb l h0 m
  have hbr := fun m => gBroken_bad b hb l h0 m
  have hst := fun m => lsteps_c b hb l m
  unfold bnV at hva hbr ⊢
  generalize bsErr b l = c at *
  refine Gives_in Try.func6 rfl Try.ntmps6 Try.results6 (by kernel_rfl) (by simp) rfl fun Q hQ => ?_
  (have FX := hln; repeat' (first | (refine sx ?_ ?_ <;> intro h <;> first | (exfalso; omega) | skip) | (refine g_op ?_; refine g_call ?_; refine g_args ?_; (first | refine s_fn (lawake_c _) ?_ | refine s_fn (hli _) ?_ | refine s_fn (hcp _) ?_ | refine s_fn (hci _) ?_ | refine s_fn (hva _) ?_ | refine s_fn (hbr _) ?_ | refine s_fn (hst _) ?_) <;> try first | omega | assumption) | refine ny ?_ | refine WA_block ?_ | (refine uR3_6_16 ?_; refine ⟨by kernel_rfl, ?_⟩) | ((first | refine grp_cons (fun _ => lawake_c _) ?_ | refine grp_cons (fun _ => hli _) ?_ | refine grp_cons (fun _ => hcp _) ?_ | refine grp_cons (fun _ => hci _) ?_ | refine grp_cons (fun _ => hva _) ?_ | refine grp_cons (fun _ => hbr _) ?_ | refine grp_cons (fun _ => hst _) ?_) <;> try first | omega | assumption) | (refine g_d ?_; refine d_args ?_; (first | refine d_fn (lawake_c _) ?_ | refine d_fn (hli _) ?_ | refine d_fn (hcp _) ?_ | refine d_fn (hci _) ?_ | refine d_fn (hva _) ?_ | refine d_fn (hbr _) ?_ | refine d_fn (hst _) ?_ | refine d_fnQ (fun _ => lawake_c _) ?_ | refine d_fnQ (fun _ => hli _) ?_ | refine d_fnQ (fun _ => hcp _) ?_ | refine d_fnQ (fun _ => hci _) ?_ | refine d_fnQ (fun _ => hva _) ?_ | refine d_fnQ (fun _ => hbr _) ?_ | refine d_fnQ (fun _ => hst _) ?_) <;> try first | omega | assumption) | (refine g_d ?_; (first | refine d_fnY (lawake_c _) ?_ | refine d_fnY (hli _) ?_ | refine d_fnY (hcp _) ?_ | refine d_fnY (hci _) ?_ | refine d_fnY (hva _) ?_ | refine d_fnY (hbr _) ?_ | refine d_fnY (hst _) ?_) <;> try first | omega | assumption)))
  all_goals (try (exfalso; omega))
  all_goals (refine r_es hQ ?_; try with_reducible rfl)
theorem bints_r (l : List Nat) (hl : l.length ≤ 100000) (m : Mem) : Gives Try.prog 23 [.lst (nuV l), .lst (nuV l)] m (.bool true) := by
  have e : nuV l = nsV (l.map fun (n : Nat) => (n : Int)) := by simp [nuV, nsV, Function.comp_def]
  have h := bints_c (l.map fun (n : Nat) => (n : Int)) (l.map fun (n : Nat) => (n : Int)) (by rw [List.length_map]; exact hl) m
  rw [e]
  rwa [decide_eq_true rfl] at h
theorem values_ok (b : BnR) (l : List Int) (hL : light b) (hl : ¬ 20 < (l.length : Int)) (h0 : bsErr b l = 0) (m : Mem) : Gives Try.prog 6 [.agg (bnV b), .lst (nsV l)] m (.bool true) := by
  have hb := light_bl hL
  have hx := h0
  unfold bsErr at hx
  have h1 : bnErr b = 0 := by
    by_cases h : bnErr b = 0
    · exact h
    · rw [if_pos h] at hx; exact hx
  rw [if_neg (by omega)] at hx
  have hok := bn_ok h1
  have hbd := bnd_ok hok
  have hfm := hbd.fm
  have hef : ∀ k, k < b.ads.length → (b.ads.getD k adz).effs.length ≤ 1000 := fun k hk => by have := (ad_ok (hok.ae k hk)).fe; omega
  have hse := stErr_ok hx
  have hsb := steps_bd hbd hse.2
  have hmd := fun i => val_mid (b := b) (l := l) (i := i) hse.2 b.ads.length (Nat.le_refl _)
  have hln := nsV_length (l := l)
  have hli := fun m => llight_c b m
  rw [decide_eq_true hL] at hli
  have hcp := fun m => rcopy_c b hb m
  have hci := fun m => bcopyints_c l (by omega) m
  have hva := fun m => gValues_ok b hb l h0 m
  have hbr := fun m => gBroken_ok b hb l h0 m
  have hst := fun m => lsteps_c b hb l m
  rw [h0] at hst
  have hrv := fun m => rvalues_c b hbd hef l hse.1 hsb m
  have hrb := fun m => rbroken_c b hbd hef l hse.1 hsb m
  have hvl0 := valsP_length b l b.ms.length
  have hbi := fun m => bints_c (valsP b l b.ms.length) (valsP b l b.ms.length) (by omega) m
  simp only [decide_true] at hbi
  have hbj := fun m => bints_r (brkP b l b.ms.length) (by have := brkP_le b l b.ms.length; omega) m
  have hvl : (nsV (valsP b l b.ms.length)).length = b.ms.length := by rw [nsV_length]; exact hvl0
  have hvg := hln
  have hre := hln
  unfold bnV at hva hbr ⊢
  have hgv := fun i (hi : i < b.ms.length) => nsV_get (l := valsP b l b.ms.length) (i := i) (by rw [hvl0]; exact hi)
  have hgv : ∀ i, i < b.ms.length → (nsV (valsP b l b.ms.length))[i]? = some [V.int .i64 (valP b l i)] := fun i hi => by rw [hgv i hi, valsP_get hi]
  generalize nsV (valsP b l b.ms.length) = VL at *
  generalize brkP b l b.ms.length = BP at *
  refine Gives_in Try.func6 rfl Try.ntmps6 Try.results6 (by kernel_rfl) (by simp) rfl fun Q hQ => ?_
  (have FX := And.intro hln (And.intro hvl hvg); repeat' (first | (refine sx ?_ ?_ <;> intro h <;> first | (exfalso; omega) | skip) | (refine g_op ?_; refine g_call ?_; refine g_args ?_; (first | refine s_fn (lawake_c _) ?_ | refine s_fn (hli _) ?_ | refine s_fn (hcp _) ?_ | refine s_fn (hci _) ?_ | refine s_fn (hva _) ?_ | refine s_fn (hbr _) ?_ | refine s_fn (hst _) ?_ | refine s_fn (hrv _) ?_ | refine s_fn (hrb _) ?_ | refine s_fn (hbi _) ?_ | refine s_fn (hbj _) ?_ | refine s_fn (hre _) ?_) <;> try first | omega | assumption) | refine ny ?_ | refine WA_block ?_ | (refine uR3_6_16 ?_; refine ⟨by kernel_rfl, ?_⟩) | ((first | refine grp_cons (fun _ => lawake_c _) ?_ | refine grp_cons (fun _ => hli _) ?_ | refine grp_cons (fun _ => hcp _) ?_ | refine grp_cons (fun _ => hci _) ?_ | refine grp_cons (fun _ => hva _) ?_ | refine grp_cons (fun _ => hbr _) ?_ | refine grp_cons (fun _ => hst _) ?_ | refine grp_cons (fun _ => hrv _) ?_ | refine grp_cons (fun _ => hrb _) ?_ | refine grp_cons (fun _ => hbi _) ?_ | refine grp_cons (fun _ => hbj _) ?_ | refine grp_cons (fun _ => hre _) ?_) <;> try first | omega | assumption) | (refine g_d ?_; refine d_args ?_; (first | refine d_fn (lawake_c _) ?_ | refine d_fn (hli _) ?_ | refine d_fn (hcp _) ?_ | refine d_fn (hci _) ?_ | refine d_fn (hva _) ?_ | refine d_fn (hbr _) ?_ | refine d_fn (hst _) ?_ | refine d_fn (hrv _) ?_ | refine d_fn (hrb _) ?_ | refine d_fn (hbi _) ?_ | refine d_fn (hbj _) ?_ | refine d_fn (hre _) ?_ | refine d_fnQ (fun _ => lawake_c _) ?_ | refine d_fnQ (fun _ => hli _) ?_ | refine d_fnQ (fun _ => hcp _) ?_ | refine d_fnQ (fun _ => hci _) ?_ | refine d_fnQ (fun _ => hva _) ?_ | refine d_fnQ (fun _ => hbr _) ?_ | refine d_fnQ (fun _ => hst _) ?_ | refine d_fnQ (fun _ => hrv _) ?_ | refine d_fnQ (fun _ => hrb _) ?_ | refine d_fnQ (fun _ => hbi _) ?_ | refine d_fnQ (fun _ => hbj _) ?_ | refine d_fnQ (fun _ => hre _) ?_) <;> try first | omega | assumption) | (refine g_d ?_; (first | refine d_fnY (lawake_c _) ?_ | refine d_fnY (hli _) ?_ | refine d_fnY (hcp _) ?_ | refine d_fnY (hci _) ?_ | refine d_fnY (hva _) ?_ | refine d_fnY (hbr _) ?_ | refine d_fnY (hst _) ?_ | refine d_fnY (hrv _) ?_ | refine d_fnY (hrb _) ?_ | refine d_fnY (hbi _) ?_ | refine d_fnY (hbj _) ?_ | refine d_fnY (hre _) ?_) <;> try first | omega | assumption)))
  all_goals (try (exfalso; first | omega | contradiction))
  refine WA_whileK (σ := Nat) [2, 5, 10] (fun i => [.ptr (lend m).length 0 0, .lst VL, .int .i64 i]) (fun _ => [.cells .own 25 2 [[.lst (mssV b.ms), .lst (adsV b.ads)]]]) 1 (fun i => i ≤ b.ms.length) (fun i => b.ms.length - i) 0 (Nat.zero_le _) tv_ rfl (fun _ => rfl) (by intro s s' _ _; simp [conB, conS, V.keeps, V.plain, Blk.flat, flatL, plainL, V.flat]) (by intro s s' _ _; simp [conB, conS, V.keeps, V.plain, Blk.flat, flatL, plainL, V.flat]) ?_
  rintro i hi1 K hK
  simp only [zipT]
  clear FX hvg hre
  rcases Nat.lt_or_ge i b.ms.length with hi | hi
  · have hvg := hgv i hi
    have hre := fun m => gReach_ok b hb h1 i hi m
    unfold bnV at hre
    have hm := hmd i
    have hvp : valP b l i = valK b l i b.ads.length := rfl
    rw [← hvp] at hm
    generalize valP b l i = vi at *
    generalize rcL b i b.ads.length = lo at *
    generalize rcH b i b.ads.length = hi' at *
    (have FX := And.intro hln (And.intro hvl hvg); repeat' (first | (refine sx ?_ ?_ <;> intro h <;> first | (exfalso; omega) | skip) | (refine g_op ?_; refine g_call ?_; refine g_args ?_; (first | refine s_fn (lawake_c _) ?_ | refine s_fn (hli _) ?_ | refine s_fn (hcp _) ?_ | refine s_fn (hci _) ?_ | refine s_fn (hva _) ?_ | refine s_fn (hbr _) ?_ | refine s_fn (hst _) ?_ | refine s_fn (hrv _) ?_ | refine s_fn (hrb _) ?_ | refine s_fn (hbi _) ?_ | refine s_fn (hbj _) ?_ | refine s_fn (hre _) ?_) <;> try first | omega | assumption) | refine ny ?_ | refine WA_block ?_ | (refine uR3_6_16 ?_; refine ⟨by kernel_rfl, ?_⟩) | ((first | refine grp_cons (fun _ => lawake_c _) ?_ | refine grp_cons (fun _ => hli _) ?_ | refine grp_cons (fun _ => hcp _) ?_ | refine grp_cons (fun _ => hci _) ?_ | refine grp_cons (fun _ => hva _) ?_ | refine grp_cons (fun _ => hbr _) ?_ | refine grp_cons (fun _ => hst _) ?_ | refine grp_cons (fun _ => hrv _) ?_ | refine grp_cons (fun _ => hrb _) ?_ | refine grp_cons (fun _ => hbi _) ?_ | refine grp_cons (fun _ => hbj _) ?_ | refine grp_cons (fun _ => hre _) ?_) <;> try first | omega | assumption) | (refine g_d ?_; refine d_args ?_; (first | refine d_fn (lawake_c _) ?_ | refine d_fn (hli _) ?_ | refine d_fn (hcp _) ?_ | refine d_fn (hci _) ?_ | refine d_fn (hva _) ?_ | refine d_fn (hbr _) ?_ | refine d_fn (hst _) ?_ | refine d_fn (hrv _) ?_ | refine d_fn (hrb _) ?_ | refine d_fn (hbi _) ?_ | refine d_fn (hbj _) ?_ | refine d_fn (hre _) ?_ | refine d_fnQ (fun _ => lawake_c _) ?_ | refine d_fnQ (fun _ => hli _) ?_ | refine d_fnQ (fun _ => hcp _) ?_ | refine d_fnQ (fun _ => hci _) ?_ | refine d_fnQ (fun _ => hva _) ?_ | refine d_fnQ (fun _ => hbr _) ?_ | refine d_fnQ (fun _ => hst _) ?_ | refine d_fnQ (fun _ => hrv _) ?_ | refine d_fnQ (fun _ => hrb _) ?_ | refine d_fnQ (fun _ => hbi _) ?_ | refine d_fnQ (fun _ => hbj _) ?_ | refine d_fnQ (fun _ => hre _) ?_) <;> try first | omega | assumption) | (refine g_d ?_; (first | refine d_fnY (lawake_c _) ?_ | refine d_fnY (hli _) ?_ | refine d_fnY (hcp _) ?_ | refine d_fnY (hci _) ?_ | refine d_fnY (hva _) ?_ | refine d_fnY (hbr _) ?_ | refine d_fnY (hst _) ?_ | refine d_fnY (hrv _) ?_ | refine d_fnY (hrb _) ?_ | refine d_fnY (hbi _) ?_ | refine d_fnY (hbj _) ?_ | refine d_fnY (hre _) ?_) <;> try first | omega | assumption)))
    all_goals (try (exfalso; omega))
    all_goals (refine nextL_ hK (i + 1) hi (by omega))
  · obtain rfl : i = b.ms.length := by omega
    have hvg := hln
    have hre := hln
    (have FX := And.intro hln (And.intro hvl hvg); repeat' (first | (refine sx ?_ ?_ <;> intro h <;> first | (exfalso; omega) | skip) | (refine g_op ?_; refine g_call ?_; refine g_args ?_; (first | refine s_fn (lawake_c _) ?_ | refine s_fn (hli _) ?_ | refine s_fn (hcp _) ?_ | refine s_fn (hci _) ?_ | refine s_fn (hva _) ?_ | refine s_fn (hbr _) ?_ | refine s_fn (hst _) ?_ | refine s_fn (hrv _) ?_ | refine s_fn (hrb _) ?_ | refine s_fn (hbi _) ?_ | refine s_fn (hbj _) ?_ | refine s_fn (hre _) ?_) <;> try first | omega | assumption) | refine ny ?_ | refine WA_block ?_ | (refine uR3_6_16 ?_; refine ⟨by kernel_rfl, ?_⟩) | ((first | refine grp_cons (fun _ => lawake_c _) ?_ | refine grp_cons (fun _ => hli _) ?_ | refine grp_cons (fun _ => hcp _) ?_ | refine grp_cons (fun _ => hci _) ?_ | refine grp_cons (fun _ => hva _) ?_ | refine grp_cons (fun _ => hbr _) ?_ | refine grp_cons (fun _ => hst _) ?_ | refine grp_cons (fun _ => hrv _) ?_ | refine grp_cons (fun _ => hrb _) ?_ | refine grp_cons (fun _ => hbi _) ?_ | refine grp_cons (fun _ => hbj _) ?_ | refine grp_cons (fun _ => hre _) ?_) <;> try first | omega | assumption) | (refine g_d ?_; refine d_args ?_; (first | refine d_fn (lawake_c _) ?_ | refine d_fn (hli _) ?_ | refine d_fn (hcp _) ?_ | refine d_fn (hci _) ?_ | refine d_fn (hva _) ?_ | refine d_fn (hbr _) ?_ | refine d_fn (hst _) ?_ | refine d_fn (hrv _) ?_ | refine d_fn (hrb _) ?_ | refine d_fn (hbi _) ?_ | refine d_fn (hbj _) ?_ | refine d_fn (hre _) ?_ | refine d_fnQ (fun _ => lawake_c _) ?_ | refine d_fnQ (fun _ => hli _) ?_ | refine d_fnQ (fun _ => hcp _) ?_ | refine d_fnQ (fun _ => hci _) ?_ | refine d_fnQ (fun _ => hva _) ?_ | refine d_fnQ (fun _ => hbr _) ?_ | refine d_fnQ (fun _ => hst _) ?_ | refine d_fnQ (fun _ => hrv _) ?_ | refine d_fnQ (fun _ => hrb _) ?_ | refine d_fnQ (fun _ => hbi _) ?_ | refine d_fnQ (fun _ => hbj _) ?_ | refine d_fnQ (fun _ => hre _) ?_) <;> try first | omega | assumption) | (refine g_d ?_; (first | refine d_fnY (lawake_c _) ?_ | refine d_fnY (hli _) ?_ | refine d_fnY (hcp _) ?_ | refine d_fnY (hci _) ?_ | refine d_fnY (hva _) ?_ | refine d_fnY (hbr _) ?_ | refine d_fnY (hst _) ?_ | refine d_fnY (hrv _) ?_ | refine d_fnY (hrb _) ?_ | refine d_fnY (hbi _) ?_ | refine d_fnY (hbj _) ?_ | refine d_fnY (hre _) ?_) <;> try first | omega | assumption)))
    all_goals (try (exfalso; omega))
    all_goals (refine r_es hQ ?_; try with_reducible rfl)
theorem values_law (b : BnR) (l : List Int) (m : Mem) : Gives Try.prog 6 [.agg (bnV b), .lst (nsV l)] m (.bool true) := by
  by_cases h : light b ∧ ¬ 20 < (l.length : Int)
  · by_cases h0 : bsErr b l = 0
    · exact values_ok b l h.1 h.2 h0 m
    · exact values_bad b l h.1 h.2 h0 m
  · exact values_out b l h m
end Go.Proofs.Ytaoakololkcepaa
