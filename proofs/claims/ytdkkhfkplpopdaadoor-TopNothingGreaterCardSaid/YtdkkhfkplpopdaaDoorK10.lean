/- the law TopNothingGreater, over contracts -/
import Derived.Test.YtdkkhfkplpopdaaDoorK8
set_option linter.unusedSimpArgs false
set_option linter.unusedVariables false
namespace Go.Proofs.YtdkkhfkplpopdaaDoor
open Go.RowKit
attribute [local irreducible] WA WOs WDs WAn qThen qBlock tput
set_option maxHeartbeats 1000000
set_option maxRecDepth 20000
set_option linter.unusedSimpArgs false
set_option linter.unusedVariables false
theorem biV_bd (n : Nat) : ∀ l : List BI, (∀ b ∈ l, biE (n : Int) b = 0) → ∃ k : List BdR, biV l = bdV k ∧ k.length = l.length ∧ (∀ b ∈ k, b.from_ < n ∧ b.to < n ∧ -1000000000 ≤ b.most ∧ b.most ≤ 1000000000)
  | [], _ => ⟨[], rfl, rfl, fun b h => by cases h⟩
  | b :: r, h => by
    obtain ⟨k, h1, h2, h3⟩ := biV_bd n r fun c hc => h c (List.mem_cons_of_mem _ hc)
    have hb := h b List.mem_cons_self
    unfold biE at hb
    split at hb
    · rename_i hc
      split at hb
      · rename_i hm
        obtain ⟨f, hf⟩ := Int.eq_ofNat_of_zero_le hc.1.1
        obtain ⟨t, ht⟩ := Int.eq_ofNat_of_zero_le hc.2.1
        refine ⟨⟨f, t, b.m⟩ :: k, ?_, by simp [h2], fun c hc2 => ?_⟩
        · show _ :: biV r = _ :: bdV k
          rw [h1]
          dsimp only
          rw [hf, ht]
        · rcases List.mem_cons.1 hc2 with rfl | hc2
          · exact ⟨by show f < n; omega, by show t < n; omega, hm⟩
          · exact h3 c hc2
      · cases hb
    · cases hb
theorem bd_mem {l : List BdR} {k : Nat} (h : k < l.length) : l.getD k bd0 ∈ l := by
  rw [List.getD_eq_getElem?_getD, List.getElem?_eq_getElem h]
  exact List.getElem_mem h
theorem uK10_4_14 {N : Nat} {l : List Oper} {t : List (Nat × V)} {m : Mem} {Q : Exit → List (Nat × V) → Mem → Prop} (h : RgN Tryd.prog N l t m Q (fun i => if i == 5 || i == 7 || i == 13 || i == 15 || i == 21 then .q else .p) [.one 0, .one 1, .one 2, .one 3, .one 4, .one 5, .one 6, .one 7, .one 8, .one 9, .one 10, .one 11, .one 12, .one 13, .one 14, .one 15, .one 16, .one 17, .one 18, .one 19, .one 20, .one 21, .one 22]) : WA Tryd.prog N (.region 14 l.toArray true) t m Q := d_rgN h
theorem uK10_4_23 {N : Nat} {l : List Oper} {t : List (Nat × V)} {m : Mem} {Q : Exit → List (Nat × V) → Mem → Prop} (h : RgN Tryd.prog N l t m Q (fun i => if i == 3 || i == 7 then .q else .p) [.one 0, .one 1, .one 2, .one 3, .one 4, .one 5, .one 6, .one 7, .one 8]) : WA Tryd.prog N (.region 23 l.toArray true) t m Q := d_rgN h
theorem nothing_out (l : List BI) (x c : List Int) (hout : ¬ (l.length ≤ 30 ∧ c.length ≤ 60 ∧ syE (x.length : Int) l = 0)) (M : Mem) : Gives Tryd.prog 4 [.lst (biV l), .lst (nsV x), .lst (nsV c)] M (.bool true) := by
  have hl1 := biV_length (l := l)
  have hl2 := nsV_length (l := x)
  have hl3 := nsV_length (l := c)
  refine Gives_in Tryd.func4 rfl Tryd.ntmps4 Tryd.results4 (by kernel_rfl) (by simp) rfl fun Q hQ => ?_
  (have FX := And.intro hl1 (And.intro hl2 hl3); repeat' (first | (refine sx ?_ ?_ <;> intro h <;> first | (exfalso; omega) | skip) | (refine g_op ?_; refine g_call ?_; refine g_args ?_; (first | refine s_fn (tcounts_c _) ?_ | refine s_fn (qsystem_c _ _ _) ?_) <;> try first | omega | assumption) | refine ny ?_ | refine WA_block ?_ | (refine uK10_4_14 ?_; refine ⟨by kernel_rfl, ?_⟩) | (refine uK10_4_23 ?_; refine ⟨by kernel_rfl, ?_⟩) | ((first | refine grp_cons (fun _ => tcounts_c _) ?_ | refine grp_cons (fun _ => qsystem_c _ _ _) ?_) <;> try first | omega | assumption) | (refine g_d ?_; refine d_args ?_; (first | refine d_fn (tcounts_c _) ?_ | refine d_fn (qsystem_c _ _ _) ?_ | refine d_fnQ (fun _ => tcounts_c _) ?_ | refine d_fnQ (fun _ => qsystem_c _ _ _) ?_) <;> try first | omega | assumption) | (refine g_d ?_; (first | refine d_fnY (tcounts_c _) ?_ | refine d_fnY (qsystem_c _ _ _) ?_) <;> try first | omega | assumption)))
  all_goals (try (exfalso; exact hout ⟨by omega, by omega, by first | assumption | omega⟩))
  all_goals (refine r_es hQ ?_; try with_reducible rfl)
theorem nothing_in (n : Nat) (l : List BdR) (h1 : 1 ≤ n) (h2 : n ≤ 60) (h3 : l.length ≤ 30) (ho : okBs n l) (hm : mosts l) (x c : List Int) (hx : x.length = n) (hc : c.length ≤ 60) (hsy : ∀ m, Gives Tryd.prog 11 [.int .i64 n, .lst (bdV l)] m (.int .i64 0)) (M : Mem) : Gives Tryd.prog 4 [.lst (bdV l), .lst (nsV x), .lst (nsV c)] M (.bool true) := by
  have hl1 := bdV_length (l := l)
  have hl2 : (nsV x).length = n := by rw [nsV_length, hx]
  have hl3 := nsV_length (l := c)
  have hg1 := hl1
  have hg2 := hl1
  have hg3 := hl1
  have hbb := hl1
  have hly := hl1
  refine Gives_in Tryd.func4 rfl Tryd.ntmps4 Tryd.results4 (by kernel_rfl) (by simp) rfl fun Q hQ => ?_
  (have FX := And.intro hl1 (And.intro hl2 (And.intro hl3 (And.intro hg1 (And.intro hg2 (And.intro hg3 (And.intro hbb hly)))))); repeat' (first | (refine sx ?_ ?_ <;> intro h <;> first | (exfalso; omega) | skip) | (refine g_op ?_; refine g_call ?_; refine g_args ?_; (first | refine s_fn (tcounts_c _) ?_ | refine s_fn (hsy _) ?_ | refine s_fn (bwithin_c _ _ _ _) ?_ | refine s_fn (hso _) ?_ | refine s_fn (hci _) ?_) <;> try first | omega | assumption) | refine ny ?_ | refine WA_block ?_ | (refine uK10_4_14 ?_; refine ⟨by kernel_rfl, ?_⟩) | (refine uK10_4_23 ?_; refine ⟨by kernel_rfl, ?_⟩) | ((first | refine grp_cons (fun _ => tcounts_c _) ?_ | refine grp_cons (fun _ => hsy _) ?_ | refine grp_cons (fun _ => bwithin_c _ _ _ _) ?_ | refine grp_cons (fun _ => hso _) ?_ | refine grp_cons (fun _ => hci _) ?_) <;> try first | omega | assumption) | (refine g_d ?_; refine d_args ?_; (first | refine d_fn (tcounts_c _) ?_ | refine d_fn (hsy _) ?_ | refine d_fn (bwithin_c _ _ _ _) ?_ | refine d_fn (hso _) ?_ | refine d_fn (hci _) ?_ | refine d_fnQ (fun _ => tcounts_c _) ?_ | refine d_fnQ (fun _ => hsy _) ?_ | refine d_fnQ (fun _ => bwithin_c _ _ _ _) ?_ | refine d_fnQ (fun _ => hso _) ?_ | refine d_fnQ (fun _ => hci _) ?_) <;> try first | omega | assumption) | (refine g_d ?_; (first | refine d_fnY (tcounts_c _) ?_ | refine d_fnY (hsy _) ?_ | refine d_fnY (bwithin_c _ _ _ _) ?_ | refine d_fnY (hso _) ?_ | refine d_fnY (hci _) ?_) <;> try first | omega | assumption)))
  all_goals (try (exfalso; omega))
  refine WA_while (σ := Nat) [0, 1, 2, 7, 8] (fun i => [.lst (bdV l), .lst (nsV x), .lst (nsV c), .int .i64 n, .int .i64 i]) (fun _ => lend M ++ []) (fun i => i ≤ n ∧ ∀ j, j < i → -1000000000 ≤ x.getD j 0 ∧ x.getD j 0 ≤ 0) (fun i => n - i) 0 ⟨Nat.zero_le _, fun j h => absurd h (Nat.not_lt_zero _)⟩ tv_ rfl ?_
  rintro i ⟨hi, hj⟩ L hL
  simp only [zipT]
  clear FX hg1 hg2 hg3 hbb hly
  rcases Nat.lt_or_ge i n with hlt | hge
  · have hg1 := nsV_get (l := x) (i := i) (by omega)
    have hg2 := hl1
    have hg3 := hl1
    have hbb := hl1
    have hly := hl1
    have hnx : -1000000000 ≤ x.getD i 0 ∧ x.getD i 0 ≤ 0 → ∀ j, j < i + 1 → -1000000000 ≤ x.getD j 0 ∧ x.getD j 0 ≤ 0 := fun h j hj2 => by
      rcases Nat.lt_or_ge j i with q | q
      · exact hj j q
      · obtain rfl : j = i := by omega
        exact h
    generalize x.getD i 0 = xi at *
    (have FX := And.intro hl1 (And.intro hl2 (And.intro hl3 (And.intro hg1 (And.intro hg2 (And.intro hg3 (And.intro hbb hly)))))); repeat' (first | (refine sx ?_ ?_ <;> intro h <;> first | (exfalso; omega) | skip) | (refine g_op ?_; refine g_call ?_; refine g_args ?_; (first | refine s_fn (tcounts_c _) ?_ | refine s_fn (hsy _) ?_ | refine s_fn (bwithin_c _ _ _ _) ?_ | refine s_fn (hso _) ?_ | refine s_fn (hci _) ?_) <;> try first | omega | assumption) | refine ny ?_ | refine WA_block ?_ | (refine uK10_4_14 ?_; refine ⟨by kernel_rfl, ?_⟩) | (refine uK10_4_23 ?_; refine ⟨by kernel_rfl, ?_⟩) | ((first | refine grp_cons (fun _ => tcounts_c _) ?_ | refine grp_cons (fun _ => hsy _) ?_ | refine grp_cons (fun _ => bwithin_c _ _ _ _) ?_ | refine grp_cons (fun _ => hso _) ?_ | refine grp_cons (fun _ => hci _) ?_) <;> try first | omega | assumption) | (refine g_d ?_; refine d_args ?_; (first | refine d_fn (tcounts_c _) ?_ | refine d_fn (hsy _) ?_ | refine d_fn (bwithin_c _ _ _ _) ?_ | refine d_fn (hso _) ?_ | refine d_fn (hci _) ?_ | refine d_fnQ (fun _ => tcounts_c _) ?_ | refine d_fnQ (fun _ => hsy _) ?_ | refine d_fnQ (fun _ => bwithin_c _ _ _ _) ?_ | refine d_fnQ (fun _ => hso _) ?_ | refine d_fnQ (fun _ => hci _) ?_) <;> try first | omega | assumption) | (refine g_d ?_; (first | refine d_fnY (tcounts_c _) ?_ | refine d_fnY (hsy _) ?_ | refine d_fnY (bwithin_c _ _ _ _) ?_ | refine d_fnY (hso _) ?_ | refine d_fnY (hci _) ?_) <;> try first | omega | assumption)))
    all_goals (try (exfalso; omega))
    · exact next_ hL (i + 1) ⟨by omega, hnx (by omega)⟩ (by omega)
    · (refine r_es hQ ?_; try with_reducible rfl)
  · obtain rfl : i = n := by omega
    have hg1 := hl1
    have hg2 := hl1
    have hg3 := hl1
    have hbb := hl1
    have hly := hl1
    have hxb := hj
    (have FX := And.intro hl1 (And.intro hl2 (And.intro hl3 (And.intro hg1 (And.intro hg2 (And.intro hg3 (And.intro hbb hly)))))); repeat' (first | (refine sx ?_ ?_ <;> intro h <;> first | (exfalso; omega) | skip) | (refine g_op ?_; refine g_call ?_; refine g_args ?_; (first | refine s_fn (tcounts_c _) ?_ | refine s_fn (hsy _) ?_ | refine s_fn (bwithin_c _ _ _ _) ?_ | refine s_fn (hso _) ?_ | refine s_fn (hci _) ?_) <;> try first | omega | assumption) | refine ny ?_ | refine WA_block ?_ | (refine uK10_4_14 ?_; refine ⟨by kernel_rfl, ?_⟩) | (refine uK10_4_23 ?_; refine ⟨by kernel_rfl, ?_⟩) | ((first | refine grp_cons (fun _ => tcounts_c _) ?_ | refine grp_cons (fun _ => hsy _) ?_ | refine grp_cons (fun _ => bwithin_c _ _ _ _) ?_ | refine grp_cons (fun _ => hso _) ?_ | refine grp_cons (fun _ => hci _) ?_) <;> try first | omega | assumption) | (refine g_d ?_; refine d_args ?_; (first | refine d_fn (tcounts_c _) ?_ | refine d_fn (hsy _) ?_ | refine d_fn (bwithin_c _ _ _ _) ?_ | refine d_fn (hso _) ?_ | refine d_fn (hci _) ?_ | refine d_fnQ (fun _ => tcounts_c _) ?_ | refine d_fnQ (fun _ => hsy _) ?_ | refine d_fnQ (fun _ => bwithin_c _ _ _ _) ?_ | refine d_fnQ (fun _ => hso _) ?_ | refine d_fnQ (fun _ => hci _) ?_) <;> try first | omega | assumption) | (refine g_d ?_; (first | refine d_fnY (tcounts_c _) ?_ | refine d_fnY (hsy _) ?_ | refine d_fnY (bwithin_c _ _ _ _) ?_ | refine d_fnY (hso _) ?_ | refine d_fnY (hci _) ?_) <;> try first | omega | assumption)))
    all_goals (try (exfalso; omega))
    clear hL FX hg1 hg2 hg3 hbb hly hj hi
    refine WA_while (σ := Nat) [0, 1, 2, 7, 9] (fun k => [.lst (bdV l), .lst (nsV x), .lst (nsV c), .int .i64 i, .int .i64 k]) (fun _ => lend M ++ []) (fun k => k ≤ l.length ∧ ∀ j, j < k → x.getD (l.getD j bd0).to 0 - x.getD (l.getD j bd0).from_ 0 ≤ (l.getD j bd0).most) (fun k => l.length - k) 0 ⟨Nat.zero_le _, fun j h => absurd h (Nat.not_lt_zero _)⟩ tv_ rfl ?_
    rintro k ⟨hk, hj⟩ L hL
    simp only [zipT]
    rcases Nat.lt_or_ge k l.length with hlt | hge
    · have hok := ho k hlt
      have hg1 := bdV_get hlt
      have hg2 := nsV_get (l := x) (i := (l.getD k bd0).to) (by omega)
      have hg3 := nsV_get (l := x) (i := (l.getD k bd0).from_) (by omega)
      have hbb := hok
      have hly := And.intro (hm k hlt) (And.intro (hxb _ hok.1) (hxb _ hok.2))
      have hnx : x.getD (l.getD k bd0).to 0 - x.getD (l.getD k bd0).from_ 0 ≤ (l.getD k bd0).most → ∀ j, j < k + 1 → x.getD (l.getD j bd0).to 0 - x.getD (l.getD j bd0).from_ 0 ≤ (l.getD j bd0).most := fun h j hj2 => by
        rcases Nat.lt_or_ge j k with q | q
        · exact hj j q
        · obtain rfl : j = k := by omega
          exact h
      generalize l.getD k bd0 = b at *
      generalize x.getD b.to 0 = xt at *
      generalize x.getD b.from_ 0 = xf at *
      (have FX := And.intro hl1 (And.intro hl2 (And.intro hl3 (And.intro hg1 (And.intro hg2 (And.intro hg3 (And.intro hbb hly)))))); repeat' (first | (refine sx ?_ ?_ <;> intro h <;> first | (exfalso; omega) | skip) | (refine g_op ?_; refine g_call ?_; refine g_args ?_; (first | refine s_fn (tcounts_c _) ?_ | refine s_fn (hsy _) ?_ | refine s_fn (bwithin_c _ _ _ _) ?_ | refine s_fn (hso _) ?_ | refine s_fn (hci _) ?_) <;> try first | omega | assumption) | refine ny ?_ | refine WA_block ?_ | (refine uK10_4_14 ?_; refine ⟨by kernel_rfl, ?_⟩) | (refine uK10_4_23 ?_; refine ⟨by kernel_rfl, ?_⟩) | ((first | refine grp_cons (fun _ => tcounts_c _) ?_ | refine grp_cons (fun _ => hsy _) ?_ | refine grp_cons (fun _ => bwithin_c _ _ _ _) ?_ | refine grp_cons (fun _ => hso _) ?_ | refine grp_cons (fun _ => hci _) ?_) <;> try first | omega | assumption) | (refine g_d ?_; refine d_args ?_; (first | refine d_fn (tcounts_c _) ?_ | refine d_fn (hsy _) ?_ | refine d_fn (bwithin_c _ _ _ _) ?_ | refine d_fn (hso _) ?_ | refine d_fn (hci _) ?_ | refine d_fnQ (fun _ => tcounts_c _) ?_ | refine d_fnQ (fun _ => hsy _) ?_ | refine d_fnQ (fun _ => bwithin_c _ _ _ _) ?_ | refine d_fnQ (fun _ => hso _) ?_ | refine d_fnQ (fun _ => hci _) ?_) <;> try first | omega | assumption) | (refine g_d ?_; (first | refine d_fnY (tcounts_c _) ?_ | refine d_fnY (hsy _) ?_ | refine d_fnY (bwithin_c _ _ _ _) ?_ | refine d_fnY (hso _) ?_ | refine d_fnY (hci _) ?_) <;> try first | omega | assumption)))
      all_goals (try (exfalso; omega))
      · (refine r_es hQ ?_; try with_reducible rfl)
      · exact next_ hL (k + 1) ⟨by omega, hnx (by omega)⟩ (by omega)
    · obtain rfl : k = l.length := by omega
      have hz : keepB l x := hj
      have hso := fun m => nsolve_c i l h1 h2 (by omega) ho hm x hz m
      have hci := fun m => ncircle_c i l h1 h2 (by omega) ho hm x hz c (by omega) m
      have hcn := ccE_ne l c
      have hle := slvR_keep hz hx (fun v => by
        rcases Nat.lt_or_ge v i with q | q
        · exact (hxb v q).2
        · rw [List.getD_eq_getElem?_getD, List.getElem?_eq_none (by omega)]; exact Int.le_refl _) (i - 1)
      have hyl := slvR_len l i (i - 1)
      generalize slvR l i (i - 1) = y at *
      generalize ccE l c = ce at *
      have hly : (nsV y).length = i := by rw [nsV_length, hyl]
      have hg1 := hl1
      have hg2 := hl1
      have hg3 := hl1
      have hbb := hl1
      clear hL hj
      (have FX := And.intro hl1 (And.intro hl2 (And.intro hl3 (And.intro hg1 (And.intro hg2 (And.intro hg3 (And.intro hbb hly)))))); repeat' (first | (refine sx ?_ ?_ <;> intro h <;> first | (exfalso; omega) | skip) | (refine g_op ?_; refine g_call ?_; refine g_args ?_; (first | refine s_fn (tcounts_c _) ?_ | refine s_fn (hsy _) ?_ | refine s_fn (bwithin_c _ _ _ _) ?_ | refine s_fn (hso _) ?_ | refine s_fn (hci _) ?_) <;> try first | omega | assumption) | refine ny ?_ | refine WA_block ?_ | (refine uK10_4_14 ?_; refine ⟨by kernel_rfl, ?_⟩) | (refine uK10_4_23 ?_; refine ⟨by kernel_rfl, ?_⟩) | ((first | refine grp_cons (fun _ => tcounts_c _) ?_ | refine grp_cons (fun _ => hsy _) ?_ | refine grp_cons (fun _ => bwithin_c _ _ _ _) ?_ | refine grp_cons (fun _ => hso _) ?_ | refine grp_cons (fun _ => hci _) ?_) <;> try first | omega | assumption) | (refine g_d ?_; refine d_args ?_; (first | refine d_fn (tcounts_c _) ?_ | refine d_fn (hsy _) ?_ | refine d_fn (bwithin_c _ _ _ _) ?_ | refine d_fn (hso _) ?_ | refine d_fn (hci _) ?_ | refine d_fnQ (fun _ => tcounts_c _) ?_ | refine d_fnQ (fun _ => hsy _) ?_ | refine d_fnQ (fun _ => bwithin_c _ _ _ _) ?_ | refine d_fnQ (fun _ => hso _) ?_ | refine d_fnQ (fun _ => hci _) ?_) <;> try first | omega | assumption) | (refine g_d ?_; (first | refine d_fnY (tcounts_c _) ?_ | refine d_fnY (hsy _) ?_ | refine d_fnY (bwithin_c _ _ _ _) ?_ | refine d_fnY (hso _) ?_ | refine d_fnY (hci _) ?_) <;> try first | omega | assumption)))
      all_goals (try (exfalso; omega))
      refine WA_while (σ := Nat) [1, 7, 10, 15] (fun k => [.lst (nsV x), .int .i64 i, .lst (nsV y), .int .i64 k]) (fun _ => lend M ++ []) (fun k => k ≤ i) (fun k => i - k) 0 (Nat.zero_le _) tv_ rfl ?_
      rintro k hk L hL
      simp only [zipT]
      clear FX hg1 hg2
      rcases Nat.lt_or_ge k i with hlt | hge
      · have hg1 := nsV_get (l := x) (i := k) (by omega)
        have hg2 := nsV_get (l := y) (i := k) (by omega)
        have hlk := hle k
        generalize x.getD k 0 = xk at *
        generalize y.getD k 0 = yk at *
        (have FX := And.intro hl1 (And.intro hl2 (And.intro hl3 (And.intro hg1 (And.intro hg2 (And.intro hg3 (And.intro hbb hly)))))); repeat' (first | (refine sx ?_ ?_ <;> intro h <;> first | (exfalso; omega) | skip) | (refine g_op ?_; refine g_call ?_; refine g_args ?_; (first | refine s_fn (tcounts_c _) ?_ | refine s_fn (hsy _) ?_ | refine s_fn (bwithin_c _ _ _ _) ?_ | refine s_fn (hso _) ?_ | refine s_fn (hci _) ?_) <;> try first | omega | assumption) | refine ny ?_ | refine WA_block ?_ | (refine uK10_4_14 ?_; refine ⟨by kernel_rfl, ?_⟩) | (refine uK10_4_23 ?_; refine ⟨by kernel_rfl, ?_⟩) | ((first | refine grp_cons (fun _ => tcounts_c _) ?_ | refine grp_cons (fun _ => hsy _) ?_ | refine grp_cons (fun _ => bwithin_c _ _ _ _) ?_ | refine grp_cons (fun _ => hso _) ?_ | refine grp_cons (fun _ => hci _) ?_) <;> try first | omega | assumption) | (refine g_d ?_; refine d_args ?_; (first | refine d_fn (tcounts_c _) ?_ | refine d_fn (hsy _) ?_ | refine d_fn (bwithin_c _ _ _ _) ?_ | refine d_fn (hso _) ?_ | refine d_fn (hci _) ?_ | refine d_fnQ (fun _ => tcounts_c _) ?_ | refine d_fnQ (fun _ => hsy _) ?_ | refine d_fnQ (fun _ => bwithin_c _ _ _ _) ?_ | refine d_fnQ (fun _ => hso _) ?_ | refine d_fnQ (fun _ => hci _) ?_) <;> try first | omega | assumption) | (refine g_d ?_; (first | refine d_fnY (tcounts_c _) ?_ | refine d_fnY (hsy _) ?_ | refine d_fnY (bwithin_c _ _ _ _) ?_ | refine d_fnY (hso _) ?_ | refine d_fnY (hci _) ?_) <;> try first | omega | assumption)))
        all_goals (try (exfalso; omega))
        exact next_ hL (k + 1) (by omega) (by omega)
      · have hg1 := hl1
        have hg2 := hl1
        (have FX := And.intro hl1 (And.intro hl2 (And.intro hl3 (And.intro hg1 (And.intro hg2 (And.intro hg3 (And.intro hbb hly)))))); repeat' (first | (refine sx ?_ ?_ <;> intro h <;> first | (exfalso; omega) | skip) | (refine g_op ?_; refine g_call ?_; refine g_args ?_; (first | refine s_fn (tcounts_c _) ?_ | refine s_fn (hsy _) ?_ | refine s_fn (bwithin_c _ _ _ _) ?_ | refine s_fn (hso _) ?_ | refine s_fn (hci _) ?_) <;> try first | omega | assumption) | refine ny ?_ | refine WA_block ?_ | (refine uK10_4_14 ?_; refine ⟨by kernel_rfl, ?_⟩) | (refine uK10_4_23 ?_; refine ⟨by kernel_rfl, ?_⟩) | ((first | refine grp_cons (fun _ => tcounts_c _) ?_ | refine grp_cons (fun _ => hsy _) ?_ | refine grp_cons (fun _ => bwithin_c _ _ _ _) ?_ | refine grp_cons (fun _ => hso _) ?_ | refine grp_cons (fun _ => hci _) ?_) <;> try first | omega | assumption) | (refine g_d ?_; refine d_args ?_; (first | refine d_fn (tcounts_c _) ?_ | refine d_fn (hsy _) ?_ | refine d_fn (bwithin_c _ _ _ _) ?_ | refine d_fn (hso _) ?_ | refine d_fn (hci _) ?_ | refine d_fnQ (fun _ => tcounts_c _) ?_ | refine d_fnQ (fun _ => hsy _) ?_ | refine d_fnQ (fun _ => bwithin_c _ _ _ _) ?_ | refine d_fnQ (fun _ => hso _) ?_ | refine d_fnQ (fun _ => hci _) ?_) <;> try first | omega | assumption) | (refine g_d ?_; (first | refine d_fnY (tcounts_c _) ?_ | refine d_fnY (hsy _) ?_ | refine d_fnY (bwithin_c _ _ _ _) ?_ | refine d_fnY (hso _) ?_ | refine d_fnY (hci _) ?_) <;> try first | omega | assumption)))
        all_goals (try (exfalso; omega))
        (refine r_es hQ ?_; try with_reducible rfl)
theorem nothing_law (l : List BI) (x c : List Int) (M : Mem) : Gives Tryd.prog 4 [.lst (biV l), .lst (nsV x), .lst (nsV c)] M (.bool true) := by
  by_cases h : l.length ≤ 30 ∧ c.length ≤ 60 ∧ syE (x.length : Int) l = 0
  · obtain ⟨h1, h2, h3⟩ := h
    have hsy := fun m => qsystem_c (x.length : Int) l m
    rw [h3] at hsy
    unfold syE at h3
    split at h3
    · rename_i hn
      split at h3
      · cases h3
      · obtain ⟨k, e1, e2, e3⟩ := biV_bd x.length l (fsE_0 h3)
        rw [e1] at hsy ⊢
        exact nothing_in x.length k (by omega) (by omega) (by omega) (fun j hj => ⟨(e3 _ (bd_mem hj)).1, (e3 _ (bd_mem hj)).2.1⟩) (fun j hj => (e3 _ (bd_mem hj)).2.2) x c rfl h2 hsy M
    · cases h3
  · exact nothing_out l x c h M
end Go.Proofs.YtdkkhfkplpopdaaDoor
