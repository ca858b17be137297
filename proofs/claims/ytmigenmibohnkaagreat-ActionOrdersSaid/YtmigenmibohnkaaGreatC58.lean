/- contract: orders of events, in the reference -/
import Derived.Test.YtmigenmibohnkaaGreatC57
import Derived.Test.YtmigenmibohnkaaGreatC18
set_option linter.unusedSimpArgs false
set_option linter.unusedVariables false
namespace Go.Proofs.YtmigenmibohnkaaGreat
open Go.RowKit
attribute [local irreducible] WA WOs WDs WAn qThen qBlock tput
set_option maxHeartbeats 1000000
set_option maxRecDepth 20000
set_option linter.unusedSimpArgs false
set_option linter.unusedVariables false
attribute [local irreducible] smB cut sm
theorem uC58_58_6 {N : Nat} {l : List Oper} {t : List (Nat × V)} {m : Mem} {Q : Exit → List (Nat × V) → Mem → Prop} (h : RgN Tryz.prog N l t m Q (fun i => if i == 0 || i == 4 || i == 5 then .q else .p) [.one 0, .one 1, .one 2, .one 3, .one 4, .one 5, .one 6]) : WA Tryz.prog N (.region 6 l.toArray true) t m Q := d_rgN h
theorem uC58_58_8 {N : Nat} {l : List Oper} {t : List (Nat × V)} {m : Mem} {Q : Exit → List (Nat × V) → Mem → Prop} (h : RgN Tryz.prog N l t m Q (fun i => if i == 6 || i == 7 then .q else .p) [.one 0, .one 1, .one 2, .one 3, .one 4, .one 5, .one 6, .one 7]) : WA Tryz.prog N (.region 8 l.toArray true) t m Q := d_rgN h
theorem uC58_58_16 {N : Nat} {l : List Oper} {t : List (Nat × V)} {m : Mem} {Q : Exit → List (Nat × V) → Mem → Prop} (h : RgN Tryz.prog N l t m Q (fun i => if i == 12 then .f else if i == 11 then .a else if i == 0 || i == 1 || i == 5 || i == 6 || i == 7 then .q else .p) [.one 0, .one 1, .one 2, .one 3, .one 4, .one 5, .one 6, .one 7, .one 8, .one 9, .one 10, .one 11, .one 12, .one 13]) : WA Tryz.prog N (.region 16 l.toArray true) t m Q := d_rgN h
theorem rcheckorder_c (a : ActR) (ha : Lt a) (hac : acErr a = 0) (o : Nms) (g : Int) (hol : o.length ≤ 1000) (m : Mem) : Gives Tryz.prog 58 [.agg (actV a), .lst (txV o), .int .i64 g] m (odV a o g) := by
  have hlo := txV_length (o := o)
  have hgo := hlo
  have hal := hlo
  · have hx0 := hac
    unfold actV
    by_cases h20 : 20 < o.length
    · rw [odV_big h20]
      have hgo := h20
      refine Gives_in Tryz.func58 rfl Tryz.ntmps58 Tryz.results58 (by kernel_rfl) (by simp) rfl fun Q hQ => ?_
      (have FX := And.intro hlo (And.intro hx0 (And.intro hgo hal)); repeat' (first | (refine sx ?_ ?_ <;> intro h <;> first | (exfalso; omega) | skip) | refine ny ?_ | refine WA_block ?_ | (refine uC58_58_6 ?_; refine ⟨by kernel_rfl, ?_⟩) | (refine uC58_58_8 ?_; refine ⟨by kernel_rfl, ?_⟩) | (refine uC58_58_16 ?_; refine ⟨by kernel_rfl, ?_⟩)))
      all_goals (try (exfalso; omega))
      all_goals (refine r_es hQ ?_; try with_reducible rfl)
    · refine Gives_in Tryz.func58 rfl Tryz.ntmps58 Tryz.results58 (by kernel_rfl) (by simp) rfl fun Q hQ => ?_
      (have FX := And.intro hlo (And.intro hx0 (And.intro hgo hal)); repeat' (first | (refine sx ?_ ?_ <;> intro h <;> first | (exfalso; omega) | skip) | refine ny ?_ | refine WA_block ?_ | (refine uC58_58_6 ?_; refine ⟨by kernel_rfl, ?_⟩) | (refine uC58_58_8 ?_; refine ⟨by kernel_rfl, ?_⟩) | (refine uC58_58_16 ?_; refine ⟨by kernel_rfl, ?_⟩)))
      all_goals (try (exfalso; omega))
      refine WA_whileK (σ := Nat) [1, 2, 3, 8] (fun i => [.lst (txV o), .int .i64 g, .ptr (lend m).length 0 0, .int .i64 i]) (fun _ => [actB a]) 1 (fun i => i ≤ o.length ∧ ∀ j, j < i → onErrAt a o j = 0) (fun i => o.length - i) 0 ⟨Nat.zero_le _, fun j h => absurd h (Nat.not_lt_zero _)⟩ tv_ rfl (fun _ => rfl) (by intro s s' _ _; simp [conB, conS, V.keeps, V.plain, Blk.flat, flatL, V.flat]) (by intro s s' _ _; simp [conB, conS, V.keeps, V.plain, Blk.flat, flatL, V.flat]) ?_
      rintro i ⟨hi1, hi2⟩ K hK
      simp only [zipT]
      clear FX hgo hal
      rcases Nat.lt_or_ge i o.length with hi | hi
      · have hgo := And.intro (txV_get hi) (show ((i : Int) - ((0 : Nat) : Int)).toNat = i by omega)
        have hal := And.intro (fun n h => txV_o1 (o := o) (n := n) h) (txV_take o i)
        have hfe : ∀ m, Gives Tryz.prog 39 [.agg (actV a), .str (nmAt o i)] m (.int .i64 (fidx (isE (nmAt o i)) a.evs)) := fun m => reventnumber_c a (nmAt o i) m ha.ne
        unfold actV at hfe
        have hco := fun m => bhastext_c (o.take i) (nmAt o i) (by rw [List.length_take]; omega) m
        have hat : onErrAt a o i = if fidx (isE (nmAt o i)) a.evs < 0 then 6 else if nmAt o i ∈ o.take i then 5 else 0 := rfl
        have hfd := fun e h1 he => odV_on (g := g) h20 hi hi2 (e := e) h1 he
        generalize fidx (isE (nmAt o i)) a.evs = fi at *
        (have FX := And.intro hlo (And.intro hx0 (And.intro hgo hal)); repeat' (first | (refine sx ?_ ?_ <;> intro h <;> first | (exfalso; omega) | skip) | (refine g_op ?_; refine g_call ?_; refine g_args ?_; (first | refine s_fn (hfe _) ?_ | refine s_fn (hco _) ?_) <;> try first | omega | assumption) | refine ny ?_ | refine WA_block ?_ | (refine uC58_58_6 ?_; refine ⟨by kernel_rfl, ?_⟩) | (refine uC58_58_8 ?_; refine ⟨by kernel_rfl, ?_⟩) | (refine uC58_58_16 ?_; refine ⟨by kernel_rfl, ?_⟩) | ((first | refine grp_cons (fun _ => hfe _) ?_ | refine grp_cons (fun _ => hco _) ?_) <;> try first | omega | assumption) | (refine g_d ?_; refine d_args ?_; (first | refine d_fn (hfe _) ?_ | refine d_fn (hco _) ?_ | refine d_fnQ (fun _ => hfe _) ?_ | refine d_fnQ (fun _ => hco _) ?_) <;> try first | omega | assumption) | (refine g_d ?_; (first | refine d_fnY (hfe _) ?_ | refine d_fnY (hco _) ?_) <;> try first | omega | assumption)))
        all_goals (try (exfalso; omega))
        all_goals try
          ((refine r_es hQ ?_; try with_reducible rfl)
           exact (hfd _ (by rw [hat]; (repeat (first | rw [if_pos (by first | assumption | omega | grind)] | rw [if_neg (by first | assumption | omega | grind)]))) (by decide)).symm)
        all_goals (refine nextL_ hK (i + 1) ⟨hi, ext_zero hi2 (by rw [hat]; (repeat (first | rw [if_pos (by first | assumption | omega | grind)] | rw [if_neg (by first | assumption | omega | grind)])))⟩ (by omega))
      · have hie : i = o.length := by omega
        subst hie
        have hgo := hlo
        have hal := hlo
        by_cases hg : 0 ≤ g ∧ g ≤ 2000
        · have hx0 := And.intro hac hg
          (have FX := And.intro hlo (And.intro hx0 (And.intro hgo hal)); repeat' (first | (refine sx ?_ ?_ <;> intro h <;> first | (exfalso; omega) | skip) | (refine g_op ?_; refine g_call ?_; refine g_args ?_; (first | refine s_fn (bwithin_c _ _ _ _) ?_) <;> try first | omega | assumption) | refine ny ?_ | refine WA_block ?_ | (refine uC58_58_6 ?_; refine ⟨by kernel_rfl, ?_⟩) | (refine uC58_58_8 ?_; refine ⟨by kernel_rfl, ?_⟩) | (refine uC58_58_16 ?_; refine ⟨by kernel_rfl, ?_⟩) | ((first | refine grp_cons (fun _ => bwithin_c _ _ _ _) ?_) <;> try first | omega | assumption) | (refine g_d ?_; refine d_args ?_; (first | refine d_fn (bwithin_c _ _ _ _) ?_ | refine d_fnQ (fun _ => bwithin_c _ _ _ _) ?_) <;> try first | omega | assumption) | (refine g_d ?_; (first | refine d_fnY (bwithin_c _ _ _ _) ?_) <;> try first | omega | assumption)))
          all_goals (try (exfalso; omega))
          clear FX hK
          refine WA_whileK (σ := Nat) [1, 2, 3, 9, 10] (fun i => [.lst (txV o), .int .i64 g, .ptr (lend m).length 0 0, .ptr ((lend m).length + 1) 0 0, .int .i64 i]) (fun i => [actB a, .cells .own 26 2 [bfV a o i]]) 2 (fun i => i ≤ o.length ∧ ∀ j, j < i → odErrAt a o g j = 0) (fun i => o.length - i) 0 ⟨Nat.zero_le _, fun j h => absurd h (Nat.not_lt_zero _)⟩ tv_ rfl (fun _ => rfl) (by intro s s' _ _; simp [conB, conS, V.keeps, V.plain, Blk.flat, flatL, V.flat]) (by intro s s' _ _; simp only [conB]; refine ⟨.inr trivial, .inl ?_, trivial⟩; cases s' <;> simp [bfV, Blk.flat, flatL, V.flat]) ?_
          rintro i ⟨hj1, hj2⟩ K hK
          simp only [zipT]
          clear hgo hal
          rcases Nat.lt_or_ge i o.length with hi | hi
          · have hgo := txV_get hi
            have hen := onE_zero (hi2 i hi)
            obtain ⟨w1, w2, _⟩ := enI_ok hen
            have hfe : ∀ m, Gives Tryz.prog 39 [.agg (actV a), .str (nmAt o i)] m (.int .i64 (enI a (nmAt o i))) := fun m => reventnumber_c a (nmAt o i) m ha.ne
            rw [w1] at hfe
            unfold actV at hfe
            have hdo := fun m => reventat_c a ha hac (enN a (nmAt o i)) w2 m
            have hfd := fun e h1 he => odV_od h20 hi2 hg hi hj2 (e := e) h1 he
            have hnx := hK (i + 1)
            have hal := hx0
            unfold actV at hdo
            rcases evtP_code a (enN a (nmAt o i)) with ⟨x, hx⟩ | hx | hx
            · obtain ⟨u1, u2⟩ := odE_some (g := g) hx
              obtain ⟨y1, _, y2, _⟩ := evtP_sm hac w2 hx
              rw [hx] at hdo
              simp only [rchV, frO] at hdo
              have e0 : bfV a o (i + 1) = [.int .i64 x.num, .int .i64 (x.den : Int)] := by simp only [bfV]; rw [u2]
              rw [e0] at hnx
              have hny := fun (_ : Unit) => hnx
              cases i with
              | zero =>
                simp only [bfV]
                (have FX := And.intro hlo (And.intro hx0 (And.intro hgo hal)); repeat' (first | (refine sx ?_ ?_ <;> intro h <;> first | (exfalso; omega) | skip) | (refine g_op ?_; refine g_call ?_; refine g_args ?_; (first | refine s_fn (hfe _) ?_ | refine s_fn (hdo _) ?_) <;> try first | omega | assumption) | refine ny ?_ | refine WA_block ?_ | (refine uC58_58_6 ?_; refine ⟨by kernel_rfl, ?_⟩) | (refine uC58_58_8 ?_; refine ⟨by kernel_rfl, ?_⟩) | (refine uC58_58_16 ?_; refine ⟨by kernel_rfl, ?_⟩) | ((first | refine grp_cons (fun _ => hfe _) ?_ | refine grp_cons (fun _ => hdo _) ?_) <;> try first | omega | assumption) | (refine g_d ?_; refine d_args ?_; (first | refine d_fn (hfe _) ?_ | refine d_fn (hdo _) ?_ | refine d_fnQ (fun _ => hfe _) ?_ | refine d_fnQ (fun _ => hdo _) ?_) <;> try first | omega | assumption) | (refine g_d ?_; (first | refine d_fnY (hfe _) ?_ | refine d_fnY (hdo _) ?_) <;> try first | omega | assumption)))
                all_goals (try (exfalso; omega))
                all_goals (refine nextL_ hny () ⟨hi, ext_zero hj2 (by rw [u1, if_neg (by omega)])⟩ (by omega))
              | succ k =>
                have hpv := odE_prev (hj2 k (by omega))
                obtain ⟨z1, _, z2, _⟩ := evtP_sm hac (enI_ok (onE_zero (hi2 k (by omega)))).2.1 hpv
                have htn := fun m => rless_c x (odDip a o k) g y1 z1 y2 z2 hg m
                simp only [bfV]
                rw [Nat.add_sub_cancel] at u1
                cases ht : tn x (odDip a o k) g with
                | true =>
                  rw [ht] at htn
                  have hd9 := hfd 9 (by rw [u1, if_pos ⟨by omega, ht⟩]) (by decide)
                  (have FX := And.intro hlo (And.intro hx0 (And.intro hgo hal)); repeat' (first | (refine sx ?_ ?_ <;> intro h <;> first | (exfalso; omega) | skip) | (refine g_op ?_; refine g_call ?_; refine g_args ?_; (first | refine s_fn (hfe _) ?_ | refine s_fn (hdo _) ?_ | refine s_fn (htn _) ?_) <;> try first | omega | assumption) | refine ny ?_ | refine WA_block ?_ | (refine uC58_58_6 ?_; refine ⟨by kernel_rfl, ?_⟩) | (refine uC58_58_8 ?_; refine ⟨by kernel_rfl, ?_⟩) | (refine uC58_58_16 ?_; refine ⟨by kernel_rfl, ?_⟩) | ((first | refine grp_cons (fun _ => hfe _) ?_ | refine grp_cons (fun _ => hdo _) ?_ | refine grp_cons (fun _ => htn _) ?_) <;> try first | omega | assumption) | (refine g_d ?_; refine d_args ?_; (first | refine d_fn (hfe _) ?_ | refine d_fn (hdo _) ?_ | refine d_fn (htn _) ?_ | refine d_fnQ (fun _ => hfe _) ?_ | refine d_fnQ (fun _ => hdo _) ?_ | refine d_fnQ (fun _ => htn _) ?_) <;> try first | omega | assumption) | (refine g_d ?_; (first | refine d_fnY (hfe _) ?_ | refine d_fnY (hdo _) ?_ | refine d_fnY (htn _) ?_) <;> try first | omega | assumption)))
                  all_goals (try (exfalso; omega))
                  all_goals ((refine r_es hQ ?_; try with_reducible rfl))
                  all_goals exact hd9.symm
                | false =>
                  rw [ht] at htn
                  (have FX := And.intro hlo (And.intro hx0 (And.intro hgo hal)); repeat' (first | (refine sx ?_ ?_ <;> intro h <;> first | (exfalso; omega) | skip) | (refine g_op ?_; refine g_call ?_; refine g_args ?_; (first | refine s_fn (hfe _) ?_ | refine s_fn (hdo _) ?_ | refine s_fn (htn _) ?_) <;> try first | omega | assumption) | refine ny ?_ | refine WA_block ?_ | (refine uC58_58_6 ?_; refine ⟨by kernel_rfl, ?_⟩) | (refine uC58_58_8 ?_; refine ⟨by kernel_rfl, ?_⟩) | (refine uC58_58_16 ?_; refine ⟨by kernel_rfl, ?_⟩) | ((first | refine grp_cons (fun _ => hfe _) ?_ | refine grp_cons (fun _ => hdo _) ?_ | refine grp_cons (fun _ => htn _) ?_) <;> try first | omega | assumption) | (refine g_d ?_; refine d_args ?_; (first | refine d_fn (hfe _) ?_ | refine d_fn (hdo _) ?_ | refine d_fn (htn _) ?_ | refine d_fnQ (fun _ => hfe _) ?_ | refine d_fnQ (fun _ => hdo _) ?_ | refine d_fnQ (fun _ => htn _) ?_) <;> try first | omega | assumption) | (refine g_d ?_; (first | refine d_fnY (hfe _) ?_ | refine d_fnY (hdo _) ?_ | refine d_fnY (htn _) ?_) <;> try first | omega | assumption)))
                  all_goals (try (exfalso; omega))
                  all_goals (refine nextL_ hny () ⟨hi, ext_zero hj2 (by rw [u1, if_neg (by rw [ht]; simp)])⟩ (by omega))
            · have hd9 := hfd 8 (odE_none hx) (by decide)
              rw [hx] at hdo
              simp only [rchV, frO] at hdo
              (have FX := And.intro hlo (And.intro hx0 (And.intro hgo hal)); repeat' (first | (refine sx ?_ ?_ <;> intro h <;> first | (exfalso; omega) | skip) | (refine g_op ?_; refine g_call ?_; refine g_args ?_; (first | refine s_fn (hfe _) ?_ | refine s_fn (hdo _) ?_) <;> try first | omega | assumption) | refine ny ?_ | refine WA_block ?_ | (refine uC58_58_6 ?_; refine ⟨by kernel_rfl, ?_⟩) | (refine uC58_58_8 ?_; refine ⟨by kernel_rfl, ?_⟩) | (refine uC58_58_16 ?_; refine ⟨by kernel_rfl, ?_⟩) | ((first | refine grp_cons (fun _ => hfe _) ?_ | refine grp_cons (fun _ => hdo _) ?_) <;> try first | omega | assumption) | (refine g_d ?_; refine d_args ?_; (first | refine d_fn (hfe _) ?_ | refine d_fn (hdo _) ?_ | refine d_fnQ (fun _ => hfe _) ?_ | refine d_fnQ (fun _ => hdo _) ?_) <;> try first | omega | assumption) | (refine g_d ?_; (first | refine d_fnY (hfe _) ?_ | refine d_fnY (hdo _) ?_) <;> try first | omega | assumption)))
              all_goals (try (exfalso; omega))
              all_goals ((refine r_es hQ ?_; try with_reducible rfl))
              all_goals exact hd9.symm
            · have hd9 := hfd 12 (odE_none hx) (by decide)
              rw [hx] at hdo
              simp only [rchV, frO] at hdo
              (have FX := And.intro hlo (And.intro hx0 (And.intro hgo hal)); repeat' (first | (refine sx ?_ ?_ <;> intro h <;> first | (exfalso; omega) | skip) | (refine g_op ?_; refine g_call ?_; refine g_args ?_; (first | refine s_fn (hfe _) ?_ | refine s_fn (hdo _) ?_) <;> try first | omega | assumption) | refine ny ?_ | refine WA_block ?_ | (refine uC58_58_6 ?_; refine ⟨by kernel_rfl, ?_⟩) | (refine uC58_58_8 ?_; refine ⟨by kernel_rfl, ?_⟩) | (refine uC58_58_16 ?_; refine ⟨by kernel_rfl, ?_⟩) | ((first | refine grp_cons (fun _ => hfe _) ?_ | refine grp_cons (fun _ => hdo _) ?_) <;> try first | omega | assumption) | (refine g_d ?_; refine d_args ?_; (first | refine d_fn (hfe _) ?_ | refine d_fn (hdo _) ?_ | refine d_fnQ (fun _ => hfe _) ?_ | refine d_fnQ (fun _ => hdo _) ?_) <;> try first | omega | assumption) | (refine g_d ?_; (first | refine d_fnY (hfe _) ?_ | refine d_fnY (hdo _) ?_) <;> try first | omega | assumption)))
              all_goals (try (exfalso; omega))
              all_goals ((refine r_es hQ ?_; try with_reducible rfl))
              all_goals exact hd9.symm
          · have hie : i = o.length := by omega
            subst hie
            have hgo := hlo
            have hal := hlo
            have hd9 := odV_ok h20 hi2 hg hj2
            (have FX := And.intro hlo (And.intro hx0 (And.intro hgo hal)); repeat' (first | (refine sx ?_ ?_ <;> intro h <;> first | (exfalso; omega) | skip) | refine ny ?_ | refine WA_block ?_ | (refine uC58_58_6 ?_; refine ⟨by kernel_rfl, ?_⟩) | (refine uC58_58_8 ?_; refine ⟨by kernel_rfl, ?_⟩) | (refine uC58_58_16 ?_; refine ⟨by kernel_rfl, ?_⟩)))
            all_goals (try (exfalso; omega))
            all_goals ((refine r_es hQ ?_; try with_reducible rfl))
            all_goals exact hd9.symm
        · have hd9 := odV_gap h20 hi2 hg
          have hx0 := And.intro hac hg
          (have FX := And.intro hlo (And.intro hx0 (And.intro hgo hal)); repeat' (first | (refine sx ?_ ?_ <;> intro h <;> first | (exfalso; omega) | skip) | (refine g_op ?_; refine g_call ?_; refine g_args ?_; (first | refine s_fn (bwithin_c _ _ _ _) ?_) <;> try first | omega | assumption) | refine ny ?_ | refine WA_block ?_ | (refine uC58_58_6 ?_; refine ⟨by kernel_rfl, ?_⟩) | (refine uC58_58_8 ?_; refine ⟨by kernel_rfl, ?_⟩) | (refine uC58_58_16 ?_; refine ⟨by kernel_rfl, ?_⟩) | ((first | refine grp_cons (fun _ => bwithin_c _ _ _ _) ?_) <;> try first | omega | assumption) | (refine g_d ?_; refine d_args ?_; (first | refine d_fn (bwithin_c _ _ _ _) ?_ | refine d_fnQ (fun _ => bwithin_c _ _ _ _) ?_) <;> try first | omega | assumption) | (refine g_d ?_; (first | refine d_fnY (bwithin_c _ _ _ _) ?_) <;> try first | omega | assumption)))
          all_goals (try (exfalso; omega))
          all_goals ((refine r_es hQ ?_; try with_reducible rfl))
          all_goals exact hd9.symm
end Go.Proofs.YtmigenmibohnkaaGreat
