/- contract: the reference's check of an adjustment -/
import Derived.Test.YtaoakololkcepaaB12
set_option linter.unusedSimpArgs false
set_option linter.unusedVariables false
namespace Go.Proofs.Ytaoakololkcepaa
open Go.RowKit
attribute [local irreducible] WA WOs WDs WAn qThen qBlock tput
set_option maxHeartbeats 1000000
set_option maxRecDepth 20000
set_option linter.unusedSimpArgs false
set_option linter.unusedVariables false
set_option maxHeartbeats 4000000
theorem uB22_77_16 {N : Nat} {l : List Oper} {t : List (Nat × V)} {m : Mem} {Q : Exit → List (Nat × V) → Mem → Prop} (h : RgN Try.prog N l t m Q (fun i => if i == 1 || i == 3 || i == 6 || i == 7 then .q else .p) [.one 0, .one 1, .one 2, .one 3, .one 4, .one 5, .one 6, .one 7, .one 8]) : WA Try.prog N (.region 16 l.toArray true) t m Q := d_rgN h
theorem uB22_77_18 {N : Nat} {l : List Oper} {t : List (Nat × V)} {m : Mem} {Q : Exit → List (Nat × V) → Mem → Prop} (h : RgN Try.prog N l t m Q (fun i => if i == 1 || i == 5 || i == 8 || i == 9 then .q else .p) [.one 0, .one 1, .one 2, .one 3, .one 4, .one 5, .one 6, .one 7, .one 8, .one 9]) : WA Try.prog N (.region 18 l.toArray true) t m Q := d_rgN h
theorem rcheckadj_c (mm : List MsR) (ads : List AdR) (hb1 : mm.length ≤ 1000) (hb2 : ads.length ≤ 1000) (i : Nat) (hi : i < ads.length) (he : (ads.getD i adz).effs.length ≤ 1000) (haf : (ads.getD i adz).after.length ≤ 1000) (m : Mem) : Gives Try.prog 77 [.agg [.lst (mssV mm), .lst (adsV ads)], .int .i64 i] m (.int .i64 (adErr mm ads i)) := by
  have hla := adsV_length (l := ads)
  have hgk := adsV_get hi
  have hef := fun m => rcheckeffects_c mm ads (ads.getD i adz).effs hb1 he m
  have hfi : fdx (isA (ads.getD i adz).name) ads < i ↔ 0 ≤ fdx (isA (ads.getD i adz).name) (ads.take i) := by
    have h1 := (fdx_in (f := isA (ads.getD i adz).name) (d := adz) hi (decide_eq_true rfl)).1
    rw [fdx_take (d := adz) (by omega)]
    omega
  have hlf := tsV_length (l := (ads.getD i adz).after)
  have hga := hla
  have hti := hla
  have hsl := hla
  have hal := hla
  have hht := hla
  unfold adErr
  generalize ads.getD i adz = x at *
  obtain ⟨nm, ef, le, mo, pa, af⟩ := x
  unfold adV at hgk
  dsimp only at hgk hef hfi hlf he haf ⊢
  generalize efErr mm ef = ee at *
  generalize fdx (isA nm) (ads.take i) = ft at *
  refine Gives_in Try.func77 rfl Try.ntmps77 Try.results77 (by kernel_rfl) (by simp) rfl fun Q hQ => ?_
  (have FX := And.intro hla (And.intro hlf (And.intro hgk (And.intro hga (And.intro hti (And.intro hsl hal))))); repeat' (first | (refine sx ?_ ?_ <;> intro h <;> first | (exfalso; omega) | skip) | (refine g_op ?_; refine g_call ?_; refine g_args ?_; (first | refine s_fn (bisname_c _ _) ?_ | refine s_fn (radjustmentat_c ads _ hb2 _) ?_ | refine s_fn (hef _) ?_ | refine s_fn (bwithin_c _ _ _ _) ?_ | refine s_fn (hht _) ?_) <;> try first | omega | assumption) | refine ny ?_ | refine WA_block ?_ | (refine uB22_77_16 ?_; refine ⟨by kernel_rfl, ?_⟩) | (refine uB22_77_18 ?_; refine ⟨by kernel_rfl, ?_⟩) | ((first | refine grp_cons (fun _ => bisname_c _ _) ?_ | refine grp_cons (fun _ => radjustmentat_c ads _ hb2 _) ?_ | refine grp_cons (fun _ => hef _) ?_ | refine grp_cons (fun _ => bwithin_c _ _ _ _) ?_ | refine grp_cons (fun _ => hht _) ?_) <;> try first | omega | assumption) | (refine g_d ?_; refine d_args ?_; (first | refine d_fn (bisname_c _ _) ?_ | refine d_fn (radjustmentat_c ads _ hb2 _) ?_ | refine d_fn (hef _) ?_ | refine d_fn (bwithin_c _ _ _ _) ?_ | refine d_fn (hht _) ?_ | refine d_fnQ (fun _ => bisname_c _ _) ?_ | refine d_fnQ (fun _ => radjustmentat_c ads _ hb2 _) ?_ | refine d_fnQ (fun _ => hef _) ?_ | refine d_fnQ (fun _ => bwithin_c _ _ _ _) ?_ | refine d_fnQ (fun _ => hht _) ?_) <;> try first | omega | assumption) | (refine g_d ?_; (first | refine d_fnY (bisname_c _ _) ?_ | refine d_fnY (radjustmentat_c ads _ hb2 _) ?_ | refine d_fnY (hef _) ?_ | refine d_fnY (bwithin_c _ _ _ _) ?_ | refine d_fnY (hht _) ?_) <;> try first | omega | assumption)))
  all_goals (try (exfalso; omega))
  all_goals try
    ((refine r_es hQ ?_; try with_reducible rfl)
     refine congrArg (V.int .i64) ?_
     first
       | (rw [if_pos (by assumption)]; done)
       | (rw [if_neg (by simpa using (by assumption : nameP nm)), if_pos (by omega)]; done)
       | (rw [if_neg (by simpa using (by assumption : nameP nm)), if_neg (by omega), if_pos (by omega)]; done)
       | (rw [if_neg (by simpa using (by assumption : nameP nm)), if_neg (by omega), if_neg (by omega), if_pos (by omega)]; done)
       | (rw [if_neg (by simpa using (by assumption : nameP nm)), if_neg (by omega), if_neg (by omega), if_neg (by omega)]; unfold afErr; rw [if_pos (by omega)]; done))
  have hl12 : af.length ≤ 12 := by omega
  rw [if_neg (by simpa using (by assumption : nameP nm)), if_neg (by omega), if_neg (by omega), if_neg (by omega)] at hQ
  unfold afErr at hQ
  rw [if_neg (by omega)] at hQ
  refine WA_while (σ := Nat) [2, 5, 7] (fun k => [.ptr (lend m).length 0 0, .ptr ((lend m).length + 1) 0 0, .int .i64 k]) (fun _ => lend m ++ [.cells .own 25 2 [[.lst (mssV mm), .lst (adsV ads)]], .cells .own 98 6 [[.str nm, .lst (efsV ef), .int .i64 le, .int .i64 mo, .int .i64 pa, .lst (tsV af)]]]) (fun k => k ≤ af.length ∧ ∀ j, j < k → afErrAt ads af j = 0) (fun k => af.length - k) 0 ⟨Nat.zero_le _, fun j h => absurd h (Nat.not_lt_zero _)⟩ tv_ rfl ?_
  rintro k ⟨hk1, hk2⟩ K hK
  simp only [zipT]
  clear FX hgk hga hti hsl hal hht hef hfi
  have hgk := hla
  have hef := hla
  rcases Nat.lt_or_ge k af.length with hk | hk
  · have hga := tsV_get hk
    have hti : ((k : Int) - ((0 : Nat) : Int)).toNat = k := by omega
    have hsl := tsV_take af k
    have hal := fun n h => tsV_all (l := af) (n := n) h
    have hht := fun m => bhastext_c (af.take k) (af.getD k []) (by rw [List.length_take]; omega) m
    have hat : afErrAt ads af k = if fdx (isA (af.getD k [])) ads < 0 then 6 else if 0 ≤ fdx (isT (af.getD k [])) (af.take k) then 5 else 0 := rfl
    generalize af.getD k [] = s at *
    (have FX := And.intro hla (And.intro hlf (And.intro hgk (And.intro hga (And.intro hti (And.intro hsl hal))))); repeat' (first | (refine sx ?_ ?_ <;> intro h <;> first | (exfalso; omega) | skip) | (refine g_op ?_; refine g_call ?_; refine g_args ?_; (first | refine s_fn (bisname_c _ _) ?_ | refine s_fn (radjustmentat_c ads _ hb2 _) ?_ | refine s_fn (hef _) ?_ | refine s_fn (bwithin_c _ _ _ _) ?_ | refine s_fn (hht _) ?_) <;> try first | omega | assumption) | refine ny ?_ | refine WA_block ?_ | (refine uB22_77_16 ?_; refine ⟨by kernel_rfl, ?_⟩) | (refine uB22_77_18 ?_; refine ⟨by kernel_rfl, ?_⟩) | ((first | refine grp_cons (fun _ => bisname_c _ _) ?_ | refine grp_cons (fun _ => radjustmentat_c ads _ hb2 _) ?_ | refine grp_cons (fun _ => hef _) ?_ | refine grp_cons (fun _ => bwithin_c _ _ _ _) ?_ | refine grp_cons (fun _ => hht _) ?_) <;> try first | omega | assumption) | (refine g_d ?_; refine d_args ?_; (first | refine d_fn (bisname_c _ _) ?_ | refine d_fn (radjustmentat_c ads _ hb2 _) ?_ | refine d_fn (hef _) ?_ | refine d_fn (bwithin_c _ _ _ _) ?_ | refine d_fn (hht _) ?_ | refine d_fnQ (fun _ => bisname_c _ _) ?_ | refine d_fnQ (fun _ => radjustmentat_c ads _ hb2 _) ?_ | refine d_fnQ (fun _ => hef _) ?_ | refine d_fnQ (fun _ => bwithin_c _ _ _ _) ?_ | refine d_fnQ (fun _ => hht _) ?_) <;> try first | omega | assumption) | (refine g_d ?_; (first | refine d_fnY (bisname_c _ _) ?_ | refine d_fnY (radjustmentat_c ads _ hb2 _) ?_ | refine d_fnY (hef _) ?_ | refine d_fnY (bwithin_c _ _ _ _) ?_ | refine d_fnY (hht _) ?_) <;> try first | omega | assumption)))
    all_goals (try (exfalso; omega))
    all_goals try
      ((refine r_es hQ ?_; try with_reducible rfl)
       refine congrArg (V.int .i64) (fE_is hk hk2 (hat.trans ?_) (by decide)).symm
       first | (rw [if_pos (by omega)]; done) | (rw [if_neg (by omega), if_pos (by assumption)]; done))
    all_goals (refine next_ hK (k + 1) ⟨hk, up_zero hk2 (hat.trans (by rw [if_neg (by omega), if_neg (by assumption)]))⟩ (by omega))
  · obtain rfl : k = af.length := by omega
    have hga := hla
    have hti := hla
    have hsl := hla
    have hal := hla
    have hht := hla
    (have FX := And.intro hla (And.intro hlf (And.intro hgk (And.intro hga (And.intro hti (And.intro hsl hal))))); repeat' (first | (refine sx ?_ ?_ <;> intro h <;> first | (exfalso; omega) | skip) | (refine g_op ?_; refine g_call ?_; refine g_args ?_; (first | refine s_fn (bisname_c _ _) ?_ | refine s_fn (radjustmentat_c ads _ hb2 _) ?_ | refine s_fn (hef _) ?_ | refine s_fn (bwithin_c _ _ _ _) ?_ | refine s_fn (hht _) ?_) <;> try first | omega | assumption) | refine ny ?_ | refine WA_block ?_ | (refine uB22_77_16 ?_; refine ⟨by kernel_rfl, ?_⟩) | (refine uB22_77_18 ?_; refine ⟨by kernel_rfl, ?_⟩) | ((first | refine grp_cons (fun _ => bisname_c _ _) ?_ | refine grp_cons (fun _ => radjustmentat_c ads _ hb2 _) ?_ | refine grp_cons (fun _ => hef _) ?_ | refine grp_cons (fun _ => bwithin_c _ _ _ _) ?_ | refine grp_cons (fun _ => hht _) ?_) <;> try first | omega | assumption) | (refine g_d ?_; refine d_args ?_; (first | refine d_fn (bisname_c _ _) ?_ | refine d_fn (radjustmentat_c ads _ hb2 _) ?_ | refine d_fn (hef _) ?_ | refine d_fn (bwithin_c _ _ _ _) ?_ | refine d_fn (hht _) ?_ | refine d_fnQ (fun _ => bisname_c _ _) ?_ | refine d_fnQ (fun _ => radjustmentat_c ads _ hb2 _) ?_ | refine d_fnQ (fun _ => hef _) ?_ | refine d_fnQ (fun _ => bwithin_c _ _ _ _) ?_ | refine d_fnQ (fun _ => hht _) ?_) <;> try first | omega | assumption) | (refine g_d ?_; (first | refine d_fnY (bisname_c _ _) ?_ | refine d_fnY (radjustmentat_c ads _ hb2 _) ?_ | refine d_fnY (hef _) ?_ | refine d_fnY (bwithin_c _ _ _ _) ?_ | refine d_fnY (hht _) ?_) <;> try first | omega | assumption)))
    all_goals (try (exfalso; omega))
    all_goals ((refine r_es hQ ?_; try with_reducible rfl))
    all_goals (exact congrArg (V.int .i64) (fE_zero.2 hk2).symm)
end Go.Proofs.Ytaoakololkcepaa
