/- contract: the bench behind steps, measures there -/
import Derived.Test.YtaoakololkcepaaB57
import Derived.Test.YtaoakololkcepaaYN
set_option linter.unusedSimpArgs false
set_option linter.unusedVariables false
namespace Go.Proofs.Ytaoakololkcepaa
open Go.RowKit
attribute [local irreducible] WA WOs WDs WAn qThen qBlock tput
set_option maxHeartbeats 1000000
set_option maxRecDepth 20000
set_option linter.unusedSimpArgs false
set_option linter.unusedVariables false
set_option maxHeartbeats 8000000
theorem uB58_29_8 {N : Nat} {l : List Oper} {t : List (Nat × V)} {m : Mem} {Q : Exit → List (Nat × V) → Mem → Prop} (h : RgN Try.prog N l t m Q (fun i => if i == 9 then .w else if i == 1 || i == 6 then .q else .p) [.one 0, .one 1, .one 2, .one 3, .one 4, .one 5, .one 6, .one 7, .one 8, .one 9]) : WA Try.prog N (.region 8 l.toArray true) t m Q := d_rgN h
theorem uB58_29_15 {N : Nat} {l : List Oper} {t : List (Nat × V)} {m : Mem} {Q : Exit → List (Nat × V) → Mem → Prop} (h : RgN Try.prog N l t m Q (fun i => if i == 7 || i == 9 then .w else if i == 2 || i == 5 then .a else if i == 1 || i == 4 then .q else .p) [.one 0, .one 1, .one 3, .one 4, .one 2, .one 6, .one 5, .one 7, .one 8, .one 9]) : WA Try.prog N (.region 15 l.toArray true) t m Q := d_rgN h
theorem uB58_29_16 {N : Nat} {l : List Oper} {t : List (Nat × V)} {m : Mem} {Q : Exit → List (Nat × V) → Mem → Prop} (h : RgT Try.prog N l t m Q 98 (fun i => if i == 15 || i == 17 then .f else if i == 1 || i == 8 then .a else if i == 5 || i == 12 then .q else .p) [.one 0, .one 2, .one 3, .one 4, .one 5, .one 7, .one 9, .one 10, .one 11, .one 12, .grp false [] [1, 8], .one 6, .one 13, .one 14, .one 15, .one 16, .one 17]) : WA Try.prog N (.region 16 l.toArray true) t m Q := d_rgT h
theorem gApply_cons (b : BnR) (hb : Bl b) (l : List Int) (h0 : bsErr b l = 0) (hms : b.ms ≠ []) (m : Mem) : Gives Try.prog 29 [.agg (bnV b), .lst (nsV l)] m (.tup [.agg (bnV (apR b l)), .int .i64 (apE b l)]) := by
  obtain ⟨h1, h2, hst⟩ : bnErr b = 0 ∧ stErr b.ads l = 0 ∧ stOk b.ads l := by
    unfold bsErr at h0
    by_cases h : bnErr b = 0
    · rw [if_neg (by omega)] at h0; exact ⟨h, h0, stErr_iff.1 h0⟩
    · rw [if_pos h] at h0; exact absurd h0 h
  have hk := bn_ok h1
  have hbd := bnd_ok hk
  have hfa := hbd.fa
  have hsb := steps_bd hbd hst.2
  have hlq := hst.1
  have hla := adsV_length (l := b.ads)
  have hlm := mssV_length (l := b.ms)
  have hln := nsV_length (l := l)
  have hga := hla
  have hgb := hla
  have hgs := hla
  have hgc := hla
  have hll := hla
  have hlt := hla
  have hle := hla
  have hlf := hla
  have hva := hla
  have hec := hla
  have htc := hla
  have hwi := fun m => gwith_ok b hb h1 l m
  rw [h2] at hwi
  obtain ⟨n, hn⟩ : ∃ n, b.ms.length = n + 1 := by
    cases hq : b.ms with
    | nil => exact absurd hq hms
    | cons a r => exact ⟨r.length, rfl⟩
  have hmc : ∀ m, CallA Try.prog 78 [.lst (mssV b.ms)] m fun v mo => v = .sl (m.length + 1) b.ms.length ∧ mo = some (m ++ [.dead, .cells .own 81 4 (mssV b.ms)]) := by
    intro m
    cases hq : b.ms with
    | nil => exact absurd hq hms
    | cons a r => exact mclone_o a r (by rw [hq] at hn; simp at hn; have := hbd.fm; rw [hq] at this; simp at this; omega) m
  suffices key : CallA Try.prog 29 [.agg (bnV b), .lst (nsV l)] m (fun v mo => mo = none ∧ WkV v (.tup [.agg (bnV (apR b l)), .int .i64 (apE b l)])) from Gives_of key fun v mo h => h
  unfold bnV at hwi ⊢
  refine CallA_in Try.func29 rfl Try.ntmps29 Try.results29 (by kernel_rfl) (by simp) fun Q hQ => ?_
  (have FX := And.intro hla (And.intro hlm (And.intro hln (And.intro hga (And.intro hgb (And.intro hgs (And.intro hgc (And.intro hll (And.intro hlt (And.intro hle hlf))))))))); repeat' (first | (refine sx ?_ ?_ <;> intro h <;> first | (exfalso; omega) | skip) | (refine g_op ?_; refine g_call ?_; refine g_args ?_; (first | refine s_fn (hwi _) ?_ | refine s_fn (hva _) ?_ | refine s_fn (gsmall_1 _ (by omega) _ _ _) ?_ | refine s_fn (gsmall_2 _ (by omega) _ _ _ _) ?_ | refine s_fn (hec _) ?_ | refine s_fn (htc _) ?_ | refine s_fnO (hmc _) ?_) <;> try first | omega | assumption) | refine ny ?_ | refine WA_block ?_ | (refine uB58_29_8 ?_; refine ⟨by kernel_rfl, ?_⟩) | (refine uB58_29_15 ?_; refine ⟨by kernel_rfl, ?_⟩) | (refine uB58_29_16 ?_; refine ⟨by kernel_rfl, ?_⟩) | ((first | refine grp_cons (fun _ => hwi _) ?_ | refine grp_cons (fun _ => hva _) ?_ | refine grp_cons (fun _ => gsmall_1 _ (by omega) _ _ _) ?_ | refine grp_cons (fun _ => gsmall_2 _ (by omega) _ _ _ _) ?_ | refine grp_cons (fun _ => hec _) ?_ | refine grp_cons (fun _ => htc _) ?_) <;> try first | omega | assumption) | (refine g_d ?_; refine d_args ?_; (first | refine d_fn (hwi _) ?_ | refine d_fn (hva _) ?_ | refine d_fn (gsmall_1 _ (by omega) _ _ _) ?_ | refine d_fn (gsmall_2 _ (by omega) _ _ _ _) ?_ | refine d_fn (hec _) ?_ | refine d_fn (htc _) ?_ | refine d_fnQ (fun _ => hwi _) ?_ | refine d_fnQ (fun _ => hva _) ?_ | refine d_fnQ (fun _ => gsmall_1 _ (by omega) _ _ _) ?_ | refine d_fnQ (fun _ => gsmall_2 _ (by omega) _ _ _ _) ?_ | refine d_fnQ (fun _ => hec _) ?_ | refine d_fnQ (fun _ => htc _) ?_) <;> try first | omega | assumption) | (refine g_d ?_; (first | refine d_fnY (hwi _) ?_ | refine d_fnY (hva _) ?_ | refine d_fnY (gsmall_1 _ (by omega) _ _ _) ?_ | refine d_fnY (gsmall_2 _ (by omega) _ _ _ _) ?_ | refine d_fnY (hec _) ?_ | refine d_fnY (htc _) ?_) <;> try first | omega | assumption)))
  all_goals (try (exfalso; omega))
  clear FX hwi hmc
  have hwi := hla
  have hmc := hla
  have hfm := hbd.fm
  refine WA_whileP (σ := Nat) (M := lend m) [1, 2, 4, 6, 8, 28, 29] (fun i => [.lst (nsV l), .ptr (lend m).length 0 0, .ptr ((lend m).length + 1) 0 0, .bp (bxC b) 0, .ptr ((lend m).length + 4) 0 0, .int .i64 b.ms.length, .int .i64 i]) (fun i => [.cells .own 25 2 [[.lst (mssV b.ms), .lst (adsV b.ads)]], .cells .own 25 2 [[.nilsl, .nilsl]], .dead, .cells .own 81 4 (mssV (mxM b l i)), .cells .own 25 2 [[.sl ((lend m).length + 3) b.ms.length, .nilsl]]]) 5 (fun i => i ≤ b.ms.length ∧ ∀ j, j < i → apMok b l j) (fun i => b.ms.length - i) 0 ⟨Nat.zero_le _, fun j h => absurd h (Nat.not_lt_zero _)⟩ tv_ (by rw [mxM_zero]) (fun _ => rfl) (by intro s s' _ _; simp [conB, conS, V.keeps, V.plain, Blk.flat, flatL, plainL, V.flat]) (fun _ _ _ _ => ⟨.inr rfl, .inr rfl, .inr rfl, .inl (by simp [Blk.flat, mssV, msV, plainL, V.plain]), .inr rfl, trivial⟩) ?_
  rintro i ⟨hi1, hi2⟩ K hK
  simp only [zipT]
  have hla := mssV_length (l := mxM b l i)
  rw [mxM_len] at hla
  rcases Nat.lt_or_ge i b.ms.length with hi | hi
  · have hlm := mssV_length (l := mxM b l (i + 1))
    rw [mxM_len] at hlm
    have hga := mssV_get (l := mxM b l i) (i := i) (by rw [mxM_len]; exact hi)
    have hgb := mssV_get (l := mxM b l (i + 1)) (i := i) (by rw [mxM_len]; exact hi)
    have hgs := congrArg mssV (mxM_set b l i)
    rw [mssV_set] at hgs
    rw [mxM_get hi] at hga
    rw [mxM_get1 hi] at hgb
    have hva := fun m => gvalue_c b hbd l hst.1 hsb i hi m
    have hvb := valP_bd hbd hi hsb
    have hbad : ¬ apMok b l i → apR b l = ⟨[], []⟩ ∧ apE b l = 2 := fun h => by
      have : ¬ apOk b l := fun g => h (g.1 i hi)
      unfold apR apE
      rw [if_neg this, if_neg this]; exact ⟨rfl, rfl⟩
    have hak : apMok b l i ↔ (-100000 ≤ valP b l i ∧ valP b l i ≤ 100000) := Iff.rfl
    have hap : msV (apM b l i) = [.str (b.ms.getD i msz).name, .int .i64 (valP b l i), .int .i64 (b.ms.getD i msz).low, .int .i64 (b.ms.getD i msz).high] := rfl
    rw [hap] at hgs hgb
    have hup := ext_all2 (p := fun j => apMok b l j) hi2
    rw [hak] at hup hbad
    clear hap hak
    have hgw : msV (b.ms.getD i msz) = [.str (b.ms.getD i msz).name, .int .i64 (b.ms.getD i msz).val, .int .i64 (b.ms.getD i msz).low, .int .i64 (b.ms.getD i msz).high] := rfl
    rw [hgw] at hga
    (have FX := And.intro hla (And.intro hlm (And.intro hln (And.intro hga (And.intro hgb (And.intro hgs (And.intro hgc (And.intro hll (And.intro hlt (And.intro hle hlf))))))))); repeat' first | (first | (refine sx ?_ ?_ <;> intro h <;> first | (exfalso; omega) | skip) | (refine g_op ?_; refine g_call ?_; refine g_args ?_; (first | refine s_fn (hwi _) ?_ | refine s_fn (hva _) ?_ | refine s_fn (gsmall_1 _ (by omega) _ _ _) ?_ | refine s_fn (gsmall_2 _ (by omega) _ _ _ _) ?_ | refine s_fn (hec _) ?_ | refine s_fn (htc _) ?_ | refine s_fnO (hmc _) ?_) <;> try first | omega | assumption) | refine ny ?_ | refine WA_block ?_ | (refine uB58_29_8 ?_; refine ⟨by kernel_rfl, ?_⟩) | (refine uB58_29_15 ?_; refine ⟨by kernel_rfl, ?_⟩) | (refine uB58_29_16 ?_; refine ⟨by kernel_rfl, ?_⟩) | ((first | refine grp_cons (fun _ => hwi _) ?_ | refine grp_cons (fun _ => hva _) ?_ | refine grp_cons (fun _ => gsmall_1 _ (by omega) _ _ _) ?_ | refine grp_cons (fun _ => gsmall_2 _ (by omega) _ _ _ _) ?_ | refine grp_cons (fun _ => hec _) ?_ | refine grp_cons (fun _ => htc _) ?_) <;> try first | omega | assumption) | (refine g_d ?_; refine d_args ?_; (first | refine d_fn (hwi _) ?_ | refine d_fn (hva _) ?_ | refine d_fn (gsmall_1 _ (by omega) _ _ _) ?_ | refine d_fn (gsmall_2 _ (by omega) _ _ _ _) ?_ | refine d_fn (hec _) ?_ | refine d_fn (htc _) ?_ | refine d_fnQ (fun _ => hwi _) ?_ | refine d_fnQ (fun _ => hva _) ?_ | refine d_fnQ (fun _ => gsmall_1 _ (by omega) _ _ _) ?_ | refine d_fnQ (fun _ => gsmall_2 _ (by omega) _ _ _ _) ?_ | refine d_fnQ (fun _ => hec _) ?_ | refine d_fnQ (fun _ => htc _) ?_) <;> try first | omega | assumption) | (refine g_d ?_; (first | refine d_fnY (hwi _) ?_ | refine d_fnY (hva _) ?_ | refine d_fnY (gsmall_1 _ (by omega) _ _ _) ?_ | refine d_fnY (gsmall_2 _ (by omega) _ _ _ _) ?_ | refine d_fnY (hec _) ?_ | refine d_fnY (htc _) ?_) <;> try first | omega | assumption)) | refine d_alt ?_ | refine wg_0 ?_ | refine wg_b ?_ | refine wg_c ?_ ?_ | refine wg_n ?_ | refine wm_cons ?_ ?_ | exact wm_nil | refine wg_op ?_)
    all_goals (try (exfalso; omega))
    all_goals first
      | (obtain ⟨e1, e2⟩ := hbad (by omega)
         refine r_esA hQ (.inl ⟨rfl, rfl, ?_⟩)
         rw [e1, e2]
         exact wk_tup ⟨wk_agg ⟨wk_nil, wk_nil, trivial⟩, WkV.refl _, trivial⟩)
      | exact nextP_ hK (i + 1) ⟨by omega, hup (by omega)⟩ (by omega)
      | trace_state
  · obtain rfl : i = b.ms.length := by omega
    clear hK
    have hmsok : ∀ i, i < b.ms.length → apMok b l i := hi2
    rw [mxM_all] at hla ⊢
    refine WA_stop fun K1 hK1 => ?_
    (have FX := And.intro hla (And.intro hlm (And.intro hln (And.intro hga (And.intro hgb (And.intro hgs (And.intro hgc (And.intro hll (And.intro hlt (And.intro hle hlf))))))))); repeat' (first | (refine sx ?_ ?_ <;> intro h <;> first | (exfalso; omega) | skip) | (refine g_op ?_; refine g_call ?_; refine g_args ?_; (first | refine s_fn (hwi _) ?_ | refine s_fn (hva _) ?_ | refine s_fn (gsmall_1 _ (by omega) _ _ _) ?_ | refine s_fn (gsmall_2 _ (by omega) _ _ _ _) ?_ | refine s_fn (hec _) ?_ | refine s_fn (htc _) ?_ | refine s_fnO (hmc _) ?_) <;> try first | omega | assumption) | refine ny ?_ | refine WA_block ?_ | (refine uB58_29_8 ?_; refine ⟨by kernel_rfl, ?_⟩) | (refine uB58_29_15 ?_; refine ⟨by kernel_rfl, ?_⟩) | (refine uB58_29_16 ?_; refine ⟨by kernel_rfl, ?_⟩) | ((first | refine grp_cons (fun _ => hwi _) ?_ | refine grp_cons (fun _ => hva _) ?_ | refine grp_cons (fun _ => gsmall_1 _ (by omega) _ _ _) ?_ | refine grp_cons (fun _ => gsmall_2 _ (by omega) _ _ _ _) ?_ | refine grp_cons (fun _ => hec _) ?_ | refine grp_cons (fun _ => htc _) ?_) <;> try first | omega | assumption) | (refine g_d ?_; refine d_args ?_; (first | refine d_fn (hwi _) ?_ | refine d_fn (hva _) ?_ | refine d_fn (gsmall_1 _ (by omega) _ _ _) ?_ | refine d_fn (gsmall_2 _ (by omega) _ _ _ _) ?_ | refine d_fn (hec _) ?_ | refine d_fn (htc _) ?_ | refine d_fnQ (fun _ => hwi _) ?_ | refine d_fnQ (fun _ => hva _) ?_ | refine d_fnQ (fun _ => gsmall_1 _ (by omega) _ _ _) ?_ | refine d_fnQ (fun _ => gsmall_2 _ (by omega) _ _ _ _) ?_ | refine d_fnQ (fun _ => hec _) ?_ | refine d_fnQ (fun _ => htc _) ?_) <;> try first | omega | assumption) | (refine g_d ?_; (first | refine d_fnY (hwi _) ?_ | refine d_fnY (hva _) ?_ | refine d_fnY (gsmall_1 _ (by omega) _ _ _) ?_ | refine d_fnY (gsmall_2 _ (by omega) _ _ _ _) ?_ | refine d_fnY (hec _) ?_ | refine d_fnY (htc _) ?_) <;> try first | omega | assumption)))
    all_goals (try (exfalso; omega))
    refine hK1 _ _ ?_
    refine WA_fzM (j := 3) rfl ?_
    simp only [List.map_cons, List.map_nil, frzV, frzC, List.set_cons_succ, List.set_cons_zero, argT]
    rw [if_pos ⟨by first | rfl | trivial | omega, by rw [hla]; exact Nat.le_refl _⟩, List.take_of_length_le (by rw [hla]; exact Nat.le_refl _)]
    clear hK1 FX
    have hlm := hla
    have hla := adsV_length (l := b.ads)
    (have FX := And.intro hla (And.intro hlm (And.intro hln (And.intro hga (And.intro hgb (And.intro hgs (And.intro hgc (And.intro hll (And.intro hlt (And.intro hle hlf))))))))); repeat' (first | (refine sx ?_ ?_ <;> intro h <;> first | (exfalso; omega) | skip) | (refine g_op ?_; refine g_call ?_; refine g_args ?_; (first | refine s_fn (hwi _) ?_ | refine s_fn (hva _) ?_ | refine s_fn (gsmall_1 _ (by omega) _ _ _) ?_ | refine s_fn (gsmall_2 _ (by omega) _ _ _ _) ?_ | refine s_fn (hec _) ?_ | refine s_fn (htc _) ?_ | refine s_fnO (hmc _) ?_) <;> try first | omega | assumption) | refine ny ?_ | refine WA_block ?_ | (refine uB58_29_8 ?_; refine ⟨by kernel_rfl, ?_⟩) | (refine uB58_29_15 ?_; refine ⟨by kernel_rfl, ?_⟩) | (refine uB58_29_16 ?_; refine ⟨by kernel_rfl, ?_⟩) | ((first | refine grp_cons (fun _ => hwi _) ?_ | refine grp_cons (fun _ => hva _) ?_ | refine grp_cons (fun _ => gsmall_1 _ (by omega) _ _ _) ?_ | refine grp_cons (fun _ => gsmall_2 _ (by omega) _ _ _ _) ?_ | refine grp_cons (fun _ => hec _) ?_ | refine grp_cons (fun _ => htc _) ?_) <;> try first | omega | assumption) | (refine g_d ?_; refine d_args ?_; (first | refine d_fn (hwi _) ?_ | refine d_fn (hva _) ?_ | refine d_fn (gsmall_1 _ (by omega) _ _ _) ?_ | refine d_fn (gsmall_2 _ (by omega) _ _ _ _) ?_ | refine d_fn (hec _) ?_ | refine d_fn (htc _) ?_ | refine d_fnQ (fun _ => hwi _) ?_ | refine d_fnQ (fun _ => hva _) ?_ | refine d_fnQ (fun _ => gsmall_1 _ (by omega) _ _ _) ?_ | refine d_fnQ (fun _ => gsmall_2 _ (by omega) _ _ _ _) ?_ | refine d_fnQ (fun _ => hec _) ?_ | refine d_fnQ (fun _ => htc _) ?_) <;> try first | omega | assumption) | (refine g_d ?_; (first | refine d_fnY (hwi _) ?_ | refine d_fnY (hva _) ?_ | refine d_fnY (gsmall_1 _ (by omega) _ _ _) ?_ | refine d_fnY (gsmall_2 _ (by omega) _ _ _ _) ?_ | refine d_fnY (hec _) ?_ | refine d_fnY (htc _) ?_) <;> try first | omega | assumption)))
    all_goals (try (exfalso; omega))
    refine WA_whileJ (σ := Nat) (L := lend m) (X := [.cells .own 25 2 [[.lst (mssV b.ms), .lst (adsV b.ads)]], .cells .own 25 2 [[.nilsl, .nilsl]], .dead, .cells .ro 81 4 (List.map (List.map (frzV ((lend m).length + 3) (mssV (apB b l).ms))) (mssV (apB b l).ms)), .cells .own 25 2 [[.lst (mssV (apB b l).ms), .nilsl]]]) [1, 4, 8, 53, 54, 55] (fun k => gaS b l k) (fun k => gaE (apB b l).ms b l k) (fun k => k ≤ b.ads.length ∧ ∀ j, j < k → apAok b l j) (fun k => b.ads.length - k) 0 [1, 4] ⟨Nat.zero_le _, fun j h => absurd h (Nat.not_lt_zero _)⟩ ?_ (by simp only [gaE, List.map_cons, List.map_nil, TB.inst, TV.inst]; rfl) rfl (by decide) (by decide) (fun _ _ => gaS_ok) (fun _ _ => gaE_ok) ?_
    · exact tv_
    rintro k ⟨hk1, hk2⟩ B ⟨D, hB⟩ K hK
    clear FX hga hgb hgs hgc hll hlt hle hlf hva hec htc
    have hga := hla
    have hgb := hla
    have hgs := hla
    have hva := hla
    rcases Nat.lt_or_ge k b.ads.length with hk | hk
    · have hga := adsV_get hk
      have hgc := nsV_get (l := l) (i := k) (by omega)
      have hsk := hst.2 k hk
      have hbk := hsb k hk
      have hlek := hbd.le k hk
      have hmok := hbd.mo k hk
      have hxe := hb.ae k hk
      have hxa := hb.aa k hk
      have hbad : ¬ apAok b l k → apR b l = ⟨[], []⟩ ∧ apE b l = 2 := fun h => by
        have : ¬ apOk b l := fun g => h (g.2 k hk)
        unfold apR apE
        rw [if_neg this, if_neg this]; exact ⟨rfl, rfl⟩
      have hak : apAok b l k ↔ (-1000 ≤ (b.ads.getD k adz).least - l.getD k 0 ∧ (b.ads.getD k adz).most - l.getD k 0 ≤ 1000) := Iff.rfl
      have hsn := apL_succ b l k
      have hap : adV (apA b l k) = [.str (b.ads.getD k adz).name, .lst (efsV (b.ads.getD k adz).effs), .int .i64 ((b.ads.getD k adz).least - l.getD k 0), .int .i64 ((b.ads.getD k adz).most - l.getD k 0), .int .i64 (b.ads.getD k adz).pass, .lst (tsV (b.ads.getD k adz).after)] := rfl
      rw [hap] at hsn
      have hup := ext_all2 (p := fun j => apAok b l j) hk2
      rw [hak] at hup hbad
      clear hap hak
      have hny := fun (_ : Unit) => hK (k + 1)
      clear hK
      generalize b.ads.getD k adz = x at *
      obtain ⟨xn, xe, xl, xm, xp, xa⟩ := x
      unfold adV at hga
      dsimp only at hga hsk hlek hmok hxe hxa hbad hsn hup
      have hec := fun m => eclone_v xe (by omega) m
      have htc := fun m => tclone_v xa (by omega) m
      have hle := efsV_length (l := xe)
      have hlf := tsV_length (l := xa)
      generalize l.getD k 0 = sk at *
      cases k with
      | zero =>
        have hll := hla
        have hlt := hla
        simp only [gaS, gaE]
        simp only [List.map_cons, List.map_nil, TB.inst, TV.inst, tv_map, zipT, List.cons_append, List.nil_append, Nat.add_zero]
        (have FX := And.intro hla (And.intro hlm (And.intro hln (And.intro hga (And.intro hgb (And.intro hgs (And.intro hgc (And.intro hll (And.intro hlt (And.intro hle hlf))))))))); repeat' first | (first | (refine sx ?_ ?_ <;> intro h <;> first | (exfalso; omega) | skip) | (refine g_op ?_; refine g_call ?_; refine g_args ?_; (first | refine s_fn (hwi _) ?_ | refine s_fn (hva _) ?_ | refine s_fn (gsmall_1 _ (by omega) _ _ _) ?_ | refine s_fn (gsmall_2 _ (by omega) _ _ _ _) ?_ | refine s_fn (hec _) ?_ | refine s_fn (htc _) ?_ | refine s_fnO (hmc _) ?_) <;> try first | omega | assumption) | refine ny ?_ | refine WA_block ?_ | (refine uB58_29_8 ?_; refine ⟨by kernel_rfl, ?_⟩) | (refine uB58_29_15 ?_; refine ⟨by kernel_rfl, ?_⟩) | (refine uB58_29_16 ?_; refine ⟨by kernel_rfl, ?_⟩) | ((first | refine grp_cons (fun _ => hwi _) ?_ | refine grp_cons (fun _ => hva _) ?_ | refine grp_cons (fun _ => gsmall_1 _ (by omega) _ _ _) ?_ | refine grp_cons (fun _ => gsmall_2 _ (by omega) _ _ _ _) ?_ | refine grp_cons (fun _ => hec _) ?_ | refine grp_cons (fun _ => htc _) ?_) <;> try first | omega | assumption) | (refine g_d ?_; refine d_args ?_; (first | refine d_fn (hwi _) ?_ | refine d_fn (hva _) ?_ | refine d_fn (gsmall_1 _ (by omega) _ _ _) ?_ | refine d_fn (gsmall_2 _ (by omega) _ _ _ _) ?_ | refine d_fn (hec _) ?_ | refine d_fn (htc _) ?_ | refine d_fnQ (fun _ => hwi _) ?_ | refine d_fnQ (fun _ => hva _) ?_ | refine d_fnQ (fun _ => gsmall_1 _ (by omega) _ _ _) ?_ | refine d_fnQ (fun _ => gsmall_2 _ (by omega) _ _ _ _) ?_ | refine d_fnQ (fun _ => hec _) ?_ | refine d_fnQ (fun _ => htc _) ?_) <;> try first | omega | assumption) | (refine g_d ?_; (first | refine d_fnY (hwi _) ?_ | refine d_fnY (hva _) ?_ | refine d_fnY (gsmall_1 _ (by omega) _ _ _) ?_ | refine d_fnY (gsmall_2 _ (by omega) _ _ _ _) ?_ | refine d_fnY (hec _) ?_ | refine d_fnY (htc _) ?_) <;> try first | omega | assumption)) | refine d_alt ?_ | refine wg_0 ?_ | refine wg_b ?_ | refine wg_c ?_ ?_ | refine wg_n ?_ | refine wm_cons ?_ ?_ | exact wm_nil | refine wg_op ?_)
        all_goals (try (exfalso; omega))
        all_goals first
          | (obtain ⟨e1, e2⟩ := hbad (by omega)
             refine r_esA hQ (.inl ⟨rfl, rfl, ?_⟩)
             rw [e1, e2]
             exact wk_tup ⟨wk_agg ⟨wk_nil, wk_nil, trivial⟩, WkV.refl _, trivial⟩)
          | ((refine nextU_ hny (()) [0, 1, 5] (⟨by omega, hup (by omega)⟩) (by omega) ?_ (ht := ?_); (focus (simp only [gaE, hsn, List.map_cons, List.map_nil, TB.inst, TV.inst, tv_map, List.cons_append, List.nil_append]; first | rfl | (simp [ptsV, ptV]; done) | (simp [hpsV, hpV]; done) | (simp [frsV, frV]; done) | (simp [txV]; done) | (simp [prtsV, prtV]; done))); (simp only [gaS, List.map_cons, List.map_nil, TV.inst, List.getD_cons_zero, List.getD_cons_succ]; exact tv_)))
          | trace_state
      | succ k =>
        have hll : (adsV (apL b l (k + 1))).length = k + 1 := by rw [adsV_length, apL_len]
        have hlt : (adsV (apL b l (k + 1))).take (k + 1) = adsV (apL b l (k + 1)) := List.take_of_length_le (by rw [hll]; exact Nat.le_refl _)
        simp only [gaS, gaE]
        simp only [List.map_cons, List.map_nil, TB.inst, TV.inst, tv_map, zipT, List.cons_append, List.nil_append, Nat.add_zero]
        (have FX := And.intro hla (And.intro hlm (And.intro hln (And.intro hga (And.intro hgb (And.intro hgs (And.intro hgc (And.intro hll (And.intro hlt (And.intro hle hlf))))))))); repeat' first | (first | (refine sx ?_ ?_ <;> intro h <;> first | (exfalso; omega) | skip) | (refine g_op ?_; refine g_call ?_; refine g_args ?_; (first | refine s_fn (hwi _) ?_ | refine s_fn (hva _) ?_ | refine s_fn (gsmall_1 _ (by omega) _ _ _) ?_ | refine s_fn (gsmall_2 _ (by omega) _ _ _ _) ?_ | refine s_fn (hec _) ?_ | refine s_fn (htc _) ?_ | refine s_fnO (hmc _) ?_) <;> try first | omega | assumption) | refine ny ?_ | refine WA_block ?_ | (refine uB58_29_8 ?_; refine ⟨by kernel_rfl, ?_⟩) | (refine uB58_29_15 ?_; refine ⟨by kernel_rfl, ?_⟩) | (refine uB58_29_16 ?_; refine ⟨by kernel_rfl, ?_⟩) | ((first | refine grp_cons (fun _ => hwi _) ?_ | refine grp_cons (fun _ => hva _) ?_ | refine grp_cons (fun _ => gsmall_1 _ (by omega) _ _ _) ?_ | refine grp_cons (fun _ => gsmall_2 _ (by omega) _ _ _ _) ?_ | refine grp_cons (fun _ => hec _) ?_ | refine grp_cons (fun _ => htc _) ?_) <;> try first | omega | assumption) | (refine g_d ?_; refine d_args ?_; (first | refine d_fn (hwi _) ?_ | refine d_fn (hva _) ?_ | refine d_fn (gsmall_1 _ (by omega) _ _ _) ?_ | refine d_fn (gsmall_2 _ (by omega) _ _ _ _) ?_ | refine d_fn (hec _) ?_ | refine d_fn (htc _) ?_ | refine d_fnQ (fun _ => hwi _) ?_ | refine d_fnQ (fun _ => hva _) ?_ | refine d_fnQ (fun _ => gsmall_1 _ (by omega) _ _ _) ?_ | refine d_fnQ (fun _ => gsmall_2 _ (by omega) _ _ _ _) ?_ | refine d_fnQ (fun _ => hec _) ?_ | refine d_fnQ (fun _ => htc _) ?_) <;> try first | omega | assumption) | (refine g_d ?_; (first | refine d_fnY (hwi _) ?_ | refine d_fnY (hva _) ?_ | refine d_fnY (gsmall_1 _ (by omega) _ _ _) ?_ | refine d_fnY (gsmall_2 _ (by omega) _ _ _ _) ?_ | refine d_fnY (hec _) ?_ | refine d_fnY (htc _) ?_) <;> try first | omega | assumption)) | refine d_alt ?_ | refine wg_0 ?_ | refine wg_b ?_ | refine wg_c ?_ ?_ | refine wg_n ?_ | refine wm_cons ?_ ?_ | exact wm_nil | refine wg_op ?_)
        all_goals (try (exfalso; omega))
        all_goals first
          | (obtain ⟨e1, e2⟩ := hbad (by omega)
             refine r_esA hQ (.inl ⟨rfl, rfl, ?_⟩)
             rw [e1, e2]
             exact wk_tup ⟨wk_agg ⟨wk_nil, wk_nil, trivial⟩, WkV.refl _, trivial⟩)
          | ((refine nextU_ hny (()) [0, 1, 6] (⟨by omega, hup (by omega)⟩) (by omega) ?_ (ht := ?_); (focus (simp only [gaE, hsn, List.map_cons, List.map_nil, TB.inst, TV.inst, tv_map, List.cons_append, List.nil_append]; first | rfl | (simp [ptsV, ptV]; done) | (simp [hpsV, hpV]; done) | (simp [frsV, frV]; done) | (simp [txV]; done) | (simp [prtsV, prtV]; done))); (simp only [gaS, List.map_cons, List.map_nil, TV.inst, List.getD_cons_zero, List.getD_cons_succ]; exact tv_)))
          | trace_state
    · obtain rfl : k = b.ads.length := by omega
      clear hK
      have hok : apOk b l := ⟨hmsok, hk2⟩
      have e1 : apR b l = apB b l := by unfold apR; rw [if_pos hok]
      have e2 : apE b l = 0 := by unfold apE; rw [if_pos hok]
      have e3 : apB b l = ⟨(apB b l).ms, apL b l b.ads.length⟩ := by rfl
      rw [e1, e2, e3] at hQ
      have hgc := hla
      have hll := hla
      have hlt := hla
      have hle := hla
      have hlf := hla
      have hec := hla
      have htc := hla
      cases hN : b.ads.length with
      | zero =>
        simp only [gaS, gaE]
        simp only [List.map_cons, List.map_nil, TB.inst, TV.inst, tv_map, zipT, List.cons_append, List.nil_append, Nat.add_zero]
        (have FX := And.intro hla (And.intro hlm (And.intro hln (And.intro hga (And.intro hgb (And.intro hgs (And.intro hgc (And.intro hll (And.intro hlt (And.intro hle hlf))))))))); repeat' (first | (refine sx ?_ ?_ <;> intro h <;> first | (exfalso; omega) | skip) | (refine g_op ?_; refine g_call ?_; refine g_args ?_; (first | refine s_fn (hwi _) ?_ | refine s_fn (hva _) ?_ | refine s_fn (gsmall_1 _ (by omega) _ _ _) ?_ | refine s_fn (gsmall_2 _ (by omega) _ _ _ _) ?_ | refine s_fn (hec _) ?_ | refine s_fn (htc _) ?_ | refine s_fnO (hmc _) ?_) <;> try first | omega | assumption) | refine ny ?_ | refine WA_block ?_ | (refine uB58_29_8 ?_; refine ⟨by kernel_rfl, ?_⟩) | (refine uB58_29_15 ?_; refine ⟨by kernel_rfl, ?_⟩) | (refine uB58_29_16 ?_; refine ⟨by kernel_rfl, ?_⟩) | ((first | refine grp_cons (fun _ => hwi _) ?_ | refine grp_cons (fun _ => hva _) ?_ | refine grp_cons (fun _ => gsmall_1 _ (by omega) _ _ _) ?_ | refine grp_cons (fun _ => gsmall_2 _ (by omega) _ _ _ _) ?_ | refine grp_cons (fun _ => hec _) ?_ | refine grp_cons (fun _ => htc _) ?_) <;> try first | omega | assumption) | (refine g_d ?_; refine d_args ?_; (first | refine d_fn (hwi _) ?_ | refine d_fn (hva _) ?_ | refine d_fn (gsmall_1 _ (by omega) _ _ _) ?_ | refine d_fn (gsmall_2 _ (by omega) _ _ _ _) ?_ | refine d_fn (hec _) ?_ | refine d_fn (htc _) ?_ | refine d_fnQ (fun _ => hwi _) ?_ | refine d_fnQ (fun _ => hva _) ?_ | refine d_fnQ (fun _ => gsmall_1 _ (by omega) _ _ _) ?_ | refine d_fnQ (fun _ => gsmall_2 _ (by omega) _ _ _ _) ?_ | refine d_fnQ (fun _ => hec _) ?_ | refine d_fnQ (fun _ => htc _) ?_) <;> try first | omega | assumption) | (refine g_d ?_; (first | refine d_fnY (hwi _) ?_ | refine d_fnY (hva _) ?_ | refine d_fnY (gsmall_1 _ (by omega) _ _ _) ?_ | refine d_fnY (gsmall_2 _ (by omega) _ _ _ _) ?_ | refine d_fnY (hec _) ?_ | refine d_fnY (htc _) ?_) <;> try first | omega | assumption)))
        all_goals (try (exfalso; omega))
        refine r_esA hQ (fin_tgn hB (mssV_plain _) ⟨rfl, ?_⟩)
        rw [hN]
        exact wk_tup ⟨wk_agg ⟨WkV.refl _, wk_nil, trivial⟩, WkV.refl _, trivial⟩
      | succ k =>
        have hl1 : (adsV (apL b l (k + 1))).length = k + 1 := by rw [adsV_length, apL_len]
        have ht1 : (adsV (apL b l (k + 1))).take (k + 1) = adsV (apL b l (k + 1)) := List.take_of_length_le (by rw [hl1]; exact Nat.le_refl _)
        simp only [gaS, gaE]
        simp only [List.map_cons, List.map_nil, TB.inst, TV.inst, tv_map, zipT, List.cons_append, List.nil_append, Nat.add_zero]
        (have FX := And.intro hla (And.intro hlm (And.intro hln (And.intro hga (And.intro hgb (And.intro hgs (And.intro hgc (And.intro hll (And.intro hlt (And.intro hle hlf))))))))); repeat' (first | (refine sx ?_ ?_ <;> intro h <;> first | (exfalso; omega) | skip) | (refine g_op ?_; refine g_call ?_; refine g_args ?_; (first | refine s_fn (hwi _) ?_ | refine s_fn (hva _) ?_ | refine s_fn (gsmall_1 _ (by omega) _ _ _) ?_ | refine s_fn (gsmall_2 _ (by omega) _ _ _ _) ?_ | refine s_fn (hec _) ?_ | refine s_fn (htc _) ?_ | refine s_fnO (hmc _) ?_) <;> try first | omega | assumption) | refine ny ?_ | refine WA_block ?_ | (refine uB58_29_8 ?_; refine ⟨by kernel_rfl, ?_⟩) | (refine uB58_29_15 ?_; refine ⟨by kernel_rfl, ?_⟩) | (refine uB58_29_16 ?_; refine ⟨by kernel_rfl, ?_⟩) | ((first | refine grp_cons (fun _ => hwi _) ?_ | refine grp_cons (fun _ => hva _) ?_ | refine grp_cons (fun _ => gsmall_1 _ (by omega) _ _ _) ?_ | refine grp_cons (fun _ => gsmall_2 _ (by omega) _ _ _ _) ?_ | refine grp_cons (fun _ => hec _) ?_ | refine grp_cons (fun _ => htc _) ?_) <;> try first | omega | assumption) | (refine g_d ?_; refine d_args ?_; (first | refine d_fn (hwi _) ?_ | refine d_fn (hva _) ?_ | refine d_fn (gsmall_1 _ (by omega) _ _ _) ?_ | refine d_fn (gsmall_2 _ (by omega) _ _ _ _) ?_ | refine d_fn (hec _) ?_ | refine d_fn (htc _) ?_ | refine d_fnQ (fun _ => hwi _) ?_ | refine d_fnQ (fun _ => hva _) ?_ | refine d_fnQ (fun _ => gsmall_1 _ (by omega) _ _ _) ?_ | refine d_fnQ (fun _ => gsmall_2 _ (by omega) _ _ _ _) ?_ | refine d_fnQ (fun _ => hec _) ?_ | refine d_fnQ (fun _ => htc _) ?_) <;> try first | omega | assumption) | (refine g_d ?_; (first | refine d_fnY (hwi _) ?_ | refine d_fnY (hva _) ?_ | refine d_fnY (gsmall_1 _ (by omega) _ _ _) ?_ | refine d_fnY (gsmall_2 _ (by omega) _ _ _ _) ?_ | refine d_fnY (hec _) ?_ | refine d_fnY (htc _) ?_) <;> try first | omega | assumption)))
        all_goals (try (exfalso; omega))
        refine r_esA hQ (fin_tgl (j := 2) (k := k + 1) hB (mssV_plain _) rfl (by rw [hl1]; exact Nat.le_refl _) (by rw [ht1]; exact adsV_plain _) ⟨rfl, ?_⟩)
        rw [ht1, hN]
        exact WkV.refl _
end Go.Proofs.Ytaoakololkcepaa
