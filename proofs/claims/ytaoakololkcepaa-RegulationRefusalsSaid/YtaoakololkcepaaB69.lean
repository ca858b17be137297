/- contracts: is it a proof, of the reference -/
import Derived.Test.YtaoakololkcepaaBH
import Derived.Test.YtaoakololkcepaaB25
import Derived.Test.YtaoakololkcepaaYN
import Derived.Test.YtaoakololkcepaaB30
set_option linter.unusedSimpArgs false
set_option linter.unusedVariables false
namespace Go.Proofs.Ytaoakololkcepaa
open Go.RowKit
attribute [local irreducible] WA WOs WDs WAn qThen qBlock tput
set_option maxHeartbeats 1000000
set_option maxRecDepth 20000
set_option linter.unusedSimpArgs false
set_option linter.unusedVariables false
set_option maxHeartbeats 8000000
theorem uB69_92_7 {N : Nat} {l : List Oper} {t : List (Nat × V)} {m : Mem} {Q : Exit → List (Nat × V) → Mem → Prop} (h : RgT Try.prog N l t m Q 52 (fun i => if i == 15 || i == 17 then .f else if i == 1 || i == 8 then .a else if i == 4 || i == 11 then .q else .p) [.one 0, .one 2, .one 3, .one 4, .one 5, .one 7, .one 9, .one 10, .one 11, .one 12, .grp false [] [1, 8], .one 6, .one 13, .one 14, .one 15, .one 16, .one 17]) : WA Try.prog N (.region 7 l.toArray true) t m Q := d_rgT h
theorem uB69_92_8 {N : Nat} {l : List Oper} {t : List (Nat × V)} {m : Mem} {Q : Exit → List (Nat × V) → Mem → Prop} (h : RgT Try.prog N l t m Q 52 (fun i => if i == 25 || i == 27 then .f else if i == 1 || i == 13 then .a else if i == 4 || i == 8 || i == 10 || i == 16 || i == 20 || i == 22 then .q else .p) [.one 0, .one 2, .one 3, .one 4, .one 5, .one 6, .one 7, .one 8, .one 9, .one 10, .one 12, .one 14, .one 15, .one 16, .one 17, .one 18, .one 19, .one 20, .one 21, .one 22, .grp false [] [1, 13], .one 11, .one 23, .one 24, .one 25, .one 26, .one 27]) : WA Try.prog N (.region 8 l.toArray true) t m Q := d_rgT h
theorem uB69_92_16 {N : Nat} {l : List Oper} {t : List (Nat × V)} {m : Mem} {Q : Exit → List (Nat × V) → Mem → Prop} (h : RgN Try.prog N l t m Q (fun i => if i == 4 || i == 5 || i == 8 then .q else .p) [.one 0, .one 1, .one 2, .one 3, .one 4, .one 5, .one 6, .one 7, .one 8, .one 9, .one 10, .one 11]) : WA Try.prog N (.region 16 l.toArray true) t m Q := d_rgN h
theorem uB69_92_17 {N : Nat} {l : List Oper} {t : List (Nat × V)} {m : Mem} {Q : Exit → List (Nat × V) → Mem → Prop} (h : RgN Try.prog N l t m Q (fun i => if i == 2 || i == 6 || i == 10 || i == 14 then .q else .p) [.one 0, .one 1, .one 2, .one 3, .one 4, .one 5, .one 6, .one 7, .one 8, .one 9, .one 10, .one 11, .one 12, .one 13, .one 14, .one 15, .one 16, .one 17]) : WA Try.prog N (.region 17 l.toArray true) t m Q := d_rgN h
theorem rproves_c (b : BnR) (hb : Bnd b) (hef : ∀ k, k < b.ads.length → (b.ads.getD k adz).effs.length ≤ 1000) (ws : List Int) (hl : ws.length = b.ms.length) (hw : wOk ws) (m : Mem) : Gives Try.prog 92 [.agg [.lst (mssV b.ms), .lst (adsV b.ads)], .lst (nsV ws)] m (.bool (prvB b ws)) := by
  have hlm := mssV_length (l := b.ms)
  have hla := adsV_length (l := b.ads)
  have hlw := nsV_length (l := ws)
  have hfm := hb.fm
  have hfa := hb.fa
  have hga := hla
  have hgb := hla
  have hby := hla
  have hpv : prvB b ws = !decide (cnL b ws b.ads.length ≤ wtH b ws b.ms.length ∧ wtL b ws b.ms.length ≤ cnH b ws b.ads.length) := rfl
  have hc0 : cnL b ws 0 = wgM b ws b.ms.length := rfl
  have hc1 : cnH b ws 0 = wgM b ws b.ms.length := rfl
  refine Gives_in Try.func92 rfl Try.ntmps92 Try.results92 (by kernel_rfl) (by simp) rfl fun Q hQ => ?_
  (have FX := And.intro hlm (And.intro hla (And.intro hlw (And.intro hga hgb))); repeat' (first | (refine sx ?_ ?_ <;> intro h <;> first | (exfalso; omega) | skip) | (refine g_op ?_; refine g_call ?_; refine g_args ?_; (first | refine s_fn (hby _) ?_) <;> try first | omega | assumption) | refine ny ?_ | refine WA_block ?_ | (refine uB69_92_7 ?_; refine ⟨by kernel_rfl, ?_⟩) | (refine uB69_92_8 ?_; refine ⟨by kernel_rfl, ?_⟩) | (refine uB69_92_16 ?_; refine ⟨by kernel_rfl, ?_⟩) | (refine uB69_92_17 ?_; refine ⟨by kernel_rfl, ?_⟩) | ((first | refine grp_cons (fun _ => hby _) ?_) <;> try first | omega | assumption) | (refine g_d ?_; refine d_args ?_; (first | refine d_fn (hby _) ?_ | refine d_fnQ (fun _ => hby _) ?_) <;> try first | omega | assumption) | (refine g_d ?_; (first | refine d_fnY (hby _) ?_) <;> try first | omega | assumption)))
  all_goals (try (exfalso; omega))
  refine WA_whileK (σ := Nat) [1, 2, 5, 6, 7] (fun k => [.lst (nsV ws), .ptr (lend m).length 0 0, .ptr ((lend m).length + 1) 0 0, .ptr ((lend m).length + 2) 0 0, .int .i64 k]) (fun k => [.cells .own 25 2 [[.lst (mssV b.ms), .lst (adsV b.ads)]], .cells .own 52 2 [[.int .i64 (wgM b ws k), .int .i64 (wgM b ws k)]], .cells .own 52 2 [[.int .i64 (wtL b ws k), .int .i64 (wtH b ws k)]]]) 3 (fun k => k ≤ b.ms.length) (fun k => b.ms.length - k) 0 (Nat.zero_le _) tv_ rfl (fun _ => rfl) (by intro s s' _ _; simp [conB, conS, V.keeps, V.plain, Blk.flat, flatL, plainL, V.flat]) (fun s s' _ _ => ⟨.inr rfl, .inl rfl, .inl rfl, trivial⟩) ?_
  rintro k hk1 K hK
  simp only [zipT]
  clear FX hga hgb hby
  have hwb := wgM_bd hb hw k hk1
  have htb := wt_bd hb hw k hk1
  rcases Nat.lt_or_ge k b.ms.length with hk | hk
  · have hga := mssV_get hk
    have hgb := nsV_get (l := ws) (i := k) (by omega)
    have hby := hla
    have hwk := hw k
    have hv := hb.va k hk
    have e1 : wgM b ws (k + 1) = wgM b ws k + ws.getD k 0 * (b.ms.getD k msz).val := rfl
    have e2 : wtL b ws (k + 1) = wtL b ws k + min (ws.getD k 0 * (b.ms.getD k msz).low) (ws.getD k 0 * (b.ms.getD k msz).high) := rfl
    have e3 : wtH b ws (k + 1) = wtH b ws k + max (ws.getD k 0 * (b.ms.getD k msz).low) (ws.getD k 0 * (b.ms.getD k msz).high) := rfl
    have p1 := mul_bd (a := 100) (c := 100000) (by decide) hwk hv.1
    have p2 := mul_bd (a := 100) (c := 100000) (by decide) hwk (y := (b.ms.getD k msz).low) (by omega)
    have p3 := mul_bd (a := 100) (c := 100000) (by decide) hwk (y := (b.ms.getD k msz).high) (by omega)
    generalize b.ms.getD k msz = x at *
    obtain ⟨xn, xv, xl, xh⟩ := x
    unfold msV at hga
    dsimp only at hga hv e1 e2 e3 p1 p2 p3
    generalize wgM b ws k = wk at *
    generalize wtL b ws k = tl at *
    generalize wtH b ws k = th at *
    generalize ws.getD k 0 = w at *
    (have FX := And.intro hlm (And.intro hla (And.intro hlw (And.intro hga hgb))); repeat' first | (first | (refine sx ?_ ?_ <;> intro h <;> first | (exfalso; omega) | skip) | (refine g_op ?_; refine g_call ?_; refine g_args ?_; (first | refine s_fn (hby _) ?_) <;> try first | omega | assumption) | refine ny ?_ | refine WA_block ?_ | (refine uB69_92_7 ?_; refine ⟨by kernel_rfl, ?_⟩) | (refine uB69_92_8 ?_; refine ⟨by kernel_rfl, ?_⟩) | (refine uB69_92_16 ?_; refine ⟨by kernel_rfl, ?_⟩) | (refine uB69_92_17 ?_; refine ⟨by kernel_rfl, ?_⟩) | ((first | refine grp_cons (fun _ => hby _) ?_) <;> try first | omega | assumption) | (refine g_d ?_; refine d_args ?_; (first | refine d_fn (hby _) ?_ | refine d_fnQ (fun _ => hby _) ?_) <;> try first | omega | assumption) | (refine g_d ?_; (first | refine d_fnY (hby _) ?_) <;> try first | omega | assumption)) | refine d_alt ?_ | refine wg_0 ?_ | refine wg_b ?_ | refine wg_c ?_ ?_ | refine wg_n ?_ | refine wm_cons ?_ ?_ | exact wm_nil | refine wg_op ?_)
    all_goals (try (exfalso; omega))
    all_goals (refine nextL_ hK (k + 1) hk (by omega) (hm := by rw [e1, e2, e3, ← imin, ← imax]; rfl))
  · obtain rfl : k = b.ms.length := by omega
    clear hK
    have hga := hla
    have hgb := hla
    have hby := hla
    (have FX := And.intro hlm (And.intro hla (And.intro hlw (And.intro hga hgb))); repeat' (first | (refine sx ?_ ?_ <;> intro h <;> first | (exfalso; omega) | skip) | (refine g_op ?_; refine g_call ?_; refine g_args ?_; (first | refine s_fn (hby _) ?_) <;> try first | omega | assumption) | refine ny ?_ | refine WA_block ?_ | (refine uB69_92_7 ?_; refine ⟨by kernel_rfl, ?_⟩) | (refine uB69_92_8 ?_; refine ⟨by kernel_rfl, ?_⟩) | (refine uB69_92_16 ?_; refine ⟨by kernel_rfl, ?_⟩) | (refine uB69_92_17 ?_; refine ⟨by kernel_rfl, ?_⟩) | ((first | refine grp_cons (fun _ => hby _) ?_) <;> try first | omega | assumption) | (refine g_d ?_; refine d_args ?_; (first | refine d_fn (hby _) ?_ | refine d_fnQ (fun _ => hby _) ?_) <;> try first | omega | assumption) | (refine g_d ?_; (first | refine d_fnY (hby _) ?_) <;> try first | omega | assumption)))
    all_goals (try (exfalso; omega))
    refine WA_whileK (σ := Nat) [1, 2, 5, 6, 10] (fun i => [.lst (nsV ws), .ptr (lend m).length 0 0, .ptr ((lend m).length + 1) 0 0, .ptr ((lend m).length + 2) 0 0, .int .i64 i]) (fun i => [.cells .own 25 2 [[.lst (mssV b.ms), .lst (adsV b.ads)]], .cells .own 52 2 [[.int .i64 (cnL b ws i), .int .i64 (cnH b ws i)]], .cells .own 52 2 [[.int .i64 (wtL b ws b.ms.length), .int .i64 (wtH b ws b.ms.length)]]]) 3 (fun i => i ≤ b.ads.length) (fun i => b.ads.length - i) 0 (Nat.zero_le _) tv_ (by rw [hc0, hc1]) (fun _ => rfl) (by intro s s' _ _; simp [conB, conS, V.keeps, V.plain, Blk.flat, flatL, plainL, V.flat]) (fun s s' _ _ => ⟨.inr rfl, .inl rfl, .inr rfl, trivial⟩) ?_
    rintro i hi1 K hK
    simp only [zipT]
    clear FX hga hgb hby
    have hcb := cn_bd hb hw i hi1
    rcases Nat.lt_or_ge i b.ads.length with hi | hi
    · have hga := adsV_get hi
      have hgb := hla
      have hby := hla
      have hsm := smw_mul hb hw hi
      have hsb := smW_bd hb hw i
      have e1 : cnL b ws (i + 1) = cnL b ws i + min ((b.ads.getD i adz).least * smW b ws i b.ms.length) ((b.ads.getD i adz).most * smW b ws i b.ms.length) := rfl
      have e2 : cnH b ws (i + 1) = cnH b ws i + max ((b.ads.getD i adz).least * smW b ws i b.ms.length) ((b.ads.getD i adz).most * smW b ws i b.ms.length) := rfl
      have hle := hb.le i hi
      have hmo := hb.mo i hi
      rw [Int.mul_comm _ (smW b ws i b.ms.length), Int.mul_comm _ (smW b ws i b.ms.length)] at hsm e1 e2
      generalize hx : b.ads.getD i adz = x at hga hsm e1 e2 hle hmo
      obtain ⟨xn, xe, xl, xm, xp, xa⟩ := x
      unfold adV at hga
      dsimp only at hga hsm e1 e2 hle hmo
      generalize cnL b ws i = cl at *
      generalize cnH b ws i = ch at *
      generalize wtL b ws b.ms.length = tl at *
      generalize wtH b ws b.ms.length = th at *
      have hga0 := hga
      clear hga
      have hga := hla
      (have FX := And.intro hlm (And.intro hla (And.intro hlw (And.intro hga hgb))); repeat' (first | (refine sx ?_ ?_ <;> intro h <;> first | (exfalso; omega) | skip) | (refine g_op ?_; refine g_call ?_; refine g_args ?_; (first | refine s_fn (hby _) ?_) <;> try first | omega | assumption) | refine ny ?_ | refine WA_block ?_ | (refine uB69_92_7 ?_; refine ⟨by kernel_rfl, ?_⟩) | (refine uB69_92_8 ?_; refine ⟨by kernel_rfl, ?_⟩) | (refine uB69_92_16 ?_; refine ⟨by kernel_rfl, ?_⟩) | (refine uB69_92_17 ?_; refine ⟨by kernel_rfl, ?_⟩) | ((first | refine grp_cons (fun _ => hby _) ?_) <;> try first | omega | assumption) | (refine g_d ?_; refine d_args ?_; (first | refine d_fn (hby _) ?_ | refine d_fnQ (fun _ => hby _) ?_) <;> try first | omega | assumption) | (refine g_d ?_; (first | refine d_fnY (hby _) ?_) <;> try first | omega | assumption)))
      all_goals (try (exfalso; omega))
      refine WA_whileK (σ := Nat) [1, 2, 5, 6, 10, 11, 12] (fun k => [.lst (nsV ws), .ptr (lend m).length 0 0, .ptr ((lend m).length + 1) 0 0, .ptr ((lend m).length + 2) 0 0, .int .i64 i, .int .i64 (smW b ws i k), .int .i64 k]) (fun _ => [.cells .own 25 2 [[.lst (mssV b.ms), .lst (adsV b.ads)]], .cells .own 52 2 [[.int .i64 cl, .int .i64 ch]], .cells .own 52 2 [[.int .i64 tl, .int .i64 th]]]) 3 (fun k => k ≤ b.ms.length) (fun k => b.ms.length - k) 0 (Nat.zero_le _) tv_ rfl (fun _ => rfl) (by intro s s' _ _; simp [conB, conS, V.keeps, V.plain, Blk.flat, flatL, plainL, V.flat]) (by intro s s' _ _; simp [conB, conS, V.keeps, V.plain, Blk.flat, flatL, plainL, V.flat]) ?_
      rintro k hk1 K2 hK2
      simp only [zipT]
      clear FX hga hgb hby
      have hsk := hsb k
      rcases Nat.lt_or_ge k b.ms.length with hk | hk
      · have hga := nsV_get (l := ws) (i := k) (by omega)
        have hgb := hla
        have hby := fun m => rby_c b i k hi hk (hef i hi) m
        have hbx := hb.by_ i k
        have hwk := hw k
        have hsu : smW b ws i (k + 1) = smW b ws i k + ws.getD k 0 * byN b i k := rfl
        have hmu := mul_bd (a := 100) (c := 1000) (by decide) hwk hbx
        generalize smW b ws i k = sk at *
        generalize byN b i k = bk at *
        generalize ws.getD k 0 = w at *
        (have FX := And.intro hlm (And.intro hla (And.intro hlw (And.intro hga hgb))); repeat' (first | (refine sx ?_ ?_ <;> intro h <;> first | (exfalso; omega) | skip) | (refine g_op ?_; refine g_call ?_; refine g_args ?_; (first | refine s_fn (hby _) ?_) <;> try first | omega | assumption) | refine ny ?_ | refine WA_block ?_ | (refine uB69_92_7 ?_; refine ⟨by kernel_rfl, ?_⟩) | (refine uB69_92_8 ?_; refine ⟨by kernel_rfl, ?_⟩) | (refine uB69_92_16 ?_; refine ⟨by kernel_rfl, ?_⟩) | (refine uB69_92_17 ?_; refine ⟨by kernel_rfl, ?_⟩) | ((first | refine grp_cons (fun _ => hby _) ?_) <;> try first | omega | assumption) | (refine g_d ?_; refine d_args ?_; (first | refine d_fn (hby _) ?_ | refine d_fnQ (fun _ => hby _) ?_) <;> try first | omega | assumption) | (refine g_d ?_; (first | refine d_fnY (hby _) ?_) <;> try first | omega | assumption)))
        all_goals (try (exfalso; omega))
        all_goals (refine nextL_ hK2 (k + 1) hk (by omega) (ht := by rw [hsu]; exact tv_))
      · obtain rfl : k = b.ms.length := by omega
        have hga := hga0
        have hgb := hla
        have hby := hla
        generalize smW b ws i b.ms.length = sk at *
        (have FX := And.intro hlm (And.intro hla (And.intro hlw (And.intro hga hgb))); repeat' (first | (refine sx ?_ ?_ <;> intro h <;> first | (exfalso; omega) | skip) | (refine g_op ?_; refine g_call ?_; refine g_args ?_; (first | refine s_fn (hby _) ?_) <;> try first | omega | assumption) | refine ny ?_ | refine WA_block ?_ | (refine uB69_92_7 ?_; refine ⟨by kernel_rfl, ?_⟩) | (refine uB69_92_8 ?_; refine ⟨by kernel_rfl, ?_⟩) | (refine uB69_92_16 ?_; refine ⟨by kernel_rfl, ?_⟩) | (refine uB69_92_17 ?_; refine ⟨by kernel_rfl, ?_⟩) | ((first | refine grp_cons (fun _ => hby _) ?_) <;> try first | omega | assumption) | (refine g_d ?_; refine d_args ?_; (first | refine d_fn (hby _) ?_ | refine d_fnQ (fun _ => hby _) ?_) <;> try first | omega | assumption) | (refine g_d ?_; (first | refine d_fnY (hby _) ?_) <;> try first | omega | assumption)))
        all_goals (try (exfalso; omega))
        all_goals (refine nextL_ hK (i + 1) hi (by omega) (hm := by rw [e1, e2, ← imin, ← imax]; rfl))
    · obtain rfl : i = b.ads.length := by omega
      have hga := hla
      have hgb := hla
      have hby := hla
      rw [hpv] at hQ
      clear hpv
      generalize cnL b ws b.ads.length = cl at *
      generalize cnH b ws b.ads.length = ch at *
      generalize wtL b ws b.ms.length = tl at *
      generalize wtH b ws b.ms.length = th at *
      (have FX := And.intro hlm (And.intro hla (And.intro hlw (And.intro hga hgb))); repeat' (first | (refine sx ?_ ?_ <;> intro h <;> first | (exfalso; omega) | skip) | (refine g_op ?_; refine g_call ?_; refine g_args ?_; (first | refine s_fn (hby _) ?_) <;> try first | omega | assumption) | refine ny ?_ | refine WA_block ?_ | (refine uB69_92_7 ?_; refine ⟨by kernel_rfl, ?_⟩) | (refine uB69_92_8 ?_; refine ⟨by kernel_rfl, ?_⟩) | (refine uB69_92_16 ?_; refine ⟨by kernel_rfl, ?_⟩) | (refine uB69_92_17 ?_; refine ⟨by kernel_rfl, ?_⟩) | ((first | refine grp_cons (fun _ => hby _) ?_) <;> try first | omega | assumption) | (refine g_d ?_; refine d_args ?_; (first | refine d_fn (hby _) ?_ | refine d_fnQ (fun _ => hby _) ?_) <;> try first | omega | assumption) | (refine g_d ?_; (first | refine d_fnY (hby _) ?_) <;> try first | omega | assumption)))
      all_goals (try (exfalso; omega))
      all_goals ((refine r_es hQ ?_; try with_reducible rfl))
      all_goals (simp only [V.bool.injEq]; first | rfl | (simp; omega) | grind)

theorem rcheckweights_c (b : BnR) (hb : Bnd b) (hef : ∀ k, k < b.ads.length → (b.ads.getD k adz).effs.length ≤ 1000) (ws : List Int) (hln : ws.length ≤ 100000) (m : Mem) : Gives Try.prog 43 [.agg [.lst (mssV b.ms), .lst (adsV b.ads)], .lst (nsV ws)] m (.int .i64 (ckW b ws)) := by
  have hlm := mssV_length (l := b.ms)
  have hlw := nsV_length (l := ws)
  have hfm := hb.fm
  have hga := hlm
  have hpr := hlm
  have hck : ckW b ws = if ws.length ≠ b.ms.length then 10 else if ¬ smallP 100 ws then 2 else if mtW b ws then 22 else 0 := rfl
  by_cases h1 : ws.length = b.ms.length
  · rw [if_neg (by omega)] at hck
    refine Gives_in Try.func43 rfl Try.ntmps43 Try.results43 (by kernel_rfl) (by simp) rfl fun Q hQ => ?_
    (have FX := And.intro hlm (And.intro hlw hga); repeat' (first | (refine sx ?_ ?_ <;> intro h <;> first | (exfalso; omega) | skip) | (refine g_op ?_; refine g_call ?_; refine g_args ?_; (first | refine s_fn (bwithin_c _ _ _ _) ?_ | refine s_fn (hpr _) ?_) <;> try first | omega | assumption) | refine ny ?_ | refine WA_block ?_))
    all_goals (try (exfalso; omega))
    refine WA_whileK (σ := Nat) [1, 2, 5] (fun k => [.lst (nsV ws), .ptr (lend m).length 0 0, .int .i64 k]) (fun _ => [.cells .own 25 2 [[.lst (mssV b.ms), .lst (adsV b.ads)]]]) 1 (fun k => k ≤ ws.length ∧ ∀ j, j < k → -100 ≤ ws.getD j 0 ∧ ws.getD j 0 ≤ 100) (fun k => ws.length - k) 0 ⟨Nat.zero_le _, fun j h => absurd h (Nat.not_lt_zero _)⟩ tv_ rfl (fun _ => rfl) (by intro s s' _ _; simp [conB, conS, V.keeps, V.plain, Blk.flat, flatL, plainL, V.flat]) (by intro s s' _ _; simp [conB, conS, V.keeps, V.plain, Blk.flat, flatL, plainL, V.flat]) ?_
    rintro k ⟨hk1, hk2⟩ K hK
    simp only [zipT]
    clear FX hga hpr
    have hpr := hlm
    rcases Nat.lt_or_ge k ws.length with hk | hk
    · have hga := nsV_get hk
      have hsu := fun h => ext_all hk2 h
      have hbad : ¬ (-100 ≤ ws.getD k 0 ∧ ws.getD k 0 ≤ 100) → ckW b ws = 2 := fun h => by rw [hck, if_pos (fun g => h (g k hk))]
      clear hck
      generalize ws.getD k 0 = w at *
      (have FX := And.intro hlm (And.intro hlw hga); repeat' (first | (refine sx ?_ ?_ <;> intro h <;> first | (exfalso; omega) | skip) | (refine g_op ?_; refine g_call ?_; refine g_args ?_; (first | refine s_fn (bwithin_c _ _ _ _) ?_ | refine s_fn (hpr _) ?_) <;> try first | omega | assumption) | refine ny ?_ | refine WA_block ?_))
      all_goals (try (exfalso; omega))
      all_goals try
        ((refine r_es hQ ?_; try with_reducible rfl)
         exact congrArg (V.int .i64) (hbad (by omega)).symm
         done)
      all_goals (refine nextL_ hK (k + 1) ⟨hk, hsu (by omega)⟩ (by omega))
    · obtain rfl : k = ws.length := by omega
      clear hK
      have hga := hlm
      have hsp : smallP 100 ws := hk2
      rw [if_neg (fun g => g hsp)] at hck
      have hpr := fun m => rproves_c b hb hef ws h1 (wOk_of hsp) m
      have hpv : prvB b ws = !decide (mtW b ws) := rfl
      by_cases h3 : mtW b ws
      · rw [if_pos h3] at hck
        rw [hpv, decide_eq_true h3] at hpr
        (have FX := And.intro hlm (And.intro hlw hga); repeat' (first | (refine sx ?_ ?_ <;> intro h <;> first | (exfalso; omega) | skip) | (refine g_op ?_; refine g_call ?_; refine g_args ?_; (first | refine s_fn (bwithin_c _ _ _ _) ?_ | refine s_fn (hpr _) ?_) <;> try first | omega | assumption) | refine ny ?_ | refine WA_block ?_))
        all_goals (try (exfalso; omega))
        all_goals ((refine r_es hQ ?_; try with_reducible rfl))
        all_goals (exact congrArg (V.int .i64) hck.symm)
      · rw [if_neg h3] at hck
        rw [hpv, decide_eq_false h3] at hpr
        (have FX := And.intro hlm (And.intro hlw hga); repeat' (first | (refine sx ?_ ?_ <;> intro h <;> first | (exfalso; omega) | skip) | (refine g_op ?_; refine g_call ?_; refine g_args ?_; (first | refine s_fn (bwithin_c _ _ _ _) ?_ | refine s_fn (hpr _) ?_) <;> try first | omega | assumption) | refine ny ?_ | refine WA_block ?_))
        all_goals (try (exfalso; omega))
        all_goals ((refine r_es hQ ?_; try with_reducible rfl))
        all_goals (exact congrArg (V.int .i64) hck.symm)
  · rw [if_pos h1] at hck
    rw [hck]
    refine Gives_in Try.func43 rfl Try.ntmps43 Try.results43 (by kernel_rfl) (by simp) rfl fun Q hQ => ?_
    (have FX := And.intro hlm (And.intro hlw hga); repeat' (first | (refine sx ?_ ?_ <;> intro h <;> first | (exfalso; omega) | skip) | (refine g_op ?_; refine g_call ?_; refine g_args ?_; (first | refine s_fn (bwithin_c _ _ _ _) ?_ | refine s_fn (hpr _) ?_) <;> try first | omega | assumption) | refine ny ?_ | refine WA_block ?_))
    all_goals (try (exfalso; omega))
    all_goals ((refine r_es hQ ?_; try with_reducible rfl))
end Go.Proofs.Ytaoakololkcepaa
