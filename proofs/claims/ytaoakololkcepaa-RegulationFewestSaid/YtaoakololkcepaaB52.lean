/- contracts: all steps, one after the other, of the reference -/
import Derived.Test.YtaoakololkcepaaB27s
import Derived.Test.YtaoakololkcepaaB49
import Derived.Test.YtaoakololkcepaaBU
set_option linter.unusedSimpArgs false
set_option linter.unusedVariables false
namespace Go.Proofs.Ytaoakololkcepaa
open Go.RowKit
attribute [local irreducible] WA WOs WDs WAn qThen qBlock tput
set_option maxHeartbeats 1000000
set_option maxRecDepth 20000
set_option linter.unusedSimpArgs false
set_option linter.unusedVariables false
set_option maxHeartbeats 4000000

theorem bcopyints_s (l : List Int) (hl : l.length ≤ 100000) (m : Mem) (k : Nat) {st : Sta} (hk : m[k]? = some (.cells st 3 1 (nsV l)) := by first | exact ev_ | fail) (n : Nat) (hn : n = l.length) : Gives Try.prog 20 [.sl k n] m (.lst (nsV l)) := by
  subst hn
  have hla : (nsV l).length = l.length := nsV_length
  have hal : ∀ n, n = 1 → (nsV l).all (fun e => e.length == n) = true := fun n h => nsV_all h
  have hkl := lend_get2 hk
  have htk : (nsV l).take l.length = nsV l := List.take_of_length_le (by rw [hla]; exact Nat.le_refl _)
  have hp := nsV_plain l
  refine CallA_in Try.func20 rfl Try.ntmps20 Try.results20 (by kernel_rfl) (by simp) fun Q hQ => ?_
  (have FX := And.intro hla (And.intro hal (And.intro hkl htk)); repeat' (first | (refine sx ?_ ?_ <;> intro h <;> first | (exfalso; omega) | skip) | refine ny ?_ | refine WA_block ?_))
  all_goals (try (exfalso; omega))
  all_goals (refine r_esA hQ (fin_sl (D := []) (B := lend m) (j := 1) (by simp) rfl (by rw [hla]; exact Nat.le_refl _) (by rw [htk]; exact hp) ⟨by rw [htk], rfl⟩))
theorem rpasses_s (b : BnR) (hb : Bnd b) (l : List Int) (hl : l.length = b.ads.length) (hs : ∀ k, k < b.ads.length → -1000 ≤ l.getD k 0 ∧ l.getD k 0 ≤ 1000) (m : Mem) (k : Nat) {st : Sta} (hk : m[k]? = some (.cells st 3 1 (nsV l)) := by first | exact ev_ | fail) (n : Nat) (hn : n = l.length) : Gives Try.prog 55 [.agg [.lst (mssV b.ms), .lst (adsV b.ads)], .sl k n] m (.int .i64 (pasK b.ads l b.ads.length)) := by
  subst hn
  refine Gives_fz hk (by simp [V.flat]) ?_
  have e : ([.agg [.lst (mssV b.ms), .lst (adsV b.ads)], .sl k l.length] : List V).map (frzV k (nsV l)) = [.agg [.lst (mssV b.ms), .lst (adsV b.ads)], .lst (nsV l)] := by
    simp only [List.map_cons, List.map_nil, fz_nsV]
    rfl
  rw [e]
  exact rpasses_c b hb l hl hs _

theorem rsizes_c (l : List Int) (hl : l.length ≤ 1000) (hs : ∀ k, k < l.length → -1000 ≤ l.getD k 0 ∧ l.getD k 0 ≤ 1000) (m : Mem) : Gives Try.prog 104 [.lst (nsV l)] m (.int .i64 (sumA l l.length)) := by
  have hln := nsV_length (l := l)
  have hga := hln
  have hab := hln
  refine Gives_in Try.func104 rfl Try.ntmps104 Try.results104 (by kernel_rfl) (by simp) rfl fun Q hQ => ?_
  (have FX := And.intro hln hga; repeat' (first | (refine sx ?_ ?_ <;> intro h <;> first | (exfalso; omega) | skip) | (refine g_op ?_; refine g_call ?_; refine g_args ?_; (first | refine s_fn (hab _) ?_) <;> try first | omega | assumption) | refine ny ?_ | refine WA_block ?_))
  all_goals (try (exfalso; omega))
  refine WA_while (σ := Nat) [0, 3, 4] (fun i => [.lst (nsV l), .int .i64 (sumA l i), .int .i64 i]) (fun _ => lend m ++ []) (fun i => i ≤ l.length) (fun i => l.length - i) 0 (Nat.zero_le _) tv_ rfl ?_
  rintro i hi1 K hK
  simp only [zipT]
  clear FX hga hab
  have hsb := sumA_bd hs i hi1
  rcases Nat.lt_or_ge i l.length with hi | hi
  · have hga := nsV_get hi
    have hsi := hs i hi
    have hsu : sumA l (i + 1) = sumA l i + ((l.getD i 0).natAbs : Int) := rfl
    generalize l.getD i 0 = x at *
    have hab := fun m => babs_c x (by omega) (by omega) m
    generalize sumA l i = s at *
    (have FX := And.intro hln hga; repeat' (first | (refine sx ?_ ?_ <;> intro h <;> first | (exfalso; omega) | skip) | (refine g_op ?_; refine g_call ?_; refine g_args ?_; (first | refine s_fn (hab _) ?_) <;> try first | omega | assumption) | refine ny ?_ | refine WA_block ?_))
    all_goals (try (exfalso; omega))
    all_goals (refine next_ hK (i + 1) hi (by omega) (by rw [hsu]; exact tv_))
  · obtain rfl : i = l.length := by omega
    have hga := hln
    have hab := hln
    (have FX := And.intro hln hga; repeat' (first | (refine sx ?_ ?_ <;> intro h <;> first | (exfalso; omega) | skip) | (refine g_op ?_; refine g_call ?_; refine g_args ?_; (first | refine s_fn (hab _) ?_) <;> try first | omega | assumption) | refine ny ?_ | refine WA_block ?_))
    all_goals (try (exfalso; omega))
    all_goals ((refine r_es hQ ?_; try with_reducible rfl))
theorem rsizes_s (l : List Int) (hl : l.length ≤ 1000) (hs : ∀ k, k < l.length → -1000 ≤ l.getD k 0 ∧ l.getD k 0 ≤ 1000) (m : Mem) (k : Nat) {st : Sta} (hk : m[k]? = some (.cells st 3 1 (nsV l)) := by first | exact ev_ | fail) (n : Nat) (hn : n = l.length) : Gives Try.prog 104 [.sl k n] m (.int .i64 (sumA l l.length)) := by
  subst hn
  refine Gives_fz hk (by simp [V.flat]) ?_
  show Gives _ _ [frzV k (nsV l) (.sl k l.length)] _ _
  rw [fz_nsV]
  exact rsizes_c l hl hs _
theorem nsV_flat (l : List Int) : (nsV l).all flatL = true := by simp [nsV, flatL, V.flat]
/-- the list behind a try to go on -/
def nxL (ads : List AdR) (l : List Int) : List Int := match crL ads ads.length l with
  | (l', some k) => l'.set k (l'.getD k 0 + 1)
  | (l', none) => l'
theorem crL_len {ads : List AdR} : ∀ (k : Nat) (l : List Int), (crL ads k l).1.length = l.length
  | 0, l => rfl
  | k + 1, l => by
    rw [crL_succ]
    split
    · rw [crL_len k, List.length_set]
    · rfl
theorem uB52_103_4 {N : Nat} {l : List Oper} {t : List (Nat × V)} {m : Mem} {Q : Exit → List (Nat × V) → Mem → Prop} (h : RgN Try.prog N l t m Q (fun i => if i == 3 || i == 5 || i == 9 then .q else .p) [.one 0, .one 1, .one 2, .one 3, .one 4, .one 5, .one 6, .one 7, .one 8, .one 9, .one 10]) : WA Try.prog N (.region 4 l.toArray true) t m Q := d_rgN h
theorem rnext_w (b : BnR) (hb : Bnd b) (l : List Int) (hst : stOk b.ads l) (k0 : Nat) : CallW Try.prog 103 [.agg [.lst (mssV b.ms), .lst (adsV b.ads)], .sl k0 b.ads.length] k0 (.cells .own 3 1 (nsV l)) (.cells .own 3 1 (nsV (nxL b.ads l))) (.bool (nxA b.ads l).isSome) := by
  have hla := adsV_length (l := b.ads)
  have hlz := hla
  have hga := hla
  have hgb := hla
  have hfa := hb.fa
  have hnl : nxL b.ads l = match crL b.ads b.ads.length l with | (l', some k) => l'.set k (l'.getD k 0 + 1) | (l', none) => l' := rfl
  have hna : nxA b.ads l = match crL b.ads b.ads.length l with | (l', some k) => some (l'.set k (l'.getD k 0 + 1)) | (_, none) => none := rfl
  show CallW Try.prog 103 ([.v (.agg [.lst (mssV b.ms), .lst (adsV b.ads)]), .sl 0 b.ads.length].map (TV.inst fun _ => k0)) k0 _ _ _
  refine CallW_in Try.func103 rfl Try.ntmps103 Try.results103 (by kernel_rfl) (by simp) (nsV_flat _) rfl fun m Q hQ => ?_
  simp only [List.map_cons, List.map_nil, TV.inst]
  (have FX := And.intro hla (And.intro hlz (And.intro hga hgb)); repeat' (first | (refine sx ?_ ?_ <;> intro h <;> first | (exfalso; omega) | skip) | refine ny ?_ | refine WA_block ?_ | (refine uB52_103_4 ?_; refine ⟨by kernel_rfl, ?_⟩)))
  all_goals (try (exfalso; omega))
  refine WA_whileP (σ := Nat × List Int) (M := lend m) [1, 2, 5] (fun s => [.sl (lend m).length b.ads.length, .ptr ((lend m).length + 1) 0 0, .int .i64 ((s.1 : Int) - 1)]) (fun s => [.cells .own 3 1 (nsV s.2), .cells .own 25 2 [[.lst (mssV b.ms), .lst (adsV b.ads)]]]) 2 (fun s => s.1 ≤ b.ads.length ∧ s.2.length = b.ads.length ∧ crL b.ads b.ads.length l = crL b.ads s.1 s.2 ∧ ∀ i, i < s.1 → s.2.getD i 0 = l.getD i 0) (fun s => s.1) (b.ads.length, l) ⟨Nat.le_refl _, hst.1, rfl, fun _ _ => rfl⟩ tv_ rfl (fun _ => rfl) (by intro s s' _ _; simp [conB, conS, V.keeps, V.plain, Blk.flat, flatL, plainL, V.flat]) (fun _ _ _ _ => ⟨.inl (cI_flat _), .inr rfl, trivial⟩) ?_
  rintro ⟨k, lk⟩ ⟨hk1, hk2, hk3, hk4⟩ K hK
  dsimp only at hk1 hk2 hk3 hk4
  simp only [zipT]
  clear FX hlz hga hgb
  have hlz : (nsV lk).length = b.ads.length := by rw [nsV_length]; exact hk2
  rw [hk3] at hnl hna
  cases k with
  | zero =>
    have hga := hla
    have hgb := hla
    have h1 : nxL b.ads l = lk := hnl
    have h2 : (nxA b.ads l).isSome = false := by rw [hna]; rfl
    rw [h1, h2] at hQ
    (have FX := And.intro hla (And.intro hlz (And.intro hga hgb)); repeat' (first | (refine sx ?_ ?_ <;> intro h <;> first | (exfalso; omega) | skip) | refine ny ?_ | refine WA_block ?_ | (refine uB52_103_4 ?_; refine ⟨by kernel_rfl, ?_⟩)))
    all_goals (try (exfalso; omega))
    all_goals ((refine r_esW hQ ?_ ?_ <;> try with_reducible rfl))
  | succ j =>
    have hga := adsV_get (l := b.ads) (i := j) (by omega)
    have hgb := nsV_get (l := lk) (i := j) (by omega)
    have hle := hb.le j (by omega)
    have hmo := hb.mo j (by omega)
    have hsj := hst.2 j (by omega)
    have h4 := hk4 j (by omega)
    rw [← h4] at hsj
    rw [crL_succ] at hnl hna hk3
    have hup : ∀ v, ∀ i, i < j → (lk.set j v).getD i 0 = l.getD i 0 := fun v i hi => by
      rw [getD_set, if_neg (by omega)]
      exact hk4 i (by omega)
    have hsl : ∀ v, (lk.set j v).length = b.ads.length := fun v => by rw [List.length_set]; exact hk2
    have hj1 : ((j + 1 : Nat) : Int) - 1 = (j : Int) := by omega
    rw [hj1]
    clear h4 hk4 hst
    generalize hgx : lk.getD j 0 = x at *
    generalize b.ads.getD j adz = y at *
    obtain ⟨yn, ye, yl, ym, yp, ya⟩ := y
    unfold adV at hga
    dsimp only at hga hle hmo hsj hnl hna hk3
    by_cases hx : x = ym
    · rw [if_pos hx] at hk3
      (have FX := And.intro hla (And.intro hlz (And.intro hga hgb)); repeat' (first | (refine sx ?_ ?_ <;> intro h <;> first | (exfalso; omega) | skip) | refine ny ?_ | refine WA_block ?_ | (refine uB52_103_4 ?_; refine ⟨by kernel_rfl, ?_⟩)))
      all_goals (try (exfalso; omega))
      all_goals (refine nextP_ hK (j, lk.set j yl) ⟨by omega, hsl _, hk3, hup _⟩ (by dsimp only; omega) (hm := by simp only [nsV_set]; rfl))
    · rw [if_neg hx] at hnl hna
      dsimp only at hnl hna
      have h2 : (nxA b.ads l).isSome = true := by rw [hna]; rfl
      rw [hnl, h2] at hQ
      (have FX := And.intro hla (And.intro hlz (And.intro hga hgb)); repeat' (first | (refine sx ?_ ?_ <;> intro h <;> first | (exfalso; omega) | skip) | refine ny ?_ | refine WA_block ?_ | (refine uB52_103_4 ?_; refine ⟨by kernel_rfl, ?_⟩)))
      all_goals (try (exfalso; omega))
      all_goals ((refine r_esW hQ ?_ ?_ <;> try with_reducible rfl))
      all_goals (simp only [nsV_set, hgx])
theorem uB52_40_6 {N : Nat} {l : List Oper} {t : List (Nat × V)} {m : Mem} {Q : Exit → List (Nat × V) → Mem → Prop} (h : RgN Try.prog N l t m Q (fun i => if i == 3 || i == 5 || i == 9 || i == 11 || i == 15 || i == 16 || i == 17 then .q else .p) [.one 0, .one 1, .one 2, .one 3, .one 4, .one 5, .one 6, .one 7, .one 8, .one 9, .one 10, .one 11, .one 12, .one 13, .one 14, .one 15, .one 16, .one 17]) : WA Try.prog N (.region 6 l.toArray true) t m Q := d_rgN h
theorem rbroken_s (b : BnR) (hb : Bnd b) (hef : ∀ k, k < b.ads.length → (b.ads.getD k adz).effs.length ≤ 1000) (l : List Int) (hl : l.length = b.ads.length) (hs : ∀ k, k < b.ads.length → -1000 ≤ l.getD k 0 ∧ l.getD k 0 ≤ 1000) (n : Nat) (hn0 : n = l.length) (m : Mem) (k0 : Nat) {st : Sta} (hk0 : m[k0]? = some (.cells st 3 1 (nsV l)) := by first | exact ev_ | fail) : Gives Try.prog 40 [.agg [.lst (mssV b.ms), .lst (adsV b.ads)], .sl k0 n] m (.lst (nuV (brkP b l b.ms.length))) := by
  have hlm := mssV_length (l := b.ms)
  have hlv : (nsV (valsP b l b.ms.length)).length = b.ms.length := by rw [nsV_length, valsP_length]
  have hla := adsV_length (l := b.ads)
  have hgm := hla
  have hgb := hla
  have hll := hla
  have hlt := hla
  have hkl := lend_get2 hk0
  have hvs := fun X => rvalues_s b hb hef l hl hs n hn0 (lend m ++ X) k0 (hkl X)
  have hfa := hb.fa
  have hfm := hb.fm
  suffices key : CallA Try.prog 40 [.agg [.lst (mssV b.ms), .lst (adsV b.ads)], .sl k0 n] m (fun v' mo => v' = oV (nuV (brkP b l b.ms.length)) ∧ mo = none) from Gives_weak key (wk_oV _)
  refine CallA_in Try.func40 rfl Try.ntmps40 Try.results40 (by kernel_rfl) (by simp) fun Q hQ => ?_
  (have FX := And.intro hlm (And.intro hlv (And.intro hla (And.intro hgm (And.intro hgb (And.intro hll hlt))))); repeat' (first | (refine sx ?_ ?_ <;> intro h <;> first | (exfalso; omega) | skip) | (refine g_op ?_; refine g_call ?_; refine g_args ?_; (first | refine s_fn (hvs _) ?_ | refine s_fn (bwithin_c _ _ _ _) ?_) <;> try first | omega | assumption) | refine ny ?_ | refine WA_block ?_ | (refine uB52_40_6 ?_; refine ⟨by kernel_rfl, ?_⟩) | ((first | refine grp_cons (fun _ => hvs _) ?_ | refine grp_cons (fun _ => bwithin_c _ _ _ _) ?_) <;> try first | omega | assumption) | (refine g_d ?_; refine d_args ?_; (first | refine d_fn (hvs _) ?_ | refine d_fn (bwithin_c _ _ _ _) ?_ | refine d_fnQ (fun _ => hvs _) ?_ | refine d_fnQ (fun _ => bwithin_c _ _ _ _) ?_) <;> try first | omega | assumption) | (refine g_d ?_; (first | refine d_fnY (hvs _) ?_ | refine d_fnY (bwithin_c _ _ _ _) ?_) <;> try first | omega | assumption)))
  refine WA_whileJ (σ := Nat) (L := lend m) (X := [.cells .own 25 2 [[.lst (mssV b.ms), .lst (adsV b.ads)]]]) [2, 5, 6, 7] (fun i => [.ptr 0 0 0, .v (.lst (nsV (valsP b l b.ms.length))), nuSt 1 (brkP b l i), .v (.int .i64 i)]) (fun i => rkE b (brkP b l i)) (fun i => i ≤ b.ms.length) (fun i => b.ms.length - i) 0 [0] (Nat.zero_le _) ?_ rfl rfl (by decide) (by decide) (fun s _ => rkS_ok (ls := [.int .i64 s])) (fun _ _ => rkE_ok) ?_
  · exact tv_
  rintro i hi1 B ⟨D, hB⟩ K hK
  clear FX hgm hgb hll hlt hvs
  have hvs := hla
  have hvl := brkP_le b l i
  rcases Nat.lt_or_ge i b.ms.length with hi | hi
  · have hgm := mssV_get hi
    have hgb := nsV_get (l := valsP b l b.ms.length) (i := i) (by rw [valsP_length]; exact hi)
    rw [valsP_get hi] at hgb
    have hbs := brkP_succ b l i
    have hbb : brkB b l i = !decide ((b.ms.getD i msz).low ≤ valP b l i ∧ valP b l i ≤ (b.ms.getD i msz).high) := rfl
    have hnx := hK (i + 1)
    have hny := fun (_ : Unit) => hnx
    clear hnx hK
    generalize b.ms.getD i msz = y at hgm hbb
    obtain ⟨ynm, yva, ylo, yhi⟩ := y
    unfold msV at hgm
    dsimp only at hgm hbb
    have hb1 : ¬ (ylo ≤ valP b l i ∧ valP b l i ≤ yhi) → brkP b l (i + 1) = brkP b l i ++ [i] := fun h => by rw [hbs, if_pos (hbb.trans (by rw [decide_eq_false h]; rfl))]
    have hb2 : (ylo ≤ valP b l i ∧ valP b l i ≤ yhi) → brkP b l (i + 1) = brkP b l i := fun h => by rw [hbs, if_neg (by rw [hbb, decide_eq_true h]; decide)]
    clear hbs hbb
    generalize valP b l i = vv at *
    generalize hbk : brkP b l i = out at *
    generalize nsV (valsP b l b.ms.length) = VL at *
    cases out with
    | nil =>
      have hll := hla
      have hlt := hla
      simp only [rkE, benT, nuSt, nuE]
      simp only [List.map_cons, List.map_nil, TB.inst, TV.inst, tv_map, zipT, List.cons_append, List.nil_append, Nat.add_zero]
      (have FX := And.intro hlm (And.intro hlv (And.intro hla (And.intro hgm (And.intro hgb (And.intro hll hlt))))); repeat' (first | (refine sx ?_ ?_ <;> intro h <;> first | (exfalso; omega) | skip) | (refine g_op ?_; refine g_call ?_; refine g_args ?_; (first | refine s_fn (hvs _) ?_ | refine s_fn (bwithin_c _ _ _ _) ?_) <;> try first | omega | assumption) | refine ny ?_ | refine WA_block ?_ | (refine uB52_40_6 ?_; refine ⟨by kernel_rfl, ?_⟩) | ((first | refine grp_cons (fun _ => hvs _) ?_ | refine grp_cons (fun _ => bwithin_c _ _ _ _) ?_) <;> try first | omega | assumption) | (refine g_d ?_; refine d_args ?_; (first | refine d_fn (hvs _) ?_ | refine d_fn (bwithin_c _ _ _ _) ?_ | refine d_fnQ (fun _ => hvs _) ?_ | refine d_fnQ (fun _ => bwithin_c _ _ _ _) ?_) <;> try first | omega | assumption) | (refine g_d ?_; (first | refine d_fnY (hvs _) ?_ | refine d_fnY (bwithin_c _ _ _ _) ?_) <;> try first | omega | assumption)))
      all_goals (try (exfalso; first | omega | simp_all; done))
      all_goals first
        | (have h2 := hb1 (by assumption)
           rw [h2] at hny
           (refine nextU_ hny (()) [0, 2] (hi) (by omega) ?_ (ht := ?_); (focus (simp only [rkE, benT, nuE, List.cons_append, List.nil_append, List.map_cons, List.map_nil, TB.inst, TV.inst, tv_map, List.cons_append, List.nil_append]; first | rfl | (simp [ptsV, ptV]; done) | (simp [hpsV, hpV]; done) | (simp [frsV, frV]; done) | (simp [txV]; done) | (simp [prtsV, prtV]; done))); (simp only [nuSt, List.cons_append, List.nil_append, List.length_append, List.length_cons, List.length_nil, Nat.zero_add, List.map_cons, List.map_nil, TV.inst, List.getD_cons_zero, List.getD_cons_succ]; exact tv_)))
        | (have h2 := hb2 (by assumption)
           rw [h2] at hny
           (refine nextU_ hny (()) [0] (hi) (by omega) ?_ (ht := ?_); (focus (simp only [rkE, benT, nuE, List.map_cons, List.map_nil, TB.inst, TV.inst, tv_map, List.cons_append, List.nil_append]; first | rfl | (simp [ptsV, ptV]; done) | (simp [hpsV, hpV]; done) | (simp [frsV, frV]; done) | (simp [txV]; done) | (simp [prtsV, prtV]; done))); (simp only [nuSt, List.map_cons, List.map_nil, TV.inst, List.getD_cons_zero, List.getD_cons_succ]; exact tv_)))
    | cons p r =>
      have hll : (nuV (p :: r)).length = r.length + 1 := nuV_length
      have hlt : (nuV (p :: r)).take (r.length + 1) = nuV (p :: r) := by rw [List.take_of_length_le (by rw [hll]; exact Nat.le_refl _)]
      have hrl : r.length + 1 ≤ i := by simpa using hvl
      simp only [rkE, benT, nuSt, nuE]
      simp only [List.map_cons, List.map_nil, TB.inst, TV.inst, tv_map, zipT, List.cons_append, List.nil_append, Nat.add_zero]
      (have FX := And.intro hlm (And.intro hlv (And.intro hla (And.intro hgm (And.intro hgb (And.intro hll hlt))))); repeat' (first | (refine sx ?_ ?_ <;> intro h <;> first | (exfalso; omega) | skip) | (refine g_op ?_; refine g_call ?_; refine g_args ?_; (first | refine s_fn (hvs _) ?_ | refine s_fn (bwithin_c _ _ _ _) ?_) <;> try first | omega | assumption) | refine ny ?_ | refine WA_block ?_ | (refine uB52_40_6 ?_; refine ⟨by kernel_rfl, ?_⟩) | ((first | refine grp_cons (fun _ => hvs _) ?_ | refine grp_cons (fun _ => bwithin_c _ _ _ _) ?_) <;> try first | omega | assumption) | (refine g_d ?_; refine d_args ?_; (first | refine d_fn (hvs _) ?_ | refine d_fn (bwithin_c _ _ _ _) ?_ | refine d_fnQ (fun _ => hvs _) ?_ | refine d_fnQ (fun _ => bwithin_c _ _ _ _) ?_) <;> try first | omega | assumption) | (refine g_d ?_; (first | refine d_fnY (hvs _) ?_ | refine d_fnY (bwithin_c _ _ _ _) ?_) <;> try first | omega | assumption)))
      all_goals (try (exfalso; first | omega | simp_all; done))
      all_goals first
        | (have h2 := hb1 (by assumption)
           rw [h2] at hny
           have hsn : nuV (p :: (r ++ [i])) = nuV (p :: r) ++ [[V.int .i64 (i : Int)]] := nuV_snoc (p :: r) i
           (refine nextU_ hny (()) [0, 3] (hi) (by omega) ?_ (ht := ?_); (focus (simp only [rkE, benT, nuE, hsn, List.cons_append, List.nil_append, List.map_cons, List.map_nil, TB.inst, TV.inst, tv_map, List.cons_append, List.nil_append]; first | rfl | (simp [ptsV, ptV]; done) | (simp [hpsV, hpV]; done) | (simp [frsV, frV]; done) | (simp [txV]; done) | (simp [prtsV, prtV]; done))); (simp only [nuSt, List.cons_append, List.nil_append, List.length_append, List.length_cons, List.length_nil, Nat.zero_add, List.map_cons, List.map_nil, TV.inst, List.getD_cons_zero, List.getD_cons_succ]; exact tv_)))
        | (have h2 := hb2 (by assumption)
           rw [h2] at hny
           (refine nextU_ hny (()) [0, 1] (hi) (by omega) ?_ (ht := ?_); (focus (simp only [rkE, benT, nuE, List.map_cons, List.map_nil, TB.inst, TV.inst, tv_map, List.cons_append, List.nil_append]; first | rfl | (simp [ptsV, ptV]; done) | (simp [hpsV, hpV]; done) | (simp [frsV, frV]; done) | (simp [txV]; done) | (simp [prtsV, prtV]; done))); (simp only [nuSt, List.map_cons, List.map_nil, TV.inst, List.getD_cons_zero, List.getD_cons_succ]; exact tv_)))
  · obtain rfl : i = b.ms.length := by omega
    have hgm := hla
    have hgb := hla
    clear hK
    generalize nsV (valsP b l b.ms.length) = VL at *
    generalize brkP b l b.ms.length = out at *
    cases out with
    | nil =>
      have hll := hla
      have hlt := hla
      have e0 : oV (nuV []) = V.nilsl := rfl
      rw [e0] at hQ
      simp only [rkE, benT, nuSt, nuE]
      simp only [List.map_cons, List.map_nil, TB.inst, TV.inst, tv_map, zipT, List.cons_append, List.nil_append, Nat.add_zero]
      (have FX := And.intro hlm (And.intro hlv (And.intro hla (And.intro hgm (And.intro hgb (And.intro hll hlt))))); repeat' (first | (refine sx ?_ ?_ <;> intro h <;> first | (exfalso; omega) | skip) | (refine g_op ?_; refine g_call ?_; refine g_args ?_; (first | refine s_fn (hvs _) ?_ | refine s_fn (bwithin_c _ _ _ _) ?_) <;> try first | omega | assumption) | refine ny ?_ | refine WA_block ?_ | (refine uB52_40_6 ?_; refine ⟨by kernel_rfl, ?_⟩) | ((first | refine grp_cons (fun _ => hvs _) ?_ | refine grp_cons (fun _ => bwithin_c _ _ _ _) ?_) <;> try first | omega | assumption) | (refine g_d ?_; refine d_args ?_; (first | refine d_fn (hvs _) ?_ | refine d_fn (bwithin_c _ _ _ _) ?_ | refine d_fnQ (fun _ => hvs _) ?_ | refine d_fnQ (fun _ => bwithin_c _ _ _ _) ?_) <;> try first | omega | assumption) | (refine g_d ?_; (first | refine d_fnY (hvs _) ?_ | refine d_fnY (bwithin_c _ _ _ _) ?_) <;> try first | omega | assumption)))
      all_goals (try (exfalso; omega))
      all_goals (refine r_esA hQ (.inl ⟨rfl, rfl, rfl⟩))
    | cons p r =>
      have hll : (nuV (p :: r)).length = r.length + 1 := nuV_length
      have hlt : (nuV (p :: r)).take (r.length + 1) = nuV (p :: r) := by rw [List.take_of_length_le (by rw [hll]; exact Nat.le_refl _)]
      have e0 : oV (nuV (p :: r)) = V.lst (nuV (p :: r)) := rfl
      rw [e0] at hQ
      simp only [rkE, benT, nuSt, nuE]
      simp only [List.map_cons, List.map_nil, TB.inst, TV.inst, tv_map, zipT, List.cons_append, List.nil_append, Nat.add_zero]
      (have FX := And.intro hlm (And.intro hlv (And.intro hla (And.intro hgm (And.intro hgb (And.intro hll hlt))))); repeat' (first | (refine sx ?_ ?_ <;> intro h <;> first | (exfalso; omega) | skip) | (refine g_op ?_; refine g_call ?_; refine g_args ?_; (first | refine s_fn (hvs _) ?_ | refine s_fn (bwithin_c _ _ _ _) ?_) <;> try first | omega | assumption) | refine ny ?_ | refine WA_block ?_ | (refine uB52_40_6 ?_; refine ⟨by kernel_rfl, ?_⟩) | ((first | refine grp_cons (fun _ => hvs _) ?_ | refine grp_cons (fun _ => bwithin_c _ _ _ _) ?_) <;> try first | omega | assumption) | (refine g_d ?_; refine d_args ?_; (first | refine d_fn (hvs _) ?_ | refine d_fn (bwithin_c _ _ _ _) ?_ | refine d_fnQ (fun _ => hvs _) ?_ | refine d_fnQ (fun _ => bwithin_c _ _ _ _) ?_) <;> try first | omega | assumption) | (refine g_d ?_; (first | refine d_fnY (hvs _) ?_ | refine d_fnY (bwithin_c _ _ _ _) ?_) <;> try first | omega | assumption)))
      all_goals (try (exfalso; omega))
      all_goals (refine r_esA hQ (fin_sl (j := 1) hB rfl (by rw [hll]; exact Nat.le_refl _) (by rw [hlt]; exact nuV_plain _) ⟨by rw [hlt], rfl⟩))
end Go.Proofs.Ytaoakololkcepaa
