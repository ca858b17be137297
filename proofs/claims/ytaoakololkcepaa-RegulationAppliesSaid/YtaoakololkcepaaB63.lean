/- contract: the reference's bench behind steps -/
import Derived.Test.YtaoakololkcepaaB62
import Derived.Test.YtaoakololkcepaaB57
import Derived.Test.YtaoakololkcepaaB27
set_option linter.unusedSimpArgs false
set_option linter.unusedVariables false
namespace Go.Proofs.Ytaoakololkcepaa
open Go.RowKit
attribute [local irreducible] WA WOs WDs WAn qThen qBlock tput
set_option maxHeartbeats 1000000
set_option maxRecDepth 20000
set_option linter.unusedSimpArgs false
set_option linter.unusedVariables false
set_option maxHeartbeats 8000000
def axM (b : BnR) (l : List Int) (i : Nat) : List AdR := (List.range b.ads.length).map fun k => if k < i then apA b l k else b.ads.getD k adz
theorem axM_len (b : BnR) (l : List Int) (i : Nat) : (axM b l i).length = b.ads.length := by simp [axM]
theorem axM_zero (b : BnR) (l : List Int) : axM b l 0 = b.ads := mix_zero _ _ _
theorem axM_all (b : BnR) (l : List Int) : axM b l b.ads.length = (apB b l).ads := mix_all _ _ _
theorem axM_set (b : BnR) (l : List Int) (i : Nat) : (axM b l i).set i (apA b l i) = axM b l (i + 1) := mix_set _ _ _ _
theorem axM_get {b : BnR} {l : List Int} {i : Nat} (h : i < b.ads.length) : (axM b l i).getD i adz = b.ads.getD i adz := by
  unfold axM
  rw [rmap_get _ _ h, if_neg (by omega)]
theorem adsV_set (l : List AdR) (k : Nat) (x : AdR) : adsV (l.set k x) = (adsV l).set k (adV x) := by
  unfold adsV; rw [List.map_set]
theorem fin_tgg {m0 D X B : Mem} {i j k n : Nat} {st st' : Sta} {ty sz ty' sz' : Nat} {es es' : List (List V)} {c : Int} {R : V → Option Mem → Prop} (hB : B = lend m0 ++ D) (hX : X[i]? = some (.cells st ty sz es)) (hk : k ≤ es.length) (hp : plainLL (es.take k) = true)
    (hX' : X[j]? = some (.cells st' ty' sz' es')) (hn : n ≤ es'.length) (hp' : plainLL (es'.take n) = true) (h : R (.tup [.agg [.lst (es.take k), .lst (es'.take n)], .int .i64 c]) none) :
    Fin m0 R (.tup [.agg [.sl (B.length + i) k, .sl (B.length + j) n], .int .i64 c]) (B ++ X) := by
  subst hB
  refine .inr ⟨D ++ X, _, by simp, ?_, h⟩
  show (frzs (frz _ _ 3) [_, _]).map V.tup = _
  have e : frz ((lend m0 ++ D) ++ X) m0.length 3 (.agg [.sl ((lend m0 ++ D).length + i) k, .sl ((lend m0 ++ D).length + j) n]) = some (.agg [.lst (es.take k), .lst (es'.take n)]) := by
    show (frzs (frz _ _ 2) _).map V.agg = _
    rw [frzs_cons (frz_sl (n := 1) hX hk hp) (frzs_cons (frz_sl (n := 1) hX' hn hp') rfl)]
    rfl
  rw [frzs_cons e (frzs_cons (frz_int _ _ _ _ _) rfl)]
  rfl
theorem fin_tgm {m0 D X B : Mem} {i k : Nat} {st : Sta} {ty sz : Nat} {es : List (List V)} {c : Int} {R : V → Option Mem → Prop} (hB : B = lend m0 ++ D) (hX : X[i]? = some (.cells st ty sz es)) (hk : k ≤ es.length) (hp : plainLL (es.take k) = true)
    (h : R (.tup [.agg [.lst (es.take k), .nilsl], .int .i64 c]) none) :
    Fin m0 R (.tup [.agg [.sl (B.length + i) k, .nilsl], .int .i64 c]) (B ++ X) := by
  subst hB
  refine .inr ⟨D ++ X, _, by simp, ?_, h⟩
  show (frzs (frz _ _ 3) [_, _]).map V.tup = _
  have e : frz ((lend m0 ++ D) ++ X) m0.length 3 (.agg [.sl ((lend m0 ++ D).length + i) k, .nilsl]) = some (.agg [.lst (es.take k), .nilsl]) := by
    show (frzs (frz _ _ 2) _).map V.agg = _
    rw [frzs_cons (frz_sl (n := 1) hX hk hp) (frzs_cons frz_nl rfl)]
    rfl
  rw [frzs_cons e (frzs_cons (frz_int _ _ _ _ _) rfl)]
  rfl
theorem uB63_30_8 {N : Nat} {l : List Oper} {t : List (Nat × V)} {m : Mem} {Q : Exit → List (Nat × V) → Mem → Prop} (h : RgN Try.prog N l t m Q (fun i => if i == 9 then .w else if i == 1 || i == 6 then .q else .p) [.one 0, .one 1, .one 2, .one 3, .one 4, .one 5, .one 6, .one 7, .one 8, .one 9]) : WA Try.prog N (.region 8 l.toArray true) t m Q := d_rgN h
theorem uB63_30_13 {N : Nat} {l : List Oper} {t : List (Nat × V)} {m : Mem} {Q : Exit → List (Nat × V) → Mem → Prop} (h : RgN Try.prog N l t m Q (fun i => if i == 1 || i == 5 || i == 10 || i == 14 then .q else .p) [.one 0, .one 1, .one 2, .one 3, .one 4, .one 5, .one 6, .one 7, .one 8, .one 9, .one 10, .one 11, .one 12, .one 13, .one 14, .one 15, .one 16, .one 17]) : WA Try.prog N (.region 13 l.toArray true) t m Q := d_rgN h
theorem uB63_30_15 {N : Nat} {l : List Oper} {t : List (Nat × V)} {m : Mem} {Q : Exit → List (Nat × V) → Mem → Prop} (h : RgT Try.prog N l t m Q 98 (fun i => if i == 22 || i == 25 then .f else if i == 1 || i == 4 || i == 7 || i == 11 || i == 14 || i == 18 then .q else .p) [.one 0, .one 1, .one 2, .one 3, .one 4, .one 5, .one 6, .one 7, .one 8, .one 9, .one 10, .one 11, .one 12, .one 13, .one 14, .one 15, .one 16, .one 17, .one 18, .one 19, .one 20, .one 21, .one 22, .one 23, .one 24, .one 25]) : WA Try.prog N (.region 15 l.toArray true) t m Q := d_rgT h
theorem rapply_c (b : BnR) (hb : Bl b) (hbd : Bnd b) (l : List Int) (hst : stOk b.ads l) (m : Mem) : Gives Try.prog 30 [.agg [.lst (mssV b.ms), .lst (adsV b.ads)], .lst (nsV l)] m (.tup [.agg (bnV (apR b l)), .int .i64 (apE b l)]) := by
  have hfa := hbd.fa
  have hfm := hbd.fm
  have hsb := steps_bd hbd hst.2
  have hlq := hst.1
  have hla := adsV_length (l := b.ads)
  have hlm := mssV_length (l := b.ms)
  have hln := nsV_length (l := l)
  have hga := hla
  have hgb := hla
  have hgs := hla
  have hgc := hla
  have hrv := fun m => rvalues_c b hbd (fun k hk => hb.ae k hk) l hst.1 hsb m
  suffices key : CallA Try.prog 30 [.agg [.lst (mssV b.ms), .lst (adsV b.ads)], .lst (nsV l)] m (fun v mo => mo = none ∧ WkV v (.tup [.agg (bnV (apR b l)), .int .i64 (apE b l)])) from Gives_of key fun v mo h => h
  refine CallA_in Try.func30 rfl Try.ntmps30 Try.results30 (by kernel_rfl) (by simp) fun Q hQ => ?_
  refine WA_stop fun K0 hK0 => ?_
  (have FX := And.intro hla (And.intro hlm (And.intro hln (And.intro hga (And.intro hgb (And.intro hgs hgc))))); repeat' (first | (refine sx ?_ ?_ <;> intro h <;> first | (exfalso; omega) | skip) | (refine g_op ?_; refine g_call ?_; refine g_args ?_; (first | refine s_fn (hrv _) ?_ | refine s_fn (bwithin_c _ _ _ _) ?_) <;> try first | omega | assumption) | refine ny ?_ | refine WA_block ?_ | (refine uB63_30_8 ?_; refine ⟨by kernel_rfl, ?_⟩) | (refine uB63_30_13 ?_; refine ⟨by kernel_rfl, ?_⟩) | (refine uB63_30_15 ?_; refine ⟨by kernel_rfl, ?_⟩) | ((first | refine grp_cons (fun _ => hrv _) ?_ | refine grp_cons (fun _ => bwithin_c _ _ _ _) ?_) <;> try first | omega | assumption) | (refine g_d ?_; refine d_args ?_; (first | refine d_fn (hrv _) ?_ | refine d_fn (bwithin_c _ _ _ _) ?_ | refine d_fnQ (fun _ => hrv _) ?_ | refine d_fnQ (fun _ => bwithin_c _ _ _ _) ?_) <;> try first | omega | assumption) | (refine g_d ?_; (first | refine d_fnY (hrv _) ?_ | refine d_fnY (bwithin_c _ _ _ _) ?_) <;> try first | omega | assumption)))
  refine hK0 _ _ ?_
  clear hK0 K0
  refine WA_stop fun K1 hK1 => ?_
  (have FX := And.intro hla (And.intro hlm (And.intro hln (And.intro hga (And.intro hgb (And.intro hgs hgc))))); repeat' (first | (refine sx ?_ ?_ <;> intro h <;> first | (exfalso; omega) | skip) | (refine g_op ?_; refine g_call ?_; refine g_args ?_; (first | refine s_fn (hrv _) ?_ | refine s_fn (bwithin_c _ _ _ _) ?_) <;> try first | omega | assumption) | refine ny ?_ | refine WA_block ?_ | (refine uB63_30_8 ?_; refine ⟨by kernel_rfl, ?_⟩) | (refine uB63_30_13 ?_; refine ⟨by kernel_rfl, ?_⟩) | (refine uB63_30_15 ?_; refine ⟨by kernel_rfl, ?_⟩) | ((first | refine grp_cons (fun _ => hrv _) ?_ | refine grp_cons (fun _ => bwithin_c _ _ _ _) ?_) <;> try first | omega | assumption) | (refine g_d ?_; refine d_args ?_; (first | refine d_fn (hrv _) ?_ | refine d_fn (bwithin_c _ _ _ _) ?_ | refine d_fnQ (fun _ => hrv _) ?_ | refine d_fnQ (fun _ => bwithin_c _ _ _ _) ?_) <;> try first | omega | assumption) | (refine g_d ?_; (first | refine d_fnY (hrv _) ?_ | refine d_fnY (bwithin_c _ _ _ _) ?_) <;> try first | omega | assumption)))
  refine g_op ?_; refine g_call ?_; refine g_args ?_; refine s_fnA (rcopy_o b hb _) ?_
  rintro v mo hv
  rcases hv with ⟨ha, D, rfl, rfl⟩ | ⟨ha, D, rfl, rfl⟩
  · simp only [Option.getD_some, ← List.length_append]
    rw [← List.append_assoc]
    generalize hB' : (lend m ++ [.cells .own 25 2 [[.lst (mssV b.ms), .lst (adsV b.ads)]], .cells .own 25 2 [[.nilsl, .nilsl]]] : Mem) ++ D = B'
    (have FX := And.intro hla (And.intro hlm (And.intro hln (And.intro hga (And.intro hgb (And.intro hgs hgc))))); repeat' (first | (refine sx ?_ ?_ <;> intro h <;> first | (exfalso; omega) | skip) | (refine g_op ?_; refine g_call ?_; refine g_args ?_; (first | refine s_fn (hrv _) ?_ | refine s_fn (bwithin_c _ _ _ _) ?_) <;> try first | omega | assumption) | refine ny ?_ | refine WA_block ?_ | (refine uB63_30_8 ?_; refine ⟨by kernel_rfl, ?_⟩) | (refine uB63_30_13 ?_; refine ⟨by kernel_rfl, ?_⟩) | (refine uB63_30_15 ?_; refine ⟨by kernel_rfl, ?_⟩) | ((first | refine grp_cons (fun _ => hrv _) ?_ | refine grp_cons (fun _ => bwithin_c _ _ _ _) ?_) <;> try first | omega | assumption) | (refine g_d ?_; refine d_args ?_; (first | refine d_fn (hrv _) ?_ | refine d_fn (bwithin_c _ _ _ _) ?_ | refine d_fnQ (fun _ => hrv _) ?_ | refine d_fnQ (fun _ => bwithin_c _ _ _ _) ?_) <;> try first | omega | assumption) | (refine g_d ?_; (first | refine d_fnY (hrv _) ?_ | refine d_fnY (bwithin_c _ _ _ _) ?_) <;> try first | omega | assumption)))
    refine hK1 _ _ ?_
    have hBl : B'.length = (lend m).length + (D.length + 2) := by rw [← hB']; simp only [List.length_append, List.length_cons, List.length_nil]; omega
    have e6 : B'.length + 1 = (lend m).length + (D.length + 3) := by omega
    have e3 : B'.length = (lend m).length + (D.length + 2) := hBl
    have e4 : B'.length + 1 = (lend m).length + (D.length + 3) := by omega
    refine WA_ren (L := lend m) (ks := [1, 2, 4, 6]) (vs := [.v (.lst (nsV l)), .ptr 0 0 0, .ptr 1 0 0, .ptr 2 0 0]) (Ts := [benT b, .cells .own 25 2 [[.v .nilsl, .v .nilsl]], .cells .own 25 2 [[.sl 3 b.ms.length, .v .nilsl]], .cells .own 81 4 ((mssV b.ms).map (List.map TV.v))]) (js := [0, 1, D.length + 3, D.length + 2]) ⟨[.cells .own 25 2 [[.lst (mssV b.ms), .lst (adsV b.ads)]], .cells .own 25 2 [[.nilsl, .nilsl]]] ++ (D ++ [.cells .own 81 4 (mssV b.ms), .cells .own 25 2 [[.sl (B'.length) b.ms.length, .nilsl]]]), by rw [← hB']; simp only [List.append_assoc], ?_, ?_, by simp⟩ (by decide) (by simp [TV.okT]) (by simp only [benT, List.all_cons, TB.ok, TV.okT, List.all_nil, Bool.and_true, Bool.and_self, tvs_ok, List.length_cons, List.length_nil]; decide) ?_
    · simp only [List.map_cons, List.map_nil, TV.inst, List.getD_cons_zero, List.getD_cons_succ, ← e6]
      exact tv_
    · simp only [List.map_cons, List.map_nil, TB.inst, TV.inst, tv_map, benT, List.getD_cons_zero, List.getD_cons_succ, ← e3, ← e4]
      simp
    clear hK1 K1 e6 e3 e4 hBl
    rintro B ⟨D2, hBD⟩
    simp only [benT]
    simp only [List.map_cons, List.map_nil, TB.inst, TV.inst, tv_map, zipT, List.cons_append, List.nil_append, Nat.add_zero]
    clear FX
    (have FX := And.intro hla (And.intro hlm (And.intro hln (And.intro hga (And.intro hgb (And.intro hgs hgc))))); repeat' (first | (refine sx ?_ ?_ <;> intro h <;> first | (exfalso; omega) | skip) | (refine g_op ?_; refine g_call ?_; refine g_args ?_; (first | refine s_fn (hrv _) ?_ | refine s_fn (bwithin_c _ _ _ _) ?_) <;> try first | omega | assumption) | refine ny ?_ | refine WA_block ?_ | (refine uB63_30_8 ?_; refine ⟨by kernel_rfl, ?_⟩) | (refine uB63_30_13 ?_; refine ⟨by kernel_rfl, ?_⟩) | (refine uB63_30_15 ?_; refine ⟨by kernel_rfl, ?_⟩) | ((first | refine grp_cons (fun _ => hrv _) ?_ | refine grp_cons (fun _ => bwithin_c _ _ _ _) ?_) <;> try first | omega | assumption) | (refine g_d ?_; refine d_args ?_; (first | refine d_fn (hrv _) ?_ | refine d_fn (bwithin_c _ _ _ _) ?_ | refine d_fnQ (fun _ => hrv _) ?_ | refine d_fnQ (fun _ => bwithin_c _ _ _ _) ?_) <;> try first | omega | assumption) | (refine g_d ?_; (first | refine d_fnY (hrv _) ?_ | refine d_fnY (bwithin_c _ _ _ _) ?_) <;> try first | omega | assumption)))
    all_goals (try (exfalso; omega))
    clear FX hga hgb hgs hgc
    refine WA_whileP (σ := Nat) (M := B) [1, 2, 4, 6, 7, 8] (fun i => [.lst (nsV l), .ptr B.length 0 0, .ptr (B.length + 1) 0 0, .ptr (B.length + 2) 0 0, .lst (nsV (valsP b l b.ms.length)), .int .i64 i]) (fun i => [.cells .own 25 2 [[.lst (mssV b.ms), .lst (adsV b.ads)]], .cells .own 25 2 [[.nilsl, .nilsl]], .cells .own 25 2 [[.sl (B.length + 3) b.ms.length, .nilsl]], .cells .own 81 4 (mssV (mxM b l i))]) 4 (fun i => i ≤ b.ms.length ∧ ∀ j, j < i → apMok b l j) (fun i => b.ms.length - i) 0 ⟨Nat.zero_le _, fun j h => absurd h (Nat.not_lt_zero _)⟩ tv_ (by rw [mxM_zero]) (fun _ => rfl) (by intro s s' _ _; simp [conB, conS, V.keeps, V.plain, Blk.flat, flatL, plainL, V.flat]) (fun _ _ _ _ => ⟨.inr rfl, .inr rfl, .inr rfl, .inl (by simp [Blk.flat, mssV, msV, plainL, V.plain]), trivial⟩) ?_
    rintro i ⟨hi1, hi2⟩ K hK
    simp only [zipT]
    clear hlm hrv
    have hrv := hla
    have hlm := mssV_length (l := mxM b l i)
    rw [mxM_len] at hlm
    have hgc : (nsV (valsP b l b.ms.length)).length = b.ms.length := by rw [nsV_length, valsP_length]
    rcases Nat.lt_or_ge i b.ms.length with hi | hi
    · have hga := nsV_get (l := valsP b l b.ms.length) (i := i) (by rw [valsP_length]; exact hi)
      rw [valsP_get hi] at hga
      have hgb := mssV_get (l := mxM b l i) (i := i) (by rw [mxM_len]; exact hi)
      have hgs := congrArg mssV (mxM_set b l i)
      rw [mssV_set] at hgs
      rw [mxM_get hi] at hgb
      have hbad : ¬ apMok b l i → apR b l = ⟨[], []⟩ ∧ apE b l = 2 := fun h => by
        have : ¬ apOk b l := fun g => h (g.1 i hi)
        unfold apR apE
        rw [if_neg this, if_neg this]; exact ⟨rfl, rfl⟩
      have hak : apMok b l i ↔ (-100000 ≤ valP b l i ∧ valP b l i ≤ 100000) := Iff.rfl
      have hap : msV (apM b l i) = [.str (b.ms.getD i msz).name, .int .i64 (valP b l i), .int .i64 (b.ms.getD i msz).low, .int .i64 (b.ms.getD i msz).high] := rfl
      have hgw : msV (b.ms.getD i msz) = [.str (b.ms.getD i msz).name, .int .i64 (b.ms.getD i msz).val, .int .i64 (b.ms.getD i msz).low, .int .i64 (b.ms.getD i msz).high] := rfl
      rw [hap] at hgs
      rw [hgw] at hgb
      have hup := ext_all2 (p := fun j => apMok b l j) hi2
      rw [hak] at hup hbad
      clear hap hak hgw
      (have FX := And.intro hla (And.intro hlm (And.intro hln (And.intro hga (And.intro hgb (And.intro hgs hgc))))); repeat' (first | (refine sx ?_ ?_ <;> intro h <;> first | (exfalso; omega) | skip) | (refine g_op ?_; refine g_call ?_; refine g_args ?_; (first | refine s_fn (hrv _) ?_ | refine s_fn (bwithin_c _ _ _ _) ?_) <;> try first | omega | assumption) | refine ny ?_ | refine WA_block ?_ | (refine uB63_30_8 ?_; refine ⟨by kernel_rfl, ?_⟩) | (refine uB63_30_13 ?_; refine ⟨by kernel_rfl, ?_⟩) | (refine uB63_30_15 ?_; refine ⟨by kernel_rfl, ?_⟩) | ((first | refine grp_cons (fun _ => hrv _) ?_ | refine grp_cons (fun _ => bwithin_c _ _ _ _) ?_) <;> try first | omega | assumption) | (refine g_d ?_; refine d_args ?_; (first | refine d_fn (hrv _) ?_ | refine d_fn (bwithin_c _ _ _ _) ?_ | refine d_fnQ (fun _ => hrv _) ?_ | refine d_fnQ (fun _ => bwithin_c _ _ _ _) ?_) <;> try first | omega | assumption) | (refine g_d ?_; (first | refine d_fnY (hrv _) ?_ | refine d_fnY (bwithin_c _ _ _ _) ?_) <;> try first | omega | assumption)))
      all_goals (try (exfalso; omega))
      all_goals first
        | (obtain ⟨e1, e2⟩ := hbad (by omega)
           refine r_esA hQ (.inl ⟨rfl, rfl, ?_⟩)
           rw [e1, e2]
           exact wk_tup ⟨wk_agg ⟨wk_nil, wk_nil, trivial⟩, WkV.refl _, trivial⟩)
        | exact nextP_ hK (i + 1) ⟨by omega, hup (by omega)⟩ (by omega)
        | trace_state
    · obtain rfl : i = b.ms.length := by omega
      clear hK
      have hga := hla
      have hgb := hla
      have hgs := hla
      (have FX := And.intro hla (And.intro hlm (And.intro hln (And.intro hga (And.intro hgb (And.intro hgs hgc))))); repeat' (first | (refine sx ?_ ?_ <;> intro h <;> first | (exfalso; omega) | skip) | (refine g_op ?_; refine g_call ?_; refine g_args ?_; (first | refine s_fn (hrv _) ?_ | refine s_fn (bwithin_c _ _ _ _) ?_) <;> try first | omega | assumption) | refine ny ?_ | refine WA_block ?_ | (refine uB63_30_8 ?_; refine ⟨by kernel_rfl, ?_⟩) | (refine uB63_30_13 ?_; refine ⟨by kernel_rfl, ?_⟩) | (refine uB63_30_15 ?_; refine ⟨by kernel_rfl, ?_⟩) | ((first | refine grp_cons (fun _ => hrv _) ?_ | refine grp_cons (fun _ => bwithin_c _ _ _ _) ?_) <;> try first | omega | assumption) | (refine g_d ?_; refine d_args ?_; (first | refine d_fn (hrv _) ?_ | refine d_fn (bwithin_c _ _ _ _) ?_ | refine d_fnQ (fun _ => hrv _) ?_ | refine d_fnQ (fun _ => bwithin_c _ _ _ _) ?_) <;> try first | omega | assumption) | (refine g_d ?_; (first | refine d_fnY (hrv _) ?_ | refine d_fnY (bwithin_c _ _ _ _) ?_) <;> try first | omega | assumption)))
      all_goals (try (exfalso; omega))
      have hl0 : l.length = 0 := by rw [hlq, ha]; rfl
      refine WA_rounds 1 ?_
      (have FX := And.intro hla (And.intro hlm (And.intro hln (And.intro hga (And.intro hgb (And.intro hgs hgc))))); repeat' (first | (refine sx ?_ ?_ <;> intro h <;> first | (exfalso; omega) | skip) | (refine g_op ?_; refine g_call ?_; refine g_args ?_; (first | refine s_fn (hrv _) ?_ | refine s_fn (bwithin_c _ _ _ _) ?_) <;> try first | omega | assumption) | refine ny ?_ | refine WA_block ?_ | (refine uB63_30_8 ?_; refine ⟨by kernel_rfl, ?_⟩) | (refine uB63_30_13 ?_; refine ⟨by kernel_rfl, ?_⟩) | (refine uB63_30_15 ?_; refine ⟨by kernel_rfl, ?_⟩) | ((first | refine grp_cons (fun _ => hrv _) ?_ | refine grp_cons (fun _ => bwithin_c _ _ _ _) ?_) <;> try first | omega | assumption) | (refine g_d ?_; refine d_args ?_; (first | refine d_fn (hrv _) ?_ | refine d_fn (bwithin_c _ _ _ _) ?_ | refine d_fnQ (fun _ => hrv _) ?_ | refine d_fnQ (fun _ => bwithin_c _ _ _ _) ?_) <;> try first | omega | assumption) | (refine g_d ?_; (first | refine d_fnY (hrv _) ?_ | refine d_fnY (bwithin_c _ _ _ _) ?_) <;> try first | omega | assumption)))
      all_goals (try (exfalso; omega))
      have hok : apOk b l := ⟨hi2, fun i h => by rw [ha] at h; cases h⟩
      have e1 : apR b l = apB b l := by unfold apR; rw [if_pos hok]
      have e2 : apE b l = 0 := by unfold apE; rw [if_pos hok]
      have e3 : (apB b l).ads = [] := by unfold apB; rw [ha]; rfl
      rw [mxM_all] at hlm
      have htk : (mssV (apB b l).ms).take b.ms.length = mssV (apB b l).ms := List.take_of_length_le (by rw [hlm]; exact Nat.le_refl _)
      rw [mxM_all]
      refine r_esA hQ (fin_tgm (i := 3) hBD rfl (by rw [hlm]; exact Nat.le_refl _) (by rw [htk]; exact mssV_plain _) ⟨rfl, ?_⟩)
      rw [htk, e1, e2]
      unfold bnV
      rw [e3]
      exact wk_tup ⟨wk_agg ⟨WkV.refl _, wk_nil, trivial⟩, WkV.refl _, trivial⟩
  · simp only [Option.getD_some, ← List.length_append]
    rw [← List.append_assoc]
    generalize hB' : (lend m ++ [.cells .own 25 2 [[.lst (mssV b.ms), .lst (adsV b.ads)]], .cells .own 25 2 [[.nilsl, .nilsl]]] : Mem) ++ D = B'
    (have FX := And.intro hla (And.intro hlm (And.intro hln (And.intro hga (And.intro hgb (And.intro hgs hgc))))); repeat' (first | (refine sx ?_ ?_ <;> intro h <;> first | (exfalso; omega) | skip) | (refine g_op ?_; refine g_call ?_; refine g_args ?_; (first | refine s_fn (hrv _) ?_ | refine s_fn (bwithin_c _ _ _ _) ?_) <;> try first | omega | assumption) | refine ny ?_ | refine WA_block ?_ | (refine uB63_30_8 ?_; refine ⟨by kernel_rfl, ?_⟩) | (refine uB63_30_13 ?_; refine ⟨by kernel_rfl, ?_⟩) | (refine uB63_30_15 ?_; refine ⟨by kernel_rfl, ?_⟩) | ((first | refine grp_cons (fun _ => hrv _) ?_ | refine grp_cons (fun _ => bwithin_c _ _ _ _) ?_) <;> try first | omega | assumption) | (refine g_d ?_; refine d_args ?_; (first | refine d_fn (hrv _) ?_ | refine d_fn (bwithin_c _ _ _ _) ?_ | refine d_fnQ (fun _ => hrv _) ?_ | refine d_fnQ (fun _ => bwithin_c _ _ _ _) ?_) <;> try first | omega | assumption) | (refine g_d ?_; (first | refine d_fnY (hrv _) ?_ | refine d_fnY (bwithin_c _ _ _ _) ?_) <;> try first | omega | assumption)))
    refine hK1 _ _ ?_
    have hBl : B'.length = (lend m).length + (D.length + 2) := by rw [← hB']; simp only [List.length_append, List.length_cons, List.length_nil]; omega
    have e6 : B'.length + 2 = (lend m).length + (D.length + 4) := by omega
    have e3 : B'.length = (lend m).length + (D.length + 2) := hBl
    have e4 : B'.length + 1 = (lend m).length + (D.length + 3) := by omega
    refine WA_ren (L := lend m) (ks := [1, 2, 4, 6]) (vs := [.v (.lst (nsV l)), .ptr 0 0 0, .ptr 1 0 0, .ptr 2 0 0]) (Ts := [benT b, .cells .own 25 2 [[.v .nilsl, .v .nilsl]], .cells .own 25 2 [[.sl 3 b.ms.length, .sl 4 b.ads.length]], .cells .own 81 4 ((mssV b.ms).map (List.map TV.v)), .cells .own 98 6 ((adsV b.ads).map (List.map TV.v))]) (js := [0, 1, D.length + 4, D.length + 2, D.length + 3]) ⟨[.cells .own 25 2 [[.lst (mssV b.ms), .lst (adsV b.ads)]], .cells .own 25 2 [[.nilsl, .nilsl]]] ++ (D ++ [.cells .own 81 4 (mssV b.ms), .cells .own 98 6 (adsV b.ads), .cells .own 25 2 [[.sl (B'.length) b.ms.length, .sl (B'.length + 1) b.ads.length]]]), by rw [← hB']; simp only [List.append_assoc], ?_, ?_, by simp⟩ (by decide) (by simp [TV.okT]) (by simp only [benT, List.all_cons, TB.ok, TV.okT, List.all_nil, Bool.and_true, Bool.and_self, tvs_ok, List.length_cons, List.length_nil]; decide) ?_
    · simp only [List.map_cons, List.map_nil, TV.inst, List.getD_cons_zero, List.getD_cons_succ, ← e6]
      exact tv_
    · simp only [List.map_cons, List.map_nil, TB.inst, TV.inst, tv_map, benT, List.getD_cons_zero, List.getD_cons_succ, ← e3, ← e4]
      simp
    clear hK1 K1 e6 e3 e4 hBl
    rintro B ⟨D2, hBD⟩
    simp only [benT]
    simp only [List.map_cons, List.map_nil, TB.inst, TV.inst, tv_map, zipT, List.cons_append, List.nil_append, Nat.add_zero]
    clear FX
    (have FX := And.intro hla (And.intro hlm (And.intro hln (And.intro hga (And.intro hgb (And.intro hgs hgc))))); repeat' (first | (refine sx ?_ ?_ <;> intro h <;> first | (exfalso; omega) | skip) | (refine g_op ?_; refine g_call ?_; refine g_args ?_; (first | refine s_fn (hrv _) ?_ | refine s_fn (bwithin_c _ _ _ _) ?_) <;> try first | omega | assumption) | refine ny ?_ | refine WA_block ?_ | (refine uB63_30_8 ?_; refine ⟨by kernel_rfl, ?_⟩) | (refine uB63_30_13 ?_; refine ⟨by kernel_rfl, ?_⟩) | (refine uB63_30_15 ?_; refine ⟨by kernel_rfl, ?_⟩) | ((first | refine grp_cons (fun _ => hrv _) ?_ | refine grp_cons (fun _ => bwithin_c _ _ _ _) ?_) <;> try first | omega | assumption) | (refine g_d ?_; refine d_args ?_; (first | refine d_fn (hrv _) ?_ | refine d_fn (bwithin_c _ _ _ _) ?_ | refine d_fnQ (fun _ => hrv _) ?_ | refine d_fnQ (fun _ => bwithin_c _ _ _ _) ?_) <;> try first | omega | assumption) | (refine g_d ?_; (first | refine d_fnY (hrv _) ?_ | refine d_fnY (bwithin_c _ _ _ _) ?_) <;> try first | omega | assumption)))
    all_goals (try (exfalso; omega))
    clear FX hga hgb hgs hgc
    refine WA_whileP (σ := Nat) (M := B) [1, 2, 4, 6, 7, 8] (fun i => [.lst (nsV l), .ptr B.length 0 0, .ptr (B.length + 1) 0 0, .ptr (B.length + 2) 0 0, .lst (nsV (valsP b l b.ms.length)), .int .i64 i]) (fun i => [.cells .own 25 2 [[.lst (mssV b.ms), .lst (adsV b.ads)]], .cells .own 25 2 [[.nilsl, .nilsl]], .cells .own 25 2 [[.sl (B.length + 3) b.ms.length, .sl (B.length + 4) b.ads.length]], .cells .own 81 4 (mssV (mxM b l i)), .cells .own 98 6 (adsV b.ads)]) 5 (fun i => i ≤ b.ms.length ∧ ∀ j, j < i → apMok b l j) (fun i => b.ms.length - i) 0 ⟨Nat.zero_le _, fun j h => absurd h (Nat.not_lt_zero _)⟩ tv_ (by rw [mxM_zero]) (fun _ => rfl) (by intro s s' _ _; simp [conB, conS, V.keeps, V.plain, Blk.flat, flatL, plainL, V.flat]) (fun _ _ _ _ => ⟨.inr rfl, .inr rfl, .inr rfl, .inl (by simp [Blk.flat, mssV, msV, plainL, V.plain]), .inr rfl, trivial⟩) ?_
    rintro i ⟨hi1, hi2⟩ K hK
    simp only [zipT]
    clear hlm hrv
    have hrv := hla
    have hlm := mssV_length (l := mxM b l i)
    rw [mxM_len] at hlm
    have hgc : (nsV (valsP b l b.ms.length)).length = b.ms.length := by rw [nsV_length, valsP_length]
    rcases Nat.lt_or_ge i b.ms.length with hi | hi
    · have hga := nsV_get (l := valsP b l b.ms.length) (i := i) (by rw [valsP_length]; exact hi)
      rw [valsP_get hi] at hga
      have hgb := mssV_get (l := mxM b l i) (i := i) (by rw [mxM_len]; exact hi)
      have hgs := congrArg mssV (mxM_set b l i)
      rw [mssV_set] at hgs
      rw [mxM_get hi] at hgb
      have hbad : ¬ apMok b l i → apR b l = ⟨[], []⟩ ∧ apE b l = 2 := fun h => by
        have : ¬ apOk b l := fun g => h (g.1 i hi)
        unfold apR apE
        rw [if_neg this, if_neg this]; exact ⟨rfl, rfl⟩
      have hak : apMok b l i ↔ (-100000 ≤ valP b l i ∧ valP b l i ≤ 100000) := Iff.rfl
      have hap : msV (apM b l i) = [.str (b.ms.getD i msz).name, .int .i64 (valP b l i), .int .i64 (b.ms.getD i msz).low, .int .i64 (b.ms.getD i msz).high] := rfl
      have hgw : msV (b.ms.getD i msz) = [.str (b.ms.getD i msz).name, .int .i64 (b.ms.getD i msz).val, .int .i64 (b.ms.getD i msz).low, .int .i64 (b.ms.getD i msz).high] := rfl
      rw [hap] at hgs
      rw [hgw] at hgb
      have hup := ext_all2 (p := fun j => apMok b l j) hi2
      rw [hak] at hup hbad
      clear hap hak hgw
      (have FX := And.intro hla (And.intro hlm (And.intro hln (And.intro hga (And.intro hgb (And.intro hgs hgc))))); repeat' (first | (refine sx ?_ ?_ <;> intro h <;> first | (exfalso; omega) | skip) | (refine g_op ?_; refine g_call ?_; refine g_args ?_; (first | refine s_fn (hrv _) ?_ | refine s_fn (bwithin_c _ _ _ _) ?_) <;> try first | omega | assumption) | refine ny ?_ | refine WA_block ?_ | (refine uB63_30_8 ?_; refine ⟨by kernel_rfl, ?_⟩) | (refine uB63_30_13 ?_; refine ⟨by kernel_rfl, ?_⟩) | (refine uB63_30_15 ?_; refine ⟨by kernel_rfl, ?_⟩) | ((first | refine grp_cons (fun _ => hrv _) ?_ | refine grp_cons (fun _ => bwithin_c _ _ _ _) ?_) <;> try first | omega | assumption) | (refine g_d ?_; refine d_args ?_; (first | refine d_fn (hrv _) ?_ | refine d_fn (bwithin_c _ _ _ _) ?_ | refine d_fnQ (fun _ => hrv _) ?_ | refine d_fnQ (fun _ => bwithin_c _ _ _ _) ?_) <;> try first | omega | assumption) | (refine g_d ?_; (first | refine d_fnY (hrv _) ?_ | refine d_fnY (bwithin_c _ _ _ _) ?_) <;> try first | omega | assumption)))
      all_goals (try (exfalso; omega))
      all_goals first
        | (obtain ⟨e1, e2⟩ := hbad (by omega)
           refine r_esA hQ (.inl ⟨rfl, rfl, ?_⟩)
           rw [e1, e2]
           exact wk_tup ⟨wk_agg ⟨wk_nil, wk_nil, trivial⟩, WkV.refl _, trivial⟩)
        | exact nextP_ hK (i + 1) ⟨by omega, hup (by omega)⟩ (by omega)
        | trace_state
    · obtain rfl : i = b.ms.length := by omega
      clear hK
      have hga := hla
      have hgb := hla
      have hgs := hla
      (have FX := And.intro hla (And.intro hlm (And.intro hln (And.intro hga (And.intro hgb (And.intro hgs hgc))))); repeat' (first | (refine sx ?_ ?_ <;> intro h <;> first | (exfalso; omega) | skip) | (refine g_op ?_; refine g_call ?_; refine g_args ?_; (first | refine s_fn (hrv _) ?_ | refine s_fn (bwithin_c _ _ _ _) ?_) <;> try first | omega | assumption) | refine ny ?_ | refine WA_block ?_ | (refine uB63_30_8 ?_; refine ⟨by kernel_rfl, ?_⟩) | (refine uB63_30_13 ?_; refine ⟨by kernel_rfl, ?_⟩) | (refine uB63_30_15 ?_; refine ⟨by kernel_rfl, ?_⟩) | ((first | refine grp_cons (fun _ => hrv _) ?_ | refine grp_cons (fun _ => bwithin_c _ _ _ _) ?_) <;> try first | omega | assumption) | (refine g_d ?_; refine d_args ?_; (first | refine d_fn (hrv _) ?_ | refine d_fn (bwithin_c _ _ _ _) ?_ | refine d_fnQ (fun _ => hrv _) ?_ | refine d_fnQ (fun _ => bwithin_c _ _ _ _) ?_) <;> try first | omega | assumption) | (refine g_d ?_; (first | refine d_fnY (hrv _) ?_ | refine d_fnY (bwithin_c _ _ _ _) ?_) <;> try first | omega | assumption)))
      all_goals (try (exfalso; omega))
      refine WA_whileP (σ := Nat) (M := B) [1, 2, 4, 6, 9] (fun i => [.lst (nsV l), .ptr B.length 0 0, .ptr (B.length + 1) 0 0, .ptr (B.length + 2) 0 0, .int .i64 i]) (fun i => [.cells .own 25 2 [[.lst (mssV b.ms), .lst (adsV b.ads)]], .cells .own 25 2 [[.nilsl, .nilsl]], .cells .own 25 2 [[.sl (B.length + 3) b.ms.length, .sl (B.length + 4) b.ads.length]], .cells .own 81 4 (mssV (mxM b l b.ms.length)), .cells .own 98 6 (adsV (axM b l i))]) 5 (fun i => i ≤ b.ads.length ∧ ∀ j, j < i → apAok b l j) (fun i => b.ads.length - i) 0 ⟨Nat.zero_le _, fun j h => absurd h (Nat.not_lt_zero _)⟩ tv_ (by rw [axM_zero]) (fun _ => rfl) (by intro s s' _ _; simp [conB, conS, V.keeps, V.plain, Blk.flat, flatL, plainL, V.flat]) (fun _ _ _ _ => ⟨.inr rfl, .inr rfl, .inr rfl, .inr rfl, .inl (by simp [Blk.flat, adsV, adV, plainL, V.plain, efsV_plain, tsV_plain]), trivial⟩) ?_
      rintro i ⟨hj1, hj2⟩ K hK
      simp only [zipT]
      clear FX hga hgb hgs
      have hlx := adsV_length (l := axM b l i)
      rw [axM_len] at hlx
      rcases Nat.lt_or_ge i b.ads.length with hi | hi
      · have hga := adsV_get hi
        have hgb := nsV_get (l := l) (i := i) (by omega)
        have hbk := hsb i hi
        have hlek := hbd.le i hi
        have hmok := hbd.mo i hi
        have hbad : ¬ apAok b l i → apR b l = ⟨[], []⟩ ∧ apE b l = 2 := fun h => by
          have : ¬ apOk b l := fun g => h (g.2 i hi)
          unfold apR apE
          rw [if_neg this, if_neg this]; exact ⟨rfl, rfl⟩
        have hak : apAok b l i ↔ (-1000 ≤ (b.ads.getD i adz).least - l.getD i 0 ∧ (b.ads.getD i adz).most - l.getD i 0 ≤ 1000) := Iff.rfl
        have hup := ext_all2 (p := fun j => apAok b l j) hj2
        rw [hak] at hup hbad
        clear hak
        have hx1 := adsV_get (l := axM b l i) (i := i) (by rw [axM_len]; exact hi)
        rw [axM_get hi] at hx1
        have hx2 := congrArg adsV (axM_set b l i)
        rw [adsV_set] at hx2
        have hap : adV (apA b l i) = [.str (b.ads.getD i adz).name, .lst (efsV (b.ads.getD i adz).effs), .int .i64 ((b.ads.getD i adz).least - l.getD i 0), .int .i64 ((b.ads.getD i adz).most - l.getD i 0), .int .i64 (b.ads.getD i adz).pass, .lst (tsV (b.ads.getD i adz).after)] := rfl
        rw [hap] at hx2
        clear hap
        have hil : i < (adsV (axM b l i)).length := by rw [hlx]; exact hi
        generalize b.ads.getD i adz = x at *
        obtain ⟨xn, xe, xl, xm, xp, xa⟩ := x
        unfold adV at hga hx1
        dsimp only at hga hx1 hx2 hlek hmok hbad hup
        generalize l.getD i 0 = sk at *
        obtain ⟨L1, hL1⟩ : ∃ L1, (adsV (axM b l i)).set i [.str xn, .lst (efsV xe), .int .i64 (xl - sk), .int .i64 xm, .int .i64 xp, .lst (tsV xa)] = L1 := ⟨_, rfl⟩
        have hL2 : L1[i]? = some [.str xn, .lst (efsV xe), .int .i64 (xl - sk), .int .i64 xm, .int .i64 xp, .lst (tsV xa)] := by rw [← hL1, List.getElem?_set_self hil]
        have hL3 : L1.set i [.str xn, .lst (efsV xe), .int .i64 (xl - sk), .int .i64 (xm - sk), .int .i64 xp, .lst (tsV xa)] = adsV (axM b l (i + 1)) := by rw [← hL1, List.set_set, hx2]
        have hL4 : L1.length = b.ads.length := by rw [← hL1, List.length_set]; exact hlx
        have hgs := And.intro hx1 (And.intro hL1 (And.intro hL2 (And.intro hL3 (And.intro hL4 hlx))))
        have hne : ∀ (a c d : Nat), (a + c = a + d) = (c = d) := fun a c d => by simp
        have hn0 : ∀ (a d : Nat), (a = a + d) = (0 = d) := fun a d => by rw [eq_iff_iff]; omega
        (repeat' (first | (refine sx ?_ ?_ <;> intro h <;> first | (exfalso; omega) | skip) | (refine g_op ?_; refine g_call ?_; refine g_args ?_; (first | refine s_fn (hrv _) ?_ | refine s_fn (bwithin_c _ _ _ _) ?_) <;> try first | omega | assumption) | refine ny ?_ | (refine uB63_30_8 ?_; refine ⟨by kernel_rfl, ?_⟩) | (refine uB63_30_13 ?_; refine ⟨by kernel_rfl, ?_⟩) | (refine uB63_30_15 ?_; refine ⟨by kernel_rfl, ?_⟩) | ((first | refine grp_cons (fun _ => hrv _) ?_ | refine grp_cons (fun _ => bwithin_c _ _ _ _) ?_) <;> try first | omega | assumption) | (refine g_d ?_; refine d_args ?_; (first | refine d_fn (hrv _) ?_ | refine d_fn (bwithin_c _ _ _ _) ?_ | refine d_fnQ (fun _ => hrv _) ?_ | refine d_fnQ (fun _ => bwithin_c _ _ _ _) ?_) <;> try first | omega | assumption) | (refine g_d ?_; (first | refine d_fnY (hrv _) ?_ | refine d_fnY (bwithin_c _ _ _ _) ?_) <;> try first | omega | assumption) | fail))
        all_goals (try (exfalso; omega))
        refine WA_block ?_
        refine WA_stop fun K2 hK2 => ?_
        (have FX := And.intro hla (And.intro hlm (And.intro hln (And.intro hga (And.intro hgb (And.intro hgs hgc))))); repeat' (first | (refine sx ?_ ?_ <;> intro h <;> first | (exfalso; omega) | skip) | (refine g_op ?_; refine g_call ?_; refine g_args ?_; (first | refine s_fn (hrv _) ?_ | refine s_fn (bwithin_c _ _ _ _) ?_) <;> try first | omega | assumption) | refine ny ?_ | refine WA_block ?_ | (refine uB63_30_8 ?_; refine ⟨by kernel_rfl, ?_⟩) | (refine uB63_30_13 ?_; refine ⟨by kernel_rfl, ?_⟩) | (refine uB63_30_15 ?_; refine ⟨by kernel_rfl, ?_⟩) | ((first | refine grp_cons (fun _ => hrv _) ?_ | refine grp_cons (fun _ => bwithin_c _ _ _ _) ?_) <;> try first | omega | assumption) | (refine g_d ?_; refine d_args ?_; (first | refine d_fn (hrv _) ?_ | refine d_fn (bwithin_c _ _ _ _) ?_ | refine d_fnQ (fun _ => hrv _) ?_ | refine d_fnQ (fun _ => bwithin_c _ _ _ _) ?_) <;> try first | omega | assumption) | (refine g_d ?_; (first | refine d_fnY (hrv _) ?_ | refine d_fnY (bwithin_c _ _ _ _) ?_) <;> try first | omega | assumption)))
        refine hK2 _ _ ?_
        clear hK2
        refine WA_fzM (j := 5) rfl ?_
        simp (decide := true) only [List.map_cons, List.map_nil, List.map_append, frzV, frzC, List.set_cons_succ, List.set_cons_zero, hne, hn0, Nat.reduceEqDiff, false_and, true_and, if_false, if_true, efsV_frz, adsV_frz, mssV_frz]
        clear FX
        (have FX := And.intro hla (And.intro hlm (And.intro hln (And.intro hga (And.intro hgb (And.intro hgs hgc))))); repeat' (first | (refine sx ?_ ?_ <;> intro h <;> first | (exfalso; omega) | skip) | (refine g_op ?_; refine g_call ?_; refine g_args ?_; (first | refine s_fn (hrv _) ?_ | refine s_fn (bwithin_c _ _ _ _) ?_) <;> try first | omega | assumption) | refine ny ?_ | refine WA_block ?_ | (refine uB63_30_8 ?_; refine ⟨by kernel_rfl, ?_⟩) | (refine uB63_30_13 ?_; refine ⟨by kernel_rfl, ?_⟩) | (refine uB63_30_15 ?_; refine ⟨by kernel_rfl, ?_⟩) | ((first | refine grp_cons (fun _ => hrv _) ?_ | refine grp_cons (fun _ => bwithin_c _ _ _ _) ?_) <;> try first | omega | assumption) | (refine g_d ?_; refine d_args ?_; (first | refine d_fn (hrv _) ?_ | refine d_fn (bwithin_c _ _ _ _) ?_ | refine d_fnQ (fun _ => hrv _) ?_ | refine d_fnQ (fun _ => bwithin_c _ _ _ _) ?_) <;> try first | omega | assumption) | (refine g_d ?_; (first | refine d_fnY (hrv _) ?_ | refine d_fnY (bwithin_c _ _ _ _) ?_) <;> try first | omega | assumption)))
        all_goals (try (exfalso; omega))
        all_goals first
          | (obtain ⟨e1, e2⟩ := hbad (by omega)
             refine r_esA hQ (.inl ⟨rfl, rfl, ?_⟩)
             rw [e1, e2]
             exact wk_tup ⟨wk_agg ⟨wk_nil, wk_nil, trivial⟩, WkV.refl _, trivial⟩)
          | exact nextP_ hK (i + 1) ⟨by omega, hup (by omega)⟩ (by omega)
          | trace_state
      · obtain rfl : i = b.ads.length := by omega
        clear hK
        have hga := hla
        have hgb := hla
        have hgs := hla
        (have FX := And.intro hla (And.intro hlm (And.intro hln (And.intro hga (And.intro hgb (And.intro hgs hgc))))); repeat' (first | (refine sx ?_ ?_ <;> intro h <;> first | (exfalso; omega) | skip) | (refine g_op ?_; refine g_call ?_; refine g_args ?_; (first | refine s_fn (hrv _) ?_ | refine s_fn (bwithin_c _ _ _ _) ?_) <;> try first | omega | assumption) | refine ny ?_ | refine WA_block ?_ | (refine uB63_30_8 ?_; refine ⟨by kernel_rfl, ?_⟩) | (refine uB63_30_13 ?_; refine ⟨by kernel_rfl, ?_⟩) | (refine uB63_30_15 ?_; refine ⟨by kernel_rfl, ?_⟩) | ((first | refine grp_cons (fun _ => hrv _) ?_ | refine grp_cons (fun _ => bwithin_c _ _ _ _) ?_) <;> try first | omega | assumption) | (refine g_d ?_; refine d_args ?_; (first | refine d_fn (hrv _) ?_ | refine d_fn (bwithin_c _ _ _ _) ?_ | refine d_fnQ (fun _ => hrv _) ?_ | refine d_fnQ (fun _ => bwithin_c _ _ _ _) ?_) <;> try first | omega | assumption) | (refine g_d ?_; (first | refine d_fnY (hrv _) ?_ | refine d_fnY (bwithin_c _ _ _ _) ?_) <;> try first | omega | assumption)))
        all_goals (try (exfalso; omega))
        have hok : apOk b l := ⟨hi2, hj2⟩
        have e1 : apR b l = apB b l := by unfold apR; rw [if_pos hok]
        have e2 : apE b l = 0 := by unfold apE; rw [if_pos hok]
        rw [mxM_all] at hlm
        rw [axM_all] at hlx
        have htk : (mssV (apB b l).ms).take b.ms.length = mssV (apB b l).ms := List.take_of_length_le (by rw [hlm]; exact Nat.le_refl _)
        have htx : (adsV (apB b l).ads).take b.ads.length = adsV (apB b l).ads := List.take_of_length_le (by rw [hlx]; exact Nat.le_refl _)
        rw [mxM_all, axM_all]
        refine r_esA hQ (fin_tgg (i := 3) (j := 4) hBD rfl (by rw [hlm]; exact Nat.le_refl _) (by rw [htk]; exact mssV_plain _) rfl (by rw [hlx]; exact Nat.le_refl _) (by rw [htx]; exact adsV_plain _) ⟨rfl, ?_⟩)
        rw [htk, htx, e1, e2]
        exact WkV.refl _
end Go.Proofs.Ytaoakololkcepaa
