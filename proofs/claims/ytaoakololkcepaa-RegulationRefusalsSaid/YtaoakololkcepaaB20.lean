/- contracts: sweep and settle -/
import Derived.Test.YtaoakololkcepaaB19
import Derived.Test.YtaoakololkcepaaB9
set_option linter.unusedSimpArgs false
set_option linter.unusedVariables false
namespace Go.Proofs.Ytaoakololkcepaa
open Go.RowKit
attribute [local irreducible] WA WOs WDs WAn qThen qBlock tput
set_option maxHeartbeats 1000000
set_option maxRecDepth 20000
set_option linter.unusedSimpArgs false
set_option linter.unusedVariables false
def stK (b : BnR) : Nat → List Int
  | 0 => List.replicate b.ads.length 0
  | k + 1 => sweepP b (stK b k)
theorem rep_ok {b : BnR} (hb : Bnd b) : stOk b.ads (List.replicate b.ads.length 0) := by
  refine ⟨by simp, fun i hi => ?_⟩
  have e : (List.replicate b.ads.length (0 : Int)).getD i 0 = 0 := by simp [List.getD_eq_getElem?_getD, List.getElem?_replicate, hi]
  rw [e]
  have h1 := hb.le i hi
  have h2 := hb.mo i hi
  exact ⟨h1.2, h2.1⟩
theorem stK_ok {b : BnR} (hb : Bnd b) : ∀ k, stOk b.ads (stK b k)
  | 0 => rep_ok hb
  | k + 1 => sweepP_ok (stK_ok hb k)
def stO (b : BnR) (k : Nat) : List (List Int) := (List.range k).map fun j => stK b (j + 1)
theorem stO_succ (b : BnR) (k : Nat) : stO b (k + 1) = stO b k ++ [stK b (k + 1)] := by simp [stO, List.range_succ]
theorem stO_len (b : BnR) (k : Nat) : (stO b k).length = k := by simp [stO]
def stH (b : BnR) (k : Nat) : Bool := decide (brkP b (stK b k) b.ms.length = [])
def stI (b : BnR) (n : Nat) : Option Nat := (List.range (n + 1)).find? (stH b)
theorem find_at {f : Nat → Bool} {n k : Nat} (hk : k < n) (h0 : ∀ j, j < k → f j = false) (h : f k = true) : (List.range n).find? f = some k := by
  rw [List.find?_eq_some_iff_getElem]
  refine ⟨h, k, by simpa using hk, by simp, fun j hj => ?_⟩
  simp [h0 j hj]
theorem find_no {f : Nat → Bool} {n : Nat} (h0 : ∀ j, j < n → f j = false) : (List.range n).find? f = none := by
  rw [List.find?_eq_none]
  intro x hx
  simp [h0 x (List.mem_range.1 hx)]
/-- the steps behind each sweep, or that there are too many -/
def setV (b : BnR) (n : Nat) : V := match stI b n with
  | some k => .tup [.lst (rwV (stO b k)), .int .i64 0]
  | none => .tup [.lst [], .int .i64 12]

theorem frz_bpx {m : Mem} {L n : Nat} (b : BnR) : frz m L n (.bp (bxC b) 0) = some (.bp (bxC b) 0) := frz_plain _ _ _ (by simpa [V.plain] using bxC_plain b) (by simp) (by simp) (by simp) (by simp)
theorem gwith_ok (b : BnR) (hb : Bl b) (h0 : bnErr b = 0) (l : List Int) (m : Mem) : Gives Try.prog 66 [.agg (bnV b), .lst (nsV l)] m (.tup [.bp (bxC b) 0, .int .i64 (stErr b.ads l)]) := by
  have hop := fun m => gopen_ok b hb h0 m
  have hfa := (bn_ok h0).fa
  unfold bnV at hop ⊢
  refine CallA_in Try.func66 rfl Try.ntmps66 Try.results66 (by kernel_rfl) (by simp) fun Q hQ => ?_
  (have FX := hfa; repeat' (first | (refine sx ?_ ?_ <;> intro h <;> first | (exfalso; omega) | skip) | (refine g_op ?_; refine g_call ?_; refine g_args ?_; (first | refine s_fn (hop _) ?_ | refine s_fn (gchecksteps_c b hfa l _) ?_) <;> try first | omega | assumption) | refine ny ?_ | refine WA_block ?_))
  all_goals (try (exfalso; omega))
  all_goals (refine r_esA hQ (.inr ⟨_, _, rfl, ?_, ⟨rfl, rfl⟩⟩))
  all_goals (show (frzs (frz _ _ 3) [_, _]).map V.tup = _; rw [frzs_cons (frz_bpx b) (frzs_cons (frz_int _ _ _ _ _) rfl)]; rfl)
/-- the error of a bench and steps -/
def bsErr (b : BnR) (l : List Int) : Int := if bnErr b ≠ 0 then bnErr b else stErr b.ads l
theorem fin_sli {m0 D X B : Mem} {k : Nat} {st : Sta} {ty sz : Nat} {es : List (List V)} {c : Int} {R : V → Option Mem → Prop} (hB : B = lend m0 ++ D) (hX : X[0]? = some (.cells st ty sz es)) (hk : es.length = k) (hp : plainLL es = true) (h : R (.tup [.lst es, .int .i64 c]) none) : Fin m0 R (.tup [.sl B.length k, .int .i64 c]) (B ++ X) := by
  subst hB
  refine .inr ⟨D ++ X, _, by simp, ?_, h⟩
  show (frzs (frz _ _ 3) [_, _]).map V.tup = _
  have e : frz ((lend m0 ++ D) ++ X) m0.length 3 (.sl (lend m0 ++ D).length k) = some (.lst es) := frz_own (m0 := m0) (D := D) (n := 2) (j := 0) hX hk hp
  rw [frzs_cons e (frzs_cons (frz_int _ _ _ _ _) rfl)]
  rfl
def seS (b : BnR) (most : Int) (k : Nat) : List TV := [.v (.int .i64 most), .v (.bp (bxC b) 0), match k with | 0 => .v .nilsl | k + 1 => .sl 0 (k + 1), .v (.lst (nsV (stK b k)))]
def seE (b : BnR) : Nat → List TB
  | 0 => []
  | k + 1 => [.cells .own 26 1 ((rwV (stO b (k + 1))).map (List.map TV.v))]
theorem seE_ok {b : BnR} {k : Nat} : (seE b k).all (TB.ok (seE b k).length) = true := by
  cases k with
  | zero => simp [seE]
  | succ k => simp only [seE, List.all_cons, TB.ok, TV.okT, List.all_nil, Bool.and_true, Bool.and_self, tvs_ok, List.length_cons, List.length_nil]
theorem seS_ok {b : BnR} {most : Int} {k : Nat} : (seS b most k).all (TV.okT (seE b k).length) = true := by
  cases k with
  | zero => simp [seS, TV.okT]
  | succ k => simp [seS, seE, TV.okT]

theorem gSettle_ok (b : BnR) (hb : Bl b) (h0 : bnErr b = 0) (n : Nat) (hn : n ≤ 100) (m : Mem) : Gives Try.prog 21 [.agg (bnV b), .int .i64 n] m (setV b n) := by
  have hop := fun m => gopen_ok b hb h0 m
  have hbd := bnd_ok (bn_ok h0)
  have hfa := hbd.fa
  have hla := adsV_length (l := b.ads)
  have hre : ∀ k, k = b.ads.length → List.replicate k [V.int .i64 0] = nsV (stK b 0) := fun k h => by rw [h]; simp [nsV, stK]
  have hll := hla
  have hlt := hla
  suffices key : CallA Try.prog 21 [.agg (bnV b), .int .i64 n] m (fun v mo => mo = none ∧ WkV v (setV b n)) from Gives_of key fun v mo h => h
  unfold bnV at hop ⊢
  refine CallA_in Try.func21 rfl Try.ntmps21 Try.results21 (by kernel_rfl) (by simp) fun Q hQ => ?_
  (have FX := And.intro hla (And.intro hre (And.intro hll hlt)); repeat' (first | (refine sx ?_ ?_ <;> intro h <;> first | (exfalso; omega) | skip) | (refine g_op ?_; refine g_call ?_; refine g_args ?_; (first | refine s_fn (hop _) ?_ | refine s_fn (gwithin_c _ _ _ _) ?_) <;> try first | omega | assumption) | refine ny ?_ | refine WA_block ?_))
  all_goals (try (exfalso; omega))
  have hz0 : (nsV (stK b 0)).length = b.ads.length := by rw [nsV_length]; simp [stK]
  refine fzJ (B := lend m) (j := 1) rfl ?_
  simp only [List.map_cons, List.map_nil, frzV, List.set_cons_succ, List.set_cons_zero, argT]
  rw [if_pos ⟨by first | rfl | trivial | omega, by rw [hz0]; exact Nat.le_refl _⟩, List.take_of_length_le (by rw [hz0]; exact Nat.le_refl _)]
  refine WA_whileJ (σ := Nat) (L := lend m) [1, 6, 8, 9] (fun k => seS b n k) (fun k => seE b k) (fun k => k ≤ n ∧ ∀ j, j < k → stH b j = false) (fun k => n + 1 - k) 0 [] ⟨Nat.zero_le _, fun j h => absurd h (Nat.not_lt_zero _)⟩ ?_ rfl rfl (by decide) (by decide) (fun _ _ => seS_ok) (fun _ _ => seE_ok) ?_
  · exact tv_
  rintro k ⟨hk1, hk2⟩ B ⟨D, hB⟩ K hK
  clear FX hre hll hlt hop
  have hop := hla
  have hre := hla
  have hsk := stK_ok hbd k
  have hho := fun m => gholds_c b hbd (stK b k) hsk.1 (steps_bd hbd hsk.2) m
  have hde : stH b k = decide (brkP b (stK b k) b.ms.length = []) := rfl
  have hsw := fun m => gsweep_c b hbd (stK b k) hsk m
  have hsk1 : sweepP b (stK b k) = stK b (k + 1) := rfl
  rw [hsk1] at hsw
  have hlk1 : (stK b (k + 1)).length ≤ 100000 := by rw [(stK_ok hbd (k + 1)).1]; omega
  have hcl := fun m => gclone_v (stK b (k + 1)) hlk1 m
  have hnx := hK (k + 1)
  have hny := fun (_ : Unit) => hnx
  clear hnx hK
  have hor : rwV (stO b (k + 1)) = rwV (stO b k) ++ [[V.lst (nsV (stK b (k + 1)))]] := by rw [stO_succ, rwV_snoc]
  have hyes : brkP b (stK b k) b.ms.length = [] → setV b n = .tup [.lst (rwV (stO b k)), .int .i64 0] := fun h => by
    unfold setV stI
    rw [find_at (k := k) (by omega) hk2 (hde.trans (decide_eq_true h))]
  have hno : ¬ brkP b (stK b k) b.ms.length = [] → k = n → setV b n = .tup [.lst [], .int .i64 12] := fun h e => by
    unfold setV stI
    rw [find_no fun j hj => ?_]
    rcases Nat.lt_or_ge j k with q | q
    · exact hk2 j q
    · obtain rfl : j = k := by omega
      exact hde.trans (decide_eq_false h)
  have hup : ¬ brkP b (stK b k) b.ms.length = [] → ∀ j, j < k + 1 → stH b j = false := fun h => up_false hk2 (hde.trans (decide_eq_false h))
  cases k with
  | zero =>
    have hll := hla
    have hlt := hla
    have hor0 : rwV (stO b (0 + 1)) = [[V.lst (nsV (stK b (0 + 1)))]] := hor
    simp only [seS, seE]
    simp only [List.map_cons, List.map_nil, TB.inst, TV.inst, tv_map, zipT, List.cons_append, List.nil_append, Nat.add_zero]
    (have FX := And.intro hla (And.intro hre (And.intro hll hlt)); repeat' (first | (refine sx ?_ ?_ <;> intro h <;> first | (exfalso; omega) | skip) | (refine g_op ?_; refine g_call ?_; refine g_args ?_; (first | refine s_fn (hho _) ?_ | refine s_fn (hsw _) ?_ | refine s_fn (hcl _) ?_) <;> try first | omega | assumption) | refine ny ?_ | refine WA_block ?_))
    all_goals (try (exfalso; omega))
    all_goals first
      | (refine r_esA hQ (.inl ⟨rfl, rfl, ?_⟩)
         rw [hyes (by assumption)]
         exact wk_tup ⟨wk_nil, WkV.refl _, trivial⟩)
      | (refine r_esA hQ (.inl ⟨rfl, rfl, ?_⟩)
         rw [hno (by assumption) (by omega)]
         exact wk_tup ⟨wk_nil, WkV.refl _, trivial⟩)
      | ((refine nextU_ hny (()) [1] (⟨by omega, hup (by assumption)⟩) (by omega) ?_ (ht := ?_); (focus (simp only [seE, hor0, List.map_cons, List.map_nil, TB.inst, TV.inst, tv_map, List.cons_append, List.nil_append]; first | rfl | (simp [ptsV, ptV]; done) | (simp [hpsV, hpV]; done) | (simp [frsV, frV]; done) | (simp [txV]; done) | (simp [prtsV, prtV]; done))); (simp only [seS, List.map_cons, List.map_nil, TV.inst, List.getD_cons_zero, List.getD_cons_succ]; exact tv_)))
  | succ k =>
    have hll : (rwV (stO b (k + 1))).length = k + 1 := by rw [rwV_length, stO_len]
    have hlt : (rwV (stO b (k + 1))).take (k + 1) = rwV (stO b (k + 1)) := List.take_of_length_le (by rw [hll]; exact Nat.le_refl _)
    simp only [seS, seE]
    simp only [List.map_cons, List.map_nil, TB.inst, TV.inst, tv_map, zipT, List.cons_append, List.nil_append, Nat.add_zero]
    (have FX := And.intro hla (And.intro hre (And.intro hll hlt)); repeat' (first | (refine sx ?_ ?_ <;> intro h <;> first | (exfalso; omega) | skip) | (refine g_op ?_; refine g_call ?_; refine g_args ?_; (first | refine s_fn (hho _) ?_ | refine s_fn (hsw _) ?_ | refine s_fn (hcl _) ?_) <;> try first | omega | assumption) | refine ny ?_ | refine WA_block ?_))
    all_goals (try (exfalso; omega))
    all_goals first
      | (refine r_esA hQ (fin_sli hB rfl hll (rwV_plain _) ⟨rfl, ?_⟩)
         rw [hyes (by assumption)]
         exact WkV.refl _)
      | (refine r_esA hQ (.inl ⟨rfl, rfl, ?_⟩)
         rw [hno (by assumption) (by omega)]
         exact wk_tup ⟨wk_nil, WkV.refl _, trivial⟩)
      | ((refine nextU_ hny (()) [2] (⟨by omega, hup (by assumption)⟩) (by omega) ?_ (ht := ?_); (focus (simp only [seE, hor, List.map_cons, List.map_nil, TB.inst, TV.inst, tv_map, List.cons_append, List.nil_append]; first | rfl | (simp [ptsV, ptV]; done) | (simp [hpsV, hpV]; done) | (simp [frsV, frV]; done) | (simp [txV]; done) | (simp [prtsV, prtV]; done))); (simp only [seS, List.map_cons, List.map_nil, TV.inst, List.getD_cons_zero, List.getD_cons_succ]; exact tv_)))
end Go.Proofs.Ytaoakololkcepaa
