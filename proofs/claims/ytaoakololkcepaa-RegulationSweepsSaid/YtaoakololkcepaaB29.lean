/- contract: sweeps until nothing is broken, of the reference -/
import Derived.Test.YtaoakololkcepaaB28
set_option linter.unusedSimpArgs false
set_option linter.unusedVariables false
namespace Go.Proofs.Ytaoakololkcepaa
open Go.RowKit
attribute [local irreducible] WA WOs WDs WAn qThen qBlock tput
set_option maxHeartbeats 1000000
set_option maxRecDepth 20000
set_option linter.unusedSimpArgs false
set_option linter.unusedVariables false
set_option maxHeartbeats 2000000
def setR (b : BnR) (n : Nat) : V := match stI b n with
  | some k => .tup [.lst (rwV (stO b k)), .bool true]
  | none => .tup [.lst [], .bool false]
theorem fin_slb {m0 D X B : Mem} {j k : Nat} {st : Sta} {ty sz : Nat} {es : List (List V)} {c : Bool} {R : V → Option Mem → Prop} (hB : B = lend m0 ++ D) (hX : X[j]? = some (.cells st ty sz es)) (hk : es.length = k) (hp : plainLL es = true) (h : R (.tup [.lst es, .bool c]) none) : Fin m0 R (.tup [.sl (B.length + j) k, .bool c]) (B ++ X) := by
  subst hB
  refine .inr ⟨D ++ X, _, by simp, ?_, h⟩
  show (frzs (frz _ _ 3) [_, _]).map V.tup = _
  have e : frz ((lend m0 ++ D) ++ X) m0.length 3 (.sl ((lend m0 ++ D).length + j) k) = some (.lst es) := frz_own (m0 := m0) (D := D) (n := 2) (j := j) hX hk hp
  have e2 : frz ((lend m0 ++ D) ++ X) m0.length 3 (.bool c) = some (.bool c) := frz_plain _ _ _ rfl (by simp) (by simp) (by simp) (by simp)
  rw [frzs_cons e (frzs_cons e2 rfl)]
  rfl
def rsS (b : BnR) (most : Int) (k : Nat) : List TV := [.v (.int .i64 most), .ptr 0 0 0, .v (.lst (nsV (stK b k))), match k with | 0 => .v .nilsl | k + 1 => .sl 1 (k + 1)]
def rsE (b : BnR) : Nat → List TB
  | 0 => [benT b]
  | k + 1 => [benT b, .cells .own 26 1 ((rwV (stO b (k + 1))).map (List.map TV.v))]
theorem rsE_ok {b : BnR} {k : Nat} : (rsE b k).all (TB.ok (rsE b k).length) = true := by
  cases k with
  | zero => simp [rsE, benT, TB.ok, TV.okT]
  | succ k => simp only [rsE, benT, List.all_cons, TB.ok, TV.okT, List.all_nil, Bool.and_true, Bool.and_self, tvs_ok, List.length_cons, List.length_nil]
theorem rsS_ok {b : BnR} {most : Int} {k : Nat} : (rsS b most k).all (TV.okT (rsE b k).length) = true := by
  cases k with
  | zero => simp [rsS, rsE, TV.okT]
  | succ k => simp [rsS, rsE, TV.okT]

theorem rsettle_c (b : BnR) (hk0 : Bok b) (n : Nat) (hn : n ≤ 100) (m : Mem) : Gives Try.prog 27 [.agg [.lst (mssV b.ms), .lst (adsV b.ads)], .int .i64 n] m (setR b n) := by
  have hbd := bnd_ok hk0
  have hfa := hbd.fa
  have hef : ∀ k, k < b.ads.length → (b.ads.getD k adz).effs.length ≤ 1000 := fun k hk => by have := (ad_ok (hk0.ae k hk)).fe; omega
  have hla := adsV_length (l := b.ads)
  have hre : ∀ k, k = b.ads.length → List.replicate k [V.int .i64 0] = nsV (stK b 0) := fun k h => by rw [h]; simp [nsV, stK]
  have hll := hla
  have hlt := hla
  have hbl := hla
  have hbr := hla
  have hsw := hla
  suffices key : CallA Try.prog 27 [.agg [.lst (mssV b.ms), .lst (adsV b.ads)], .int .i64 n] m (fun v mo => mo = none ∧ WkV v (setR b n)) from Gives_of key fun v mo h => h
  refine CallA_in Try.func27 rfl Try.ntmps27 Try.results27 (by kernel_rfl) (by simp) fun Q hQ => ?_
  (have FX := And.intro hla (And.intro hre (And.intro hll (And.intro hlt hbl))); repeat' (first | (refine sx ?_ ?_ <;> intro h <;> first | (exfalso; omega) | skip) | (refine g_op ?_; refine g_call ?_; refine g_args ?_; (first | refine s_fn (hbr _) ?_ | refine s_fn (hsw _) ?_) <;> try first | omega | assumption) | refine ny ?_ | refine WA_block ?_))
  all_goals (try (exfalso; omega))
  have hz0 : (nsV (stK b 0)).length = b.ads.length := by rw [nsV_length]; simp [stK]
  refine fzJ (B := lend m) (j := 1) rfl ?_
  simp only [List.map_cons, List.map_nil, frzV, List.set_cons_succ, List.set_cons_zero, argT]
  rw [if_pos ⟨by first | rfl | trivial | omega, by rw [hz0]; exact Nat.le_refl _⟩, List.take_of_length_le (by rw [hz0]; exact Nat.le_refl _)]
  refine WA_whileJ (σ := Nat) (L := lend m) [1, 2, 6, 7] (fun k => rsS b n k) (fun k => rsE b k) (fun k => k ≤ n ∧ ∀ j, j < k → stH b j = false) (fun k => n + 1 - k) 0 [0] ⟨Nat.zero_le _, fun j h => absurd h (Nat.not_lt_zero _)⟩ ?_ rfl rfl (by decide) (by decide) (fun _ _ => rsS_ok) (fun _ _ => rsE_ok) ?_
  · exact tv_
  rintro k ⟨hk1, hk2⟩ B ⟨D, hB⟩ K hK
  clear FX hre hll hlt hbl hbr hsw
  have hre := hla
  have hsk := stK_ok hbd k
  have hbl := nuV_length (l := brkP b (stK b k) b.ms.length)
  have hbr := fun m => rbroken_c b hbd hef (stK b k) hsk.1 (steps_bd hbd hsk.2) m
  have hde : stH b k = decide (brkP b (stK b k) b.ms.length = []) := rfl
  have hsw := fun m => rsweep_c b hk0 (stK b k) hsk m
  have hsk1 : sweepP b (stK b k) = stK b (k + 1) := rfl
  rw [hsk1] at hsw
  have hnx := hK (k + 1)
  have hny := fun (_ : Unit) => hnx
  clear hnx hK
  have hor : rwV (stO b (k + 1)) = rwV (stO b k) ++ [[V.lst (nsV (stK b (k + 1)))]] := by rw [stO_succ, rwV_snoc]
  have hyes : ¬ ((brkP b (stK b k) b.ms.length).length : Int) > 0 → setR b n = .tup [.lst (rwV (stO b k)), .bool true] := fun h => by
    have h : brkP b (stK b k) b.ms.length = [] := List.eq_nil_of_length_eq_zero (by omega)
    unfold setR stI
    rw [find_at (k := k) (by omega) hk2 (hde.trans (decide_eq_true h))]
  have hne : ((brkP b (stK b k) b.ms.length).length : Int) > 0 → ¬ brkP b (stK b k) b.ms.length = [] := fun h e => by rw [e] at h; simp at h
  have hno : ((brkP b (stK b k) b.ms.length).length : Int) > 0 → k = n → setR b n = .tup [.lst [], .bool false] := fun h e => by
    unfold setR stI
    rw [find_no fun j hj => ?_]
    rcases Nat.lt_or_ge j k with q | q
    · exact hk2 j q
    · obtain rfl : j = k := by omega
      exact hde.trans (decide_eq_false (hne h))
  have hup : ((brkP b (stK b k) b.ms.length).length : Int) > 0 → ∀ j, j < k + 1 → stH b j = false := fun h => up_false hk2 (hde.trans (decide_eq_false (hne h)))
  generalize brkP b (stK b k) b.ms.length = BP at *
  cases k with
  | zero =>
    have hll := hla
    have hlt := hla
    have hor0 : rwV (stO b (0 + 1)) = [[V.lst (nsV (stK b (0 + 1)))]] := hor
    simp only [rsS, rsE, benT]
    simp only [List.map_cons, List.map_nil, TB.inst, TV.inst, tv_map, zipT, List.cons_append, List.nil_append, Nat.add_zero]
    (have FX := And.intro hla (And.intro hre (And.intro hll (And.intro hlt hbl))); repeat' (first | (refine sx ?_ ?_ <;> intro h <;> first | (exfalso; omega) | skip) | (refine g_op ?_; refine g_call ?_; refine g_args ?_; (first | refine s_fn (hbr _) ?_ | refine s_fn (hsw _) ?_) <;> try first | omega | assumption) | refine ny ?_ | refine WA_block ?_))
    all_goals (try (exfalso; omega))
    all_goals first
      | (refine r_esA hQ (.inl ⟨rfl, rfl, ?_⟩)
         rw [hyes (by omega)]
         exact wk_tup ⟨wk_nil, WkV.refl _, trivial⟩)
      | (refine r_esA hQ (.inl ⟨rfl, rfl, ?_⟩)
         rw [hno (by omega) (by omega)]
         exact wk_tup ⟨wk_nil, WkV.refl _, trivial⟩)
      | ((refine nextU_ hny (()) [0, 2] (⟨by omega, hup (by omega)⟩) (by omega) ?_ (ht := ?_); (focus (simp only [rsE, benT, hor0, List.map_cons, List.map_nil, TB.inst, TV.inst, tv_map, List.cons_append, List.nil_append]; first | rfl | (simp [ptsV, ptV]; done) | (simp [hpsV, hpV]; done) | (simp [frsV, frV]; done) | (simp [txV]; done) | (simp [prtsV, prtV]; done))); (simp only [rsS, List.map_cons, List.map_nil, TV.inst, List.getD_cons_zero, List.getD_cons_succ]; exact tv_)))
  | succ k =>
    have hll : (rwV (stO b (k + 1))).length = k + 1 := by rw [rwV_length, stO_len]
    have hlt : (rwV (stO b (k + 1))).take (k + 1) = rwV (stO b (k + 1)) := List.take_of_length_le (by rw [hll]; exact Nat.le_refl _)
    simp only [rsS, rsE, benT]
    simp only [List.map_cons, List.map_nil, TB.inst, TV.inst, tv_map, zipT, List.cons_append, List.nil_append, Nat.add_zero]
    (have FX := And.intro hla (And.intro hre (And.intro hll (And.intro hlt hbl))); repeat' (first | (refine sx ?_ ?_ <;> intro h <;> first | (exfalso; omega) | skip) | (refine g_op ?_; refine g_call ?_; refine g_args ?_; (first | refine s_fn (hbr _) ?_ | refine s_fn (hsw _) ?_) <;> try first | omega | assumption) | refine ny ?_ | refine WA_block ?_))
    all_goals (try (exfalso; omega))
    all_goals first
      | (refine r_esA hQ (fin_slb (j := 1) hB rfl hll (rwV_plain _) ⟨rfl, ?_⟩)
         rw [hyes (by omega)]
         exact WkV.refl _)
      | (refine r_esA hQ (.inl ⟨rfl, rfl, ?_⟩)
         rw [hno (by omega) (by omega)]
         exact wk_tup ⟨wk_nil, WkV.refl _, trivial⟩)
      | ((refine nextU_ hny (()) [0, 3] (⟨by omega, hup (by omega)⟩) (by omega) ?_ (ht := ?_); (focus (simp only [rsE, benT, hor, List.map_cons, List.map_nil, TB.inst, TV.inst, tv_map, List.cons_append, List.nil_append]; first | rfl | (simp [ptsV, ptV]; done) | (simp [hpsV, hpV]; done) | (simp [frsV, frV]; done) | (simp [txV]; done) | (simp [prtsV, prtV]; done))); (simp only [rsS, List.map_cons, List.map_nil, TV.inst, List.getD_cons_zero, List.getD_cons_succ]; exact tv_)))
end Go.Proofs.Ytaoakololkcepaa
