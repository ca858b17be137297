/- contract: who disturbs whom -/
import Derived.Test.YtaoakololkcepaaB66
import Derived.Test.YtaoakololkcepaaB35
set_option linter.unusedSimpArgs false
set_option linter.unusedVariables false
namespace Go.Proofs.Ytaoakololkcepaa
open Go.RowKit
attribute [local irreducible] WA WOs WDs WAn qThen qBlock tput
set_option maxHeartbeats 1000000
set_option maxRecDepth 20000
set_option linter.unusedSimpArgs false
set_option linter.unusedVariables false
set_option maxHeartbeats 8000000
def prSt (k : Nat) : List Pr → TV
  | [] => .v .nilsl
  | _ :: r => .sl k (r.length + 1)
def prE : List Pr → List TB
  | [] => []
  | p :: r => [.cells .own 52 2 ((prsV (p :: r)).map (List.map TV.v))]
theorem prE_ok {out : List Pr} : (prE out).all (TB.ok (prE out).length) = true := by
  cases out with
  | nil => simp [prE]
  | cons p r => simp only [prE, List.all_cons, TB.ok, TV.okT, List.all_nil, Bool.and_true, Bool.and_self, tvs_ok, List.length_cons, List.length_nil]
theorem prS_ok {out : List Pr} {l1 l2 : List V} : (l1.map TV.v ++ prSt 0 out :: l2.map TV.v).all (TV.okT (prE out).length) = true := by
  have h : ∀ (ls : List V) n, (ls.map TV.v).all (TV.okT n) = true := fun ls n => by simp [TV.okT]
  rw [List.all_append, List.all_cons, h, h]
  cases out with
  | nil => simp [TV.okT, prSt]
  | cons p r => simp [TV.okT, prSt, prE]
def prJ : List Pr → List Nat
  | [] => []
  | _ :: _ => [0]
theorem prJ_nd (out : List Pr) : (prJ out).Nodup := by cases out <;> simp [prJ]
theorem prJ_e3 (out : List Pr) (L : Mem) (f : Nat → Nat) (hf : f 0 = L.length) : (prJ out).map (fun j => ((prE out).map (TB.inst f))[j]?) = (prE out).map (fun T => some (T.inst fun i => L.length + (prJ out).getD i 0)) := by
  cases out with
  | nil => rfl
  | cons p r => simp [prJ, prE, TB.inst, Function.comp_def, TV.inst]

theorem gDisturbs_bad (b : BnR) (hb : Bl b) (h0 : bnErr b ≠ 0) (m : Mem) : Gives Try.prog 62 [.agg (bnV b)] m (.tup [.nilsl, .int .i64 (bnErr b)]) := by
  have hlm := mssV_length (l := b.ms)
  have hop := fun m => gopen_bad b hb h0 m
  unfold bnV at hop ⊢
  refine Gives_in Try.func62 rfl Try.ntmps62 Try.results62 (by kernel_rfl) (by simp) rfl fun Q hQ => ?_
  (have FX := hlm; repeat' (first | (refine sx ?_ ?_ <;> intro h <;> first | (exfalso; omega) | skip) | (refine g_op ?_; refine g_call ?_; refine g_args ?_; (first | refine s_fn (hop _) ?_) <;> try first | omega | assumption) | refine ny ?_ | refine WA_block ?_))
  all_goals (try (exfalso; omega))
  all_goals ((refine r_es hQ ?_; try with_reducible rfl))
theorem gDisturbs_ok (b : BnR) (hb : Bl b) (h0 : bnErr b = 0) (h4 : b.ads.length ≤ 4) (m : Mem) : Gives Try.prog 62 [.agg (bnV b)] m (.tup [.lst (prsV (dqK b (ordB b.ads) (ordB b.ads).length)), .int .i64 0]) := by
  have hok := bn_ok h0
  have hbd := bnd_ok hok
  have hfm := hbd.fm
  have hlo := nuV_length (l := ordB b.ads)
  have hal : ∀ n, n = 1 → (nuV (ordB b.ads)).all (fun e => e.length == n) = true := fun n h => by subst h; simp [nuV]
  have hga := hlo
  have hgb := hlo
  have hgc := hlo
  have hll := hlo
  have hlt := hlo
  have hpl := hlo
  have hpt := hlo
  have hop := fun m => gopen_ok b hb h0 m
  have hol := ordB_len b.ads
  have hoe : (ordB b.ads).length = b.ads.length := by have := hok.cy; omega
  have hog := og_ordB b.ads
  have hnd := hog.nd
  have hlt0 : ∀ x ∈ ordB b.ads, x < (ordB b.ads).length := fun x hx => by rw [hoe]; exact hog.lt x hx
  have hpm := ds_perm b hnd hlt0
  have hsr := dqK_srt b (ordB b.ads) (ordB b.ads).length
  have hbx : bxC b = [.lst (mssV b.ms), .lst (adsV b.ads), .lst (nuV (ordB b.ads)), .lst (rwV (rowsB b.ms b.ads)), .lst (nsV (mnsB b.ms b.ads))] := rfl
  suffices key : CallA Try.prog 62 [.agg (bnV b)] m (fun v mo => mo = none ∧ WkV v (.tup [.lst (prsV (dqK b (ordB b.ads) (ordB b.ads).length)), .int .i64 0])) from Gives_of key fun v mo h => h
  generalize dqK b (ordB b.ads) (ordB b.ads).length = T at *
  rw [hbx] at hop
  unfold bnV at hop ⊢
  refine CallA_in Try.func62 rfl Try.ntmps62 Try.results62 (by kernel_rfl) (by simp) fun Q hQ => ?_
  (have FX := And.intro hlo (And.intro hal (And.intro hga (And.intro hgb (And.intro hgc (And.intro hll (And.intro hlt (And.intro hpl hpt))))))); repeat' (first | (refine sx ?_ ?_ <;> intro h <;> first | (exfalso; omega) | skip) | (refine g_op ?_; refine g_call ?_; refine g_args ?_; (first | refine s_fn (hop _) ?_) <;> try first | omega | assumption) | refine ny ?_ | refine WA_block ?_))
  all_goals (try (exfalso; omega))
  refine WA_whileJ (σ := Nat) (L := lend m) [4, 23, 24, 6, 25] (fun i => [.v (.bp [.lst (mssV b.ms), .lst (adsV b.ads), .lst (nuV (ordB b.ads)), .lst (rwV (rowsB b.ms b.ads)), .lst (nsV (mnsB b.ms b.ads))] 0), .v (.lst (nuV (ordB b.ads))), .v (.int .i64 (ordB b.ads).length), prSt 0 (dsK b (ordB b.ads) i), .v (.int .i64 i)]) (fun i => prE (dsK b (ordB b.ads) i)) (fun i => i ≤ (ordB b.ads).length) (fun i => (ordB b.ads).length - i) 0 [] (Nat.zero_le _) ?_ rfl rfl (by decide) (by decide) (fun s _ => prS_ok (l1 := [.bp [.lst (mssV b.ms), .lst (adsV b.ads), .lst (nuV (ordB b.ads)), .lst (rwV (rowsB b.ms b.ads)), .lst (nsV (mnsB b.ms b.ads))] 0, .lst (nuV (ordB b.ads)), .int .i64 (ordB b.ads).length]) (l2 := [.int .i64 s])) (fun _ _ => prE_ok) ?_
  · exact tv_
  rintro i hi1 B ⟨D, hB⟩ K hK
  clear FX hga hgb hgc hll hlt hop hpl hpt
  have hop := hlo
  have hpl := hlo
  have hpt := hlo
  rcases Nat.lt_or_ge i (ordB b.ads).length with hi | hi
  · have hga := nuV_get hi
    have hgb := hlo
    have hgc := hlo
    have hll : (nuV ((ordB b.ads).take i)).length = i := by rw [nuV_length, List.length_take]; omega
    have hlt : ∀ n : Nat, n = i → (nuV (ordB b.ads)).take n = nuV ((ordB b.ads).take i) := fun n h => by subst h; simp [nuV, List.map_take]
    have hail := ordB_lt hi
    have hsu := fun j (hj : j < (ordB b.ads).length) => dsR_succ (b := b) (i := i) hj
    have hR0 : dsR b (ordB b.ads) i 0 = [] := rfl
    have hks := dsK_succ b (ordB b.ads) i
    have hdl := dsK_len b (ordB b.ads) i
    have hrl := fun j => dsR_len b (ordB b.ads) i j
    have hii : i * i ≤ 16 := Nat.le_trans (Nat.mul_le_mul (show i ≤ 4 by omega) (show i ≤ 4 by omega)) (by decide)
    have hnx := hK (i + 1)
    have hny := fun (_ : Unit) => hnx
    clear hnx hK
    rw [hks] at hny
    generalize dsK b (ordB b.ads) i = out at *
    generalize dsR b (ordB b.ads) i = R at *
    generalize (ordB b.ads).getD i 0 = a at *
    simp only [List.map_cons, List.map_nil, TB.inst, TV.inst, tv_map, zipT, List.cons_append, List.nil_append, Nat.add_zero]
    (have FX := And.intro hlo (And.intro hal (And.intro hga (And.intro hgb (And.intro hgc (And.intro hll (And.intro hlt (And.intro hpl hpt))))))); repeat' (first | (refine sx ?_ ?_ <;> intro h <;> first | (exfalso; omega) | skip) | (refine g_op ?_; refine g_call ?_; refine g_args ?_; (first | refine s_fn (hop _) ?_) <;> try first | omega | assumption) | refine ny ?_ | refine WA_block ?_))
    all_goals (try (exfalso; omega))
    clear FX hga hgb hgc
    refine WA_whileJ (σ := Nat) (L := B) (X := (prE out).map (TB.inst fun i => B.length + i)) [4, 23, 24, 6, 25, 8, 35, 36, 37] (fun j => [.v (.bp [.lst (mssV b.ms), .lst (adsV b.ads), .lst (nuV (ordB b.ads)), .lst (rwV (rowsB b.ms b.ads)), .lst (nsV (mnsB b.ms b.ads))] 0), .v (.lst (nuV (ordB b.ads))), .v (.int .i64 (ordB b.ads).length), prSt 0 (out ++ R j), .v (.int .i64 i), .v (.int .i64 a), .v (.lst (nuV ((ordB b.ads).take i))), .v (.int .i64 i), .v (.int .i64 j)]) (fun j => prE (out ++ R j)) (fun j => j ≤ i) (fun j => i - j) 0 (prJ out) (Nat.zero_le _) ?_ (by simp only [hR0, List.append_nil]; exact prJ_e3 out B _ rfl) rfl (prJ_nd _) (by decide) (fun s _ => prS_ok (l1 := [.bp [.lst (mssV b.ms), .lst (adsV b.ads), .lst (nuV (ordB b.ads)), .lst (rwV (rowsB b.ms b.ads)), .lst (nsV (mnsB b.ms b.ads))] 0, .lst (nuV (ordB b.ads)), .int .i64 (ordB b.ads).length]) (l2 := [.int .i64 i, .int .i64 a, .lst (nuV ((ordB b.ads).take i)), .int .i64 i, .int .i64 s])) (fun _ _ => prE_ok) ?_
    · simp only [hR0, List.append_nil]
      cases out with
      | nil => exact tv_
      | cons p r => exact tv_
    rintro j hj1 B2 ⟨D2, hB2⟩ K2 hK2
    have hrl := hrl j
    rcases Nat.lt_or_ge j i with hj | hj
    · have hga := nuV_get (l := (ordB b.ads).take i) (i := j) (by rw [List.length_take]; omega)
      have hgj : ((ordB b.ads).take i).getD j 0 = (ordB b.ads).getD j 0 := by rw [List.getD_eq_getElem?_getD, List.getElem?_take_of_lt hj, ← List.getD_eq_getElem?_getD]
      rw [hgj] at hga
      have hsu := hsu j (by omega)
      have hcl := ordB_lt (ads := b.ads) (k := j) (by omega)
      generalize (ordB b.ads).getD j 0 = c at *
      have hgb := nsV_get (l := mnsB b.ms b.ads) (i := c) (by rw [mnsB_length]; exact hcl)
      rw [mnsB_get hcl] at hgb
      have hgb : (nsV (mnsB b.ms b.ads))[c]? = some [V.int .i64 (mainL b.ms (b.ads.getD c adz).effs)] ∧ (nsV (mnsB b.ms b.ads)).length = b.ads.length := ⟨hgb, by rw [nsV_length, mnsB_length]⟩
      have hmb := mainL_bd b.ms (b.ads.getD c adz).effs
      have hds : dstB b a c = decide (0 ≤ mainL b.ms (b.ads.getD c adz).effs ∧ byN b a (mainL b.ms (b.ads.getD c adz).effs).toNat ≠ 0) := rfl
      have hol2 : out.length + (R j).length ≤ 100 := by omega
      have hnz := hK2 (j + 1)
      have hnw := fun (_ : Unit) => hnz
      clear hnz hK2
      rw [← List.length_append] at hol2
      rcases Int.lt_or_le (mainL b.ms (b.ads.getD c adz).effs) 0 with hm | hm
      · rw [decide_eq_false (fun h => absurd h.1 (by omega))] at hds
        rw [hds, if_neg (by decide)] at hsu
        rw [hsu] at hnw
        have hgc := hlo
        clear hny
        generalize mainL b.ms (b.ads.getD c adz).effs = mv at *
        generalize out ++ R j = OUT at *
        cases OUT with
        | nil =>
          simp only [prSt, prE]
          simp only [List.map_cons, List.map_nil, TB.inst, TV.inst, tv_map, zipT, List.cons_append, List.nil_append, Nat.add_zero]
          (have FX := And.intro hlo (And.intro hal (And.intro hga (And.intro hgb (And.intro hgc (And.intro hll (And.intro hlt (And.intro hpl hpt))))))); repeat' (first | (refine sx ?_ ?_ <;> intro h <;> first | (exfalso; omega) | skip) | (refine g_op ?_; refine g_call ?_; refine g_args ?_; (first | refine s_fn (hop _) ?_) <;> try first | omega | assumption) | refine ny ?_ | refine WA_block ?_))
          all_goals (try (exfalso; first | omega | simp_all; done))
          all_goals
            refine nextU_ hnw () [] hj (by omega) rfl (ht := ?_)
            simp only [prSt, List.map_cons, List.map_nil, TV.inst, List.getD_cons_zero, List.getD_cons_succ]
            exact tv_
        | cons p r =>
          simp only [prSt, prE]
          simp only [List.map_cons, List.map_nil, TB.inst, TV.inst, tv_map, zipT, List.cons_append, List.nil_append, Nat.add_zero]
          (have FX := And.intro hlo (And.intro hal (And.intro hga (And.intro hgb (And.intro hgc (And.intro hll (And.intro hlt (And.intro hpl hpt))))))); repeat' (first | (refine sx ?_ ?_ <;> intro h <;> first | (exfalso; omega) | skip) | (refine g_op ?_; refine g_call ?_; refine g_args ?_; (first | refine s_fn (hop _) ?_) <;> try first | omega | assumption) | refine ny ?_ | refine WA_block ?_))
          all_goals (try (exfalso; first | omega | simp_all; done))
          all_goals ((refine nextU_ hnw (()) [0] (hj) (by omega) ?_ (ht := ?_); (focus (simp only [prE, List.map_cons, List.map_nil, TB.inst, TV.inst, tv_map, List.cons_append, List.nil_append]; first | rfl | (simp [ptsV, ptV]; done) | (simp [hpsV, hpV]; done) | (simp [frsV, frV]; done) | (simp [txV]; done) | (simp [prtsV, prtV]; done))); (simp only [prSt, List.map_cons, List.map_nil, TV.inst, List.getD_cons_zero, List.getD_cons_succ]; exact tv_)))
      · obtain ⟨mj, hmj⟩ : ∃ mj : Nat, mainL b.ms (b.ads.getD c adz).effs = (mj : Int) := ⟨(mainL b.ms (b.ads.getD c adz).effs).toNat, by omega⟩
        rw [hmj] at hgb hds hmb
        rw [Int.toNat_natCast] at hds
        have hgw := rwV_get (l := rowsB b.ms b.ads) (i := a) (by rw [rowsB_length]; exact hail)
        rw [rowsB_get hail] at hgw
        have hgr := nsV_get (l := rowL b.ms (b.ads.getD a adz).effs) (i := mj) (by rw [rowL_length]; omega)
        rw [rowL_get (by omega)] at hgr
        have hgc : (rwV (rowsB b.ms b.ads))[a]? = some [V.lst (nsV (rowL b.ms (b.ads.getD a adz).effs))] ∧ (rwV (rowsB b.ms b.ads)).length = b.ads.length ∧ (nsV (rowL b.ms (b.ads.getD a adz).effs))[mj]? = some [V.int .i64 (byN b a mj)] ∧ (nsV (rowL b.ms (b.ads.getD a adz).effs)).length = b.ms.length := ⟨hgw, by rw [rwV_length, rowsB_length], hgr, by rw [nsV_length, rowL_length]⟩
        clear hgw hgr
        generalize nsV (rowL b.ms (b.ads.getD a adz).effs) = RL at *
        by_cases hby : byN b a mj = 0
        · rw [decide_eq_false (fun h => h.2 hby)] at hds
          rw [hds, if_neg (by decide)] at hsu
          rw [hsu] at hnw
          clear hny
          generalize byN b a mj = bv at *
          generalize out ++ R j = OUT at *
          cases OUT with
          | nil =>
            simp only [prSt, prE]
            simp only [List.map_cons, List.map_nil, TB.inst, TV.inst, tv_map, zipT, List.cons_append, List.nil_append, Nat.add_zero]
            (have FX := And.intro hlo (And.intro hal (And.intro hga (And.intro hgb (And.intro hgc (And.intro hll (And.intro hlt (And.intro hpl hpt))))))); repeat' (first | (refine sx ?_ ?_ <;> intro h <;> first | (exfalso; omega) | skip) | (refine g_op ?_; refine g_call ?_; refine g_args ?_; (first | refine s_fn (hop _) ?_) <;> try first | omega | assumption) | refine ny ?_ | refine WA_block ?_))
            all_goals (try (exfalso; first | omega | simp_all; done))
            all_goals
              refine nextU_ hnw () [] hj (by omega) rfl (ht := ?_)
              simp only [prSt, List.map_cons, List.map_nil, TV.inst, List.getD_cons_zero, List.getD_cons_succ]
              exact tv_
          | cons p r =>
            simp only [prSt, prE]
            simp only [List.map_cons, List.map_nil, TB.inst, TV.inst, tv_map, zipT, List.cons_append, List.nil_append, Nat.add_zero]
            (have FX := And.intro hlo (And.intro hal (And.intro hga (And.intro hgb (And.intro hgc (And.intro hll (And.intro hlt (And.intro hpl hpt))))))); repeat' (first | (refine sx ?_ ?_ <;> intro h <;> first | (exfalso; omega) | skip) | (refine g_op ?_; refine g_call ?_; refine g_args ?_; (first | refine s_fn (hop _) ?_) <;> try first | omega | assumption) | refine ny ?_ | refine WA_block ?_))
            all_goals (try (exfalso; first | omega | simp_all; done))
            all_goals ((refine nextU_ hnw (()) [0] (hj) (by omega) ?_ (ht := ?_); (focus (simp only [prE, List.map_cons, List.map_nil, TB.inst, TV.inst, tv_map, List.cons_append, List.nil_append]; first | rfl | (simp [ptsV, ptV]; done) | (simp [hpsV, hpV]; done) | (simp [frsV, frV]; done) | (simp [txV]; done) | (simp [prtsV, prtV]; done))); (simp only [prSt, List.map_cons, List.map_nil, TV.inst, List.getD_cons_zero, List.getD_cons_succ]; exact tv_)))
        · rw [decide_eq_true ⟨by omega, hby⟩] at hds
          rw [hds, if_pos rfl] at hsu
          rw [hsu, ← List.append_assoc] at hnw
          clear hny
          generalize byN b a mj = bv at *
          generalize out ++ R j = OUT at *
          cases OUT with
          | nil =>
            simp only [prSt, prE]
            simp only [List.map_cons, List.map_nil, TB.inst, TV.inst, tv_map, zipT, List.cons_append, List.nil_append, Nat.add_zero]
            (have FX := And.intro hlo (And.intro hal (And.intro hga (And.intro hgb (And.intro hgc (And.intro hll (And.intro hlt (And.intro hpl hpt))))))); repeat' (first | (refine sx ?_ ?_ <;> intro h <;> first | (exfalso; omega) | skip) | (refine g_op ?_; refine g_call ?_; refine g_args ?_; (first | refine s_fn (hop _) ?_) <;> try first | omega | assumption) | refine ny ?_ | refine WA_block ?_))
            all_goals (try (exfalso; first | omega | simp_all; done))
            all_goals ((refine nextU_ hnw (()) [1] (hj) (by omega) ?_ (ht := ?_); (focus (simp only [prE, prsV, prV, List.cons_append, List.nil_append, List.map_cons, List.map_nil, TB.inst, TV.inst, tv_map, List.cons_append, List.nil_append]; first | rfl | (simp [ptsV, ptV]; done) | (simp [hpsV, hpV]; done) | (simp [frsV, frV]; done) | (simp [txV]; done) | (simp [prtsV, prtV]; done))); (simp only [prSt, List.cons_append, List.nil_append, List.length_append, List.length_cons, List.length_nil, Nat.zero_add, List.map_cons, List.map_nil, TV.inst, List.getD_cons_zero, List.getD_cons_succ]; exact tv_)))
          | cons p r =>
            have hpl : (prsV (p :: r)).length = r.length + 1 := prsV_length
            have hpt : (prsV (p :: r)).take (r.length + 1) = prsV (p :: r) := by rw [List.take_of_length_le (by rw [hpl]; exact Nat.le_refl _)]
            have hsn : prsV (p :: (r ++ [(a, c)])) = prsV (p :: r) ++ [[V.int .i64 (a : Int), V.int .i64 (c : Int)]] := prsV_snoc (p :: r) (a, c)
            simp only [List.length_cons] at hol2
            simp only [prSt, prE]
            simp only [List.map_cons, List.map_nil, TB.inst, TV.inst, tv_map, zipT, List.cons_append, List.nil_append, Nat.add_zero]
            (have FX := And.intro hlo (And.intro hal (And.intro hga (And.intro hgb (And.intro hgc (And.intro hll (And.intro hlt (And.intro hpl hpt))))))); repeat' (first | (refine sx ?_ ?_ <;> intro h <;> first | (exfalso; omega) | skip) | (refine g_op ?_; refine g_call ?_; refine g_args ?_; (first | refine s_fn (hop _) ?_) <;> try first | omega | assumption) | refine ny ?_ | refine WA_block ?_))
            all_goals (try (exfalso; first | omega | simp_all; done))
            all_goals ((refine nextU_ hnw (()) [2] (hj) (by omega) ?_ (ht := ?_); (focus (simp only [prE, hsn, List.cons_append, List.nil_append, List.map_cons, List.map_nil, TB.inst, TV.inst, tv_map, List.cons_append, List.nil_append]; first | rfl | (simp [ptsV, ptV]; done) | (simp [hpsV, hpV]; done) | (simp [frsV, frV]; done) | (simp [txV]; done) | (simp [prtsV, prtV]; done))); (simp only [prSt, List.cons_append, List.nil_append, List.length_append, List.length_cons, List.length_nil, Nat.zero_add, List.map_cons, List.map_nil, TV.inst, List.getD_cons_zero, List.getD_cons_succ]; exact tv_)))
    · obtain rfl : j = i := by omega
      have hga := hlo
      have hgb := hlo
      have hgc := hlo
      clear hK2
      subst hB2
      have hnq := fun js t m h => hny () _ t m (RoundEndT_up (D := D2) (js := js) h (prS_ok (l1 := [.bp [.lst (mssV b.ms), .lst (adsV b.ads), .lst (nuV (ordB b.ads)), .lst (rwV (rowsB b.ms b.ads)), .lst (nsV (mnsB b.ms b.ads))] 0, .lst (nuV (ordB b.ads)), .int .i64 (ordB b.ads).length]) (l2 := [.int .i64 ((j + 1 : Nat) : Int)])) prE_ok)
      clear hny
      have hny := fun (_ : Unit) => hnq
      clear hnq
      generalize out ++ R j = OUT at *
      cases OUT with
      | nil =>
        simp only [prSt, prE]
        simp only [List.map_cons, List.map_nil, TB.inst, TV.inst, tv_map, zipT, List.cons_append, List.nil_append, Nat.add_zero]
        (have FX := And.intro hlo (And.intro hal (And.intro hga (And.intro hgb (And.intro hgc (And.intro hll (And.intro hlt (And.intro hpl hpt))))))); repeat' (first | (refine sx ?_ ?_ <;> intro h <;> first | (exfalso; omega) | skip) | (refine g_op ?_; refine g_call ?_; refine g_args ?_; (first | refine s_fn (hop _) ?_) <;> try first | omega | assumption) | refine ny ?_ | refine WA_block ?_))
        all_goals (try (exfalso; first | omega | simp_all; done))
        all_goals
          refine nextU_ hny () [] hi (by omega) rfl (ht := ?_)
          simp only [prSt, List.map_cons, List.map_nil, TV.inst, List.getD_cons_zero, List.getD_cons_succ]
          exact tv_
      | cons p r =>
        simp only [prSt, prE]
        simp only [List.map_cons, List.map_nil, TB.inst, TV.inst, tv_map, zipT, List.cons_append, List.nil_append, Nat.add_zero]
        (have FX := And.intro hlo (And.intro hal (And.intro hga (And.intro hgb (And.intro hgc (And.intro hll (And.intro hlt (And.intro hpl hpt))))))); repeat' (first | (refine sx ?_ ?_ <;> intro h <;> first | (exfalso; omega) | skip) | (refine g_op ?_; refine g_call ?_; refine g_args ?_; (first | refine s_fn (hop _) ?_) <;> try first | omega | assumption) | refine ny ?_ | refine WA_block ?_))
        all_goals (try (exfalso; first | omega | simp_all; done))
        all_goals ((refine nextU_ hny (()) [0] (hi) (by omega) ?_ (ht := ?_); (focus (simp only [prE, List.map_cons, List.map_nil, TB.inst, TV.inst, tv_map, List.cons_append, List.nil_append]; first | rfl | (simp [ptsV, ptV]; done) | (simp [hpsV, hpV]; done) | (simp [frsV, frV]; done) | (simp [txV]; done) | (simp [prtsV, prtV]; done))); (simp only [prSt, List.map_cons, List.map_nil, TV.inst, List.getD_cons_zero, List.getD_cons_succ]; exact tv_)))
  · obtain rfl : i = (ordB b.ads).length := by omega
    have hga := hlo
    have hgb := hlo
    have hgc := hlo
    have hll := hlo
    have hlt := hlo
    have hdl := dsK_len b (ordB b.ads) (ordB b.ads).length
    have hii : (ordB b.ads).length * (ordB b.ads).length ≤ (ordB b.ads).length * 4 := Nat.mul_le_mul (Nat.le_refl _) (by omega)
    have hd6 : (dsK b (ordB b.ads) (ordB b.ads).length).length ≤ 6 := by omega
    clear hK hdl hii
    generalize dsK b (ordB b.ads) (ordB b.ads).length = out at *
    cases out with
    | nil =>
      have hT : T = [] := hpm.eq_nil
      subst hT
      simp only [prSt, prE]
      simp only [List.map_cons, List.map_nil, TB.inst, TV.inst, tv_map, zipT, List.cons_append, List.nil_append, Nat.add_zero]
      (have FX := And.intro hlo (And.intro hal (And.intro hga (And.intro hgb (And.intro hgc (And.intro hll (And.intro hlt (And.intro hpl hpt))))))); repeat' (first | (refine sx ?_ ?_ <;> intro h <;> first | (exfalso; omega) | skip) | (refine g_op ?_; refine g_call ?_; refine g_args ?_; (first | refine s_fn (asortnil_c _) ?_) <;> try first | omega | assumption) | refine ny ?_ | refine WA_block ?_))
      all_goals (try (exfalso; omega))
      all_goals
        refine r_esA hQ (.inl ⟨rfl, rfl, ?_⟩)
        exact wk_tup ⟨wk_nil, WkV.refl _, trivial⟩
    | cons p r =>
      have hrv := fun k => asort_w k (p :: r) T hpm hsr (by simp) (by omega)
      have hTl := hpm.length_eq
      simp only [List.length_cons] at hrv hTl
      have hpl : (prsV T).length = r.length + 1 := by rw [prsV_length, hTl]
      simp only [prSt, prE]
      simp only [List.map_cons, List.map_nil, TB.inst, TV.inst, tv_map, zipT, List.cons_append, List.nil_append, Nat.add_zero]
      (have FX := And.intro hlo (And.intro hal (And.intro hga (And.intro hgb (And.intro hgc (And.intro hll (And.intro hlt (And.intro hpl hpt))))))); repeat' (first | (refine sx ?_ ?_ <;> intro h <;> first | (exfalso; omega) | skip) | (refine g_op ?_; refine g_call ?_; refine g_args ?_; (first | refine s_fnW (hrv _) ?_) <;> try first | omega | assumption) | refine ny ?_ | refine WA_block ?_))
      all_goals (try (exfalso; omega))
      all_goals (refine r_esA hQ (fin_sli3 (j := 0) hB rfl hpl (prsV_plain _) ⟨rfl, WkV.refl _⟩))
end Go.Proofs.Ytaoakololkcepaa
