/- contracts: passes -/
import Derived.Test.YtaoakololkcepaaB20
set_option linter.unusedSimpArgs false
set_option linter.unusedVariables false
namespace Go.Proofs.Ytaoakololkcepaa
open Go.RowKit
attribute [local irreducible] WA WOs WDs WAn qThen qBlock tput
set_option maxHeartbeats 1000000
set_option maxRecDepth 20000
set_option linter.unusedSimpArgs false
set_option linter.unusedVariables false
set_option maxHeartbeats 4000000
def isS (n : Int) (x : StR) : Bool := decide (x.ad = n)
/-- does a name come later in a pass -/
def latB (ads : List AdR) (l : List StR) (i : Nat) (s : Txt) : Bool := decide (0 ≤ fdx (isS (fdx (isA s) ads)) (l.drop (i + 1)))
/-- the error of a step of a pass -/
def psErrAt (ads : List AdR) (l : List StR) (i : Nat) : Int :=
  if ¬ (0 ≤ (l.getD i stz).ad ∧ (l.getD i stz).ad ≤ (ads.length : Int) - 1) then 6
  else if 0 ≤ fdx (isS (l.getD i stz).ad) (l.take i) then 5
  else if (l.getD i stz).n = 0 then 11
  else if ¬ (-(ads.getD (l.getD i stz).ad.toNat adz).pass ≤ (l.getD i stz).n ∧ (l.getD i stz).n ≤ (ads.getD (l.getD i stz).ad.toNat adz).pass) then 2
  else if 0 ≤ fdx (latB ads l i) (ads.getD (l.getD i stz).ad.toNat adz).after then 9 else 0
/-- the first wrong step of a pass, and its error -/
def psI (ads : List AdR) (l : List StR) : Option Nat := (List.range l.length).find? (fun i => decide (psErrAt ads l i ≠ 0))
def psV (ads : List AdR) (l : List StR) : Int × Int := if 12 < l.length then (0, 8) else match psI ads l with
  | some i => ((i : Int), psErrAt ads l i)
  | none => (0, 0)
theorem psV_big {ads : List AdR} {l : List StR} (h : 12 < l.length) : psV ads l = (0, 8) := by unfold psV; rw [if_pos h]
theorem psV_at {ads : List AdR} {l : List StR} {i : Nat} {c : Int} (h12 : l.length ≤ 12) (hi : i < l.length) (h0 : ∀ j, j < i → psErrAt ads l j = 0) (h : psErrAt ads l i = c) (hc : c ≠ 0) : psV ads l = ((i : Int), c) := by
  unfold psV psI
  rw [if_neg (by omega), find_at hi (fun j hj => by rw [h0 j hj]; rfl) (by rw [h]; exact decide_eq_true hc)]
  dsimp only
  rw [h]
theorem psV_no {ads : List AdR} {l : List StR} (h12 : l.length ≤ 12) (h0 : ∀ j, j < l.length → psErrAt ads l j = 0) : psV ads l = (0, 0) := by
  unfold psV psI
  rw [if_neg (by omega), find_no (fun j hj => by rw [h0 j hj]; rfl)]

theorem gcp2_c (y x : StR) (M : Mem) (k : Nat) (st : Sta) (hk : M[k]? = some (.cells st 79 2 [[.int .i64 x.ad, .int .i64 x.n]])) : Gives Try.prog 127 [.agg (stV y), .ptr k 0 0] M (.bool (isS x.ad y)) := by
  have hk := lend_get2 hk
  unfold stV isS
  refine Gives_in Try.func127 rfl Try.ntmps127 Try.results127 (by kernel_rfl) (by simp) rfl fun Q hQ => ?_
  (have FX := hk; repeat' (first | (refine sx ?_ ?_ <;> intro h <;> first | (exfalso; omega) | skip) | refine ny ?_ | refine WA_block ?_))
  all_goals ((refine r_es hQ ?_; try with_reducible rfl))
  all_goals (exact congrArg V.bool (by first | rfl | (rw [decide_eq_true (by assumption)]; rfl) | (rw [decide_eq_false (by assumption)]; rfl) | exact (decide_eq_true (by assumption)).symm | exact (decide_eq_false (by assumption)).symm | exact (decide_eq_true (by omega)).symm | exact (decide_eq_false (by omega)).symm))

theorem gcp11_c (y : StR) (n : Int) (M : Mem) (k : Nat) (st : Sta) (hk : M[k]? = some (.cells st 3 1 [[.int .i64 n]])) : Gives Try.prog 126 [.agg (stV y), .ptr k 0 0] M (.bool (isS n y)) := by
  have hk := lend_get2 hk
  unfold stV isS
  refine Gives_in Try.func126 rfl Try.ntmps126 Try.results126 (by kernel_rfl) (by simp) rfl fun Q hQ => ?_
  (have FX := hk; repeat' (first | (refine sx ?_ ?_ <;> intro h <;> first | (exfalso; omega) | skip) | refine ny ?_ | refine WA_block ?_))
  all_goals ((refine r_es hQ ?_; try with_reducible rfl))
  all_goals (exact congrArg V.bool (by first | rfl | (rw [decide_eq_true (by assumption)]; rfl) | (rw [decide_eq_false (by assumption)]; rfl) | exact (decide_eq_true (by assumption)).symm | exact (decide_eq_false (by assumption)).symm | exact (decide_eq_true (by omega)).symm | exact (decide_eq_false (by omega)).symm))

theorem gcp1_c (b : BnR) (hlb : b.ads.length ≤ 100000) (l : List StR) (hl : l.length ≤ 12) (i : Nat) (hi : i < l.length) (s : Txt) (M : Mem) (k2 k3 k6 : Nat) (s2 s3 s6 : Sta) (h2 : M[k2]? = some (.cells s2 102 1 [[.bp (bxC b) 0]])) (h3 : M[k3]? = some (.cells s3 75 1 [[.lst (stsV l)]])) (h6 : M[k6]? = some (.cells s6 3 1 [[.int .i64 i]])) : Gives Try.prog 123 [.str s, .ptr k2 0 0, .ptr k3 0 0, .ptr k6 0 0] M (.bool (latB b.ads l i s)) := by
  have h2 := lend_get2 h2
  have h3 := lend_get2 h3
  have h6 := lend_get2 h6
  have hln := stsV_length (l := l)
  have hsd : (stsV l).drop (i + 1) = stsV (l.drop (i + 1)) := stsV_drop l (i + 1)
  have hto : ((i : Int) + 1).toNat = i + 1 := by omega
  have hte : ((l.length : Int) - ((i : Int) + 1)).toNat = l.length - (i + 1) := by omega
  have htk : (stsV (l.drop (i + 1))).take (l.length - (i + 1)) = stsV (l.drop (i + 1)) := List.take_of_length_le (by rw [stsV_length, List.length_drop]; exact Nat.le_refl _)
  have hal := fun n h => stsV_all (l := l) (n := n) h
  unfold latB
  unfold bxC at h2
  have hcf := fun (m : Mem) (k : Nat) (h : ∃ st, m[k]? = some (.cells st 3 1 [[.int .i64 (fdx (isA s) b.ads)]])) => cf_sts (l.drop (i + 1)) (isS (fdx (isA s) b.ads)) 126 [.ptr k 0 0] m (by rw [List.length_drop]; omega) (fun i hi M hM => h.elim fun st h => (hM.at h).elim fun st h => gcp11_c _ (fdx (isA s) b.ads) M k st h)
  refine Gives_in Try.func123 rfl Try.ntmps123 Try.results123 (by kernel_rfl) (by simp) rfl fun Q hQ => ?_
  (have FX := And.intro h2 (And.intro h3 (And.intro h6 (And.intro hln (And.intro hsd (And.intro hto (And.intro hte (And.intro htk hal))))))); repeat' (first | (refine sx ?_ ?_ <;> intro h <;> first | (exfalso; omega) | skip) | (refine g_op ?_; refine g_call ?_; refine g_args ?_; (first | refine s_fn (gnumber_c b.ads _ _ hlb) ?_ | refine s_fn (hcf _ _ ?_) ?_) <;> try first | omega | assumption) | refine ny ?_ | refine WA_block ?_))
  all_goals (try (exfalso; omega))
  all_goals try (exact ⟨_, ev_⟩)
  all_goals ((refine r_es hQ ?_; try with_reducible rfl))
  all_goals (exact congrArg V.bool (by first | rfl | (rw [decide_eq_true (by assumption)]; rfl) | (rw [decide_eq_false (by assumption)]; rfl) | exact (decide_eq_true (by assumption)).symm | exact (decide_eq_false (by assumption)).symm | exact (decide_eq_true (by omega)).symm | exact (decide_eq_false (by omega)).symm))
def bxA (b : BnR) : List V := [.lst (mssV b.ms), .lst (adsV b.ads), .lst (nuV (ordB b.ads)), .lst (rwV (rowsB b.ms b.ads)), .lst (nsV (mnsB b.ms b.ads))]
theorem uB37_95_6 {N : Nat} {l : List Oper} {t : List (Nat × V)} {m : Mem} {Q : Exit → List (Nat × V) → Mem → Prop} (h : RgN Try.prog N l t m Q (fun i => if i == 1 || i == 2 || i == 6 || i == 7 || i == 9 || i == 10 then .q else .p) [.one 0, .one 1, .one 2, .one 3, .one 4, .one 5, .one 6, .one 7, .one 8, .one 9, .one 10]) : WA Try.prog N (.region 6 l.toArray true) t m Q := d_rgN h
theorem uB37_95_8 {N : Nat} {l : List Oper} {t : List (Nat × V)} {m : Mem} {Q : Exit → List (Nat × V) → Mem → Prop} (h : RgN Try.prog N l t m Q (fun i => if i == 10 then .f else if i == 9 then .a else if i == 0 || i == 4 || i == 6 || i == 8 then .q else .p) [.one 0, .one 1, .one 2, .one 3, .one 4, .one 5, .one 6, .one 7, .one 8, .one 9, .one 10]) : WA Try.prog N (.region 8 l.toArray true) t m Q := d_rgN h
theorem gcheckpass_c (b : BnR) (hb : Bnd b) (haf : ∀ i, i < b.ads.length → (b.ads.getD i adz).after.length ≤ 1000) (l : List StR) (m : Mem) : Gives Try.prog 95 [.bp (bxC b) 0, .lst (stsV l)] m (.tup [.int .i64 (psV b.ads l).1, .int .i64 (psV b.ads l).2]) := by
  have hla := adsV_length (l := b.ads)
  have hln := stsV_length (l := l)
  have hfa := hb.fa
  have hga := hla
  have hgb := hla
  have hti := hla
  have hsl := hla
  have hal := hla
  have hto := hla
  have hcf := hla
  have hct := hla
  have hbx : bxC b = bxA b := rfl
  by_cases h12 : 12 < l.length
  · rw [psV_big h12, hbx]
    unfold bxA
    refine Gives_in Try.func95 rfl Try.ntmps95 Try.results95 (by kernel_rfl) (by simp) rfl fun Q hQ => ?_
    (have FX := And.intro hla (And.intro hln (And.intro hga (And.intro hgb (And.intro hti (And.intro hsl (And.intro hal hto)))))); repeat' (first | (refine sx ?_ ?_ <;> intro h <;> first | (exfalso; omega) | skip) | (refine g_op ?_; refine g_call ?_; refine g_args ?_; (first | refine s_fn (gwithin_c _ _ _ _) ?_ | refine s_fn (hcf _ _ ?_) ?_ | refine s_fn (gsmall_1 _ (by omega) _ _ _) ?_ | refine s_fn (hct _ _ _ _ ?_) ?_) <;> try first | omega | assumption) | refine ny ?_ | refine WA_block ?_ | (refine uB37_95_6 ?_; refine ⟨by kernel_rfl, ?_⟩) | (refine uB37_95_8 ?_; refine ⟨by kernel_rfl, ?_⟩) | ((first | refine grp_cons (fun _ => gwithin_c _ _ _ _) ?_ | refine grp_cons (fun _ => hcf _ _ ?_) ?_ | refine grp_cons (fun _ => gsmall_1 _ (by omega) _ _ _) ?_ | refine grp_cons (fun _ => hct _ _ _ _ ?_) ?_) <;> try first | omega | assumption) | (refine g_d ?_; refine d_args ?_; (first | refine d_fn (gwithin_c _ _ _ _) ?_ | refine d_fn (hcf _ _ ?_) ?_ | refine d_fn (gsmall_1 _ (by omega) _ _ _) ?_ | refine d_fn (hct _ _ _ _ ?_) ?_ | refine d_fnQ (fun _ => gwithin_c _ _ _ _) ?_ | refine d_fnQ (fun _ => hcf _ _ ?_) ?_ | refine d_fnQ (fun _ => gsmall_1 _ (by omega) _ _ _) ?_ | refine d_fnQ (fun _ => hct _ _ _ _ ?_) ?_) <;> try first | omega | assumption) | (refine g_d ?_; (first | refine d_fnY (gwithin_c _ _ _ _) ?_ | refine d_fnY (hcf _ _ ?_) ?_ | refine d_fnY (gsmall_1 _ (by omega) _ _ _) ?_ | refine d_fnY (hct _ _ _ _ ?_) ?_) <;> try first | omega | assumption)))
    all_goals (try (exfalso; omega))
    all_goals ((refine r_es hQ ?_; try with_reducible rfl))
  rw [hbx]
  unfold bxA
  refine Gives_in Try.func95 rfl Try.ntmps95 Try.results95 (by kernel_rfl) (by simp) rfl fun Q hQ => ?_
  (have FX := And.intro hla (And.intro hln (And.intro hga (And.intro hgb (And.intro hti (And.intro hsl (And.intro hal hto)))))); repeat' (first | (refine sx ?_ ?_ <;> intro h <;> first | (exfalso; omega) | skip) | (refine g_op ?_; refine g_call ?_; refine g_args ?_; (first | refine s_fn (gwithin_c _ _ _ _) ?_ | refine s_fn (hcf _ _ ?_) ?_ | refine s_fn (gsmall_1 _ (by omega) _ _ _) ?_ | refine s_fn (hct _ _ _ _ ?_) ?_) <;> try first | omega | assumption) | refine ny ?_ | refine WA_block ?_ | (refine uB37_95_6 ?_; refine ⟨by kernel_rfl, ?_⟩) | (refine uB37_95_8 ?_; refine ⟨by kernel_rfl, ?_⟩) | ((first | refine grp_cons (fun _ => gwithin_c _ _ _ _) ?_ | refine grp_cons (fun _ => hcf _ _ ?_) ?_ | refine grp_cons (fun _ => gsmall_1 _ (by omega) _ _ _) ?_ | refine grp_cons (fun _ => hct _ _ _ _ ?_) ?_) <;> try first | omega | assumption) | (refine g_d ?_; refine d_args ?_; (first | refine d_fn (gwithin_c _ _ _ _) ?_ | refine d_fn (hcf _ _ ?_) ?_ | refine d_fn (gsmall_1 _ (by omega) _ _ _) ?_ | refine d_fn (hct _ _ _ _ ?_) ?_ | refine d_fnQ (fun _ => gwithin_c _ _ _ _) ?_ | refine d_fnQ (fun _ => hcf _ _ ?_) ?_ | refine d_fnQ (fun _ => gsmall_1 _ (by omega) _ _ _) ?_ | refine d_fnQ (fun _ => hct _ _ _ _ ?_) ?_) <;> try first | omega | assumption) | (refine g_d ?_; (first | refine d_fnY (gwithin_c _ _ _ _) ?_ | refine d_fnY (hcf _ _ ?_) ?_ | refine d_fnY (gsmall_1 _ (by omega) _ _ _) ?_ | refine d_fnY (hct _ _ _ _ ?_) ?_) <;> try first | omega | assumption)))
  all_goals (try (exfalso; omega))
  refine WA_whileK (σ := Nat) (L := m) [2, 3, 13, 14, 15] (fun i => [.ptr (lend m).length 0 0, .ptr ((lend m).length + 1) 0 0, .lst (stsV l), .int .i64 l.length, .int .i64 i]) (fun _ => [.cells .own 102 1 [[.bp (bxA b) 0]], .cells .own 75 1 [[.lst (stsV l)]]]) 2 (fun i => i ≤ l.length ∧ ∀ j, j < i → psErrAt b.ads l j = 0) (fun i => l.length - i) 0 ⟨Nat.zero_le _, fun j h => absurd h (Nat.not_lt_zero _)⟩ tv_ rfl (fun _ => rfl) (by intro s s' _ _; simp [conB, conS, V.keeps, V.plain, Blk.flat, flatL, plainL, V.flat]) (by intro s s' _ _; simp [conB, conS, V.keeps, V.plain, Blk.flat, flatL, plainL, V.flat]) ?_
  rintro i ⟨hi1, hi2⟩ K hK
  simp only [zipT, bxA]
  clear FX hga hgb hti hsl hal hto
  rcases Nat.lt_or_ge i l.length with hi | hi
  · have hga := stsV_get hi
    have hti : ((i : Int) - ((0 : Nat) : Int)).toNat = i := by omega
    have hsl := stsV_take l i
    have hal := fun n h => stsV_all (l := l) (n := n) h
    have hto := hla
    have hat : psErrAt b.ads l i = if ¬ (0 ≤ (l.getD i stz).ad ∧ (l.getD i stz).ad ≤ (b.ads.length : Int) - 1) then 6
      else if 0 ≤ fdx (isS (l.getD i stz).ad) (l.take i) then 5
      else if (l.getD i stz).n = 0 then 11
      else if ¬ (-(b.ads.getD (l.getD i stz).ad.toNat adz).pass ≤ (l.getD i stz).n ∧ (l.getD i stz).n ≤ (b.ads.getD (l.getD i stz).ad.toNat adz).pass) then 2
      else if 0 ≤ fdx (latB b.ads l i) (b.ads.getD (l.getD i stz).ad.toNat adz).after then 9 else 0 := rfl
    have hps := fun c h hc => psV_at (c := c) (by omega) hi hi2 h hc
    generalize l.getD i stz = x at *
    obtain ⟨xa, xn⟩ := x
    unfold stV at hga
    dsimp only at hga hat
    have hcf := fun (m : Mem) (k : Nat) (h : ∃ st, m[k]? = some (.cells st 79 2 [[.int .i64 xa, .int .i64 xn]])) => cf_sts (l.take i) (isS xa) 127 [.ptr k 0 0] m (by rw [List.length_take]; omega) (fun i hi M hM => h.elim fun st h => (hM.at h).elim fun st h => gcp2_c _ ⟨xa, xn⟩ M k st h)
    by_cases hxa : 0 ≤ xa ∧ xa ≤ (b.ads.length : Int) - 1
    · obtain ⟨q, rfl⟩ : ∃ q : Nat, xa = (q : Int) := ⟨xa.toNat, by omega⟩
      rw [Int.toNat_natCast] at hat
      have hgb := adsV_get (l := b.ads) (i := q) (by omega)
      have hpa := hb.pa q (by omega)
      have hafq := haf q (by omega)
      have hct := fun (m : Mem) (k2 k3 k6 : Nat) (h : (∃ st, m[k2]? = some (.cells st 102 1 [[.bp (bxC b) 0]])) ∧ (∃ st, m[k3]? = some (.cells st 75 1 [[.lst (stsV l)]])) ∧ ∃ st, m[k6]? = some (.cells st 3 1 [[.int .i64 i]])) => cf_ts (b.ads.getD q adz).after (latB b.ads l i) 123 [.ptr k2 0 0, .ptr k3 0 0, .ptr k6 0 0] m (by omega) (fun j hj M hM => h.1.elim fun s2 g2 => h.2.1.elim fun s3 g3 => h.2.2.elim fun s6 g6 => (hM.at g2).elim fun s2 g2 => (hM.at g3).elim fun s3 g3 => (hM.at g6).elim fun s6 g6 => gcp1_c b (by omega) l (by omega) i hi _ M k2 k3 k6 s2 s3 s6 g2 g3 g6)
      simp only [hbx, bxA] at hct
      generalize b.ads.getD q adz = y at *
      obtain ⟨yn, ye, yl, ym, yp, ya⟩ := y
      unfold adV at hgb
      dsimp only at hgb hat hct hpa hafq
      (have FX := And.intro hla (And.intro hln (And.intro hga (And.intro hgb (And.intro hti (And.intro hsl (And.intro hal hto)))))); repeat' (first | (refine sx ?_ ?_ <;> intro h <;> first | (exfalso; omega) | skip) | (refine g_op ?_; refine g_call ?_; refine g_args ?_; (first | refine s_fn (gwithin_c _ _ _ _) ?_ | refine s_fn (hcf _ _ ?_) ?_ | refine s_fn (gsmall_1 _ (by omega) _ _ _) ?_ | refine s_fn (hct _ _ _ _ ?_) ?_) <;> try first | omega | assumption) | refine ny ?_ | refine WA_block ?_ | (refine uB37_95_6 ?_; refine ⟨by kernel_rfl, ?_⟩) | (refine uB37_95_8 ?_; refine ⟨by kernel_rfl, ?_⟩) | ((first | refine grp_cons (fun _ => gwithin_c _ _ _ _) ?_ | refine grp_cons (fun _ => hcf _ _ ?_) ?_ | refine grp_cons (fun _ => gsmall_1 _ (by omega) _ _ _) ?_ | refine grp_cons (fun _ => hct _ _ _ _ ?_) ?_) <;> try first | omega | assumption) | (refine g_d ?_; refine d_args ?_; (first | refine d_fn (gwithin_c _ _ _ _) ?_ | refine d_fn (hcf _ _ ?_) ?_ | refine d_fn (gsmall_1 _ (by omega) _ _ _) ?_ | refine d_fn (hct _ _ _ _ ?_) ?_ | refine d_fnQ (fun _ => gwithin_c _ _ _ _) ?_ | refine d_fnQ (fun _ => hcf _ _ ?_) ?_ | refine d_fnQ (fun _ => gsmall_1 _ (by omega) _ _ _) ?_ | refine d_fnQ (fun _ => hct _ _ _ _ ?_) ?_) <;> try first | omega | assumption) | (refine g_d ?_; (first | refine d_fnY (gwithin_c _ _ _ _) ?_ | refine d_fnY (hcf _ _ ?_) ?_ | refine d_fnY (gsmall_1 _ (by omega) _ _ _) ?_ | refine d_fnY (hct _ _ _ _ ?_) ?_) <;> try first | omega | assumption)))
      all_goals (try (exfalso; omega))
      all_goals try (exact ⟨_, ev_⟩)
      all_goals try (exact ⟨⟨_, ev_⟩, ⟨_, ev_⟩, ⟨_, ev_⟩⟩)
      all_goals first
        | (refine nextL_ hK (i + 1) ⟨by omega, up_zero hi2 (hat.trans (by rw [if_neg (by omega), if_neg (by omega), if_neg (by omega), if_neg (by omega), if_neg (by omega)]))⟩ (by omega)
           done)
        | (rw [hps 5 (hat.trans (by rw [if_neg (by omega), if_pos (by omega)])) (by decide)] at hQ
           (refine r_es hQ ?_; try with_reducible rfl)
           done)
        | (rw [hps 11 (hat.trans (by rw [if_neg (by omega), if_neg (by omega), if_pos (by omega)])) (by decide)] at hQ
           (refine r_es hQ ?_; try with_reducible rfl)
           done)
        | (rw [hps 2 (hat.trans (by rw [if_neg (by omega), if_neg (by omega), if_neg (by omega), if_pos (by omega)])) (by decide)] at hQ
           (refine r_es hQ ?_; try with_reducible rfl)
           done)
        | (rw [hps 9 (hat.trans (by rw [if_neg (by omega), if_neg (by omega), if_neg (by omega), if_neg (by omega), if_pos (by omega)])) (by decide)] at hQ
           (refine r_es hQ ?_; try with_reducible rfl)
           done)
    · rw [if_pos (by omega)] at hat
      have hct := hla
      have hgb := hla
      rw [hps 6 hat (by decide)] at hQ
      (have FX := And.intro hla (And.intro hln (And.intro hga (And.intro hgb (And.intro hti (And.intro hsl (And.intro hal hto)))))); repeat' (first | (refine sx ?_ ?_ <;> intro h <;> first | (exfalso; omega) | skip) | (refine g_op ?_; refine g_call ?_; refine g_args ?_; (first | refine s_fn (gwithin_c _ _ _ _) ?_ | refine s_fn (hcf _ _ ?_) ?_ | refine s_fn (gsmall_1 _ (by omega) _ _ _) ?_ | refine s_fn (hct _ _ _ _ ?_) ?_) <;> try first | omega | assumption) | refine ny ?_ | refine WA_block ?_ | (refine uB37_95_6 ?_; refine ⟨by kernel_rfl, ?_⟩) | (refine uB37_95_8 ?_; refine ⟨by kernel_rfl, ?_⟩) | ((first | refine grp_cons (fun _ => gwithin_c _ _ _ _) ?_ | refine grp_cons (fun _ => hcf _ _ ?_) ?_ | refine grp_cons (fun _ => gsmall_1 _ (by omega) _ _ _) ?_ | refine grp_cons (fun _ => hct _ _ _ _ ?_) ?_) <;> try first | omega | assumption) | (refine g_d ?_; refine d_args ?_; (first | refine d_fn (gwithin_c _ _ _ _) ?_ | refine d_fn (hcf _ _ ?_) ?_ | refine d_fn (gsmall_1 _ (by omega) _ _ _) ?_ | refine d_fn (hct _ _ _ _ ?_) ?_ | refine d_fnQ (fun _ => gwithin_c _ _ _ _) ?_ | refine d_fnQ (fun _ => hcf _ _ ?_) ?_ | refine d_fnQ (fun _ => gsmall_1 _ (by omega) _ _ _) ?_ | refine d_fnQ (fun _ => hct _ _ _ _ ?_) ?_) <;> try first | omega | assumption) | (refine g_d ?_; (first | refine d_fnY (gwithin_c _ _ _ _) ?_ | refine d_fnY (hcf _ _ ?_) ?_ | refine d_fnY (gsmall_1 _ (by omega) _ _ _) ?_ | refine d_fnY (hct _ _ _ _ ?_) ?_) <;> try first | omega | assumption)))
      all_goals (try (exfalso; omega))
      all_goals ((refine r_es hQ ?_; try with_reducible rfl))
  · obtain rfl : i = l.length := by omega
    have hga := hla
    have hgb := hla
    have hti := hla
    have hsl := hla
    have hal := hla
    have hto := hla
    have hcf := hla
    have hct := hla
    rw [psV_no (by omega) hi2] at hQ
    (have FX := And.intro hla (And.intro hln (And.intro hga (And.intro hgb (And.intro hti (And.intro hsl (And.intro hal hto)))))); repeat' (first | (refine sx ?_ ?_ <;> intro h <;> first | (exfalso; omega) | skip) | (refine g_op ?_; refine g_call ?_; refine g_args ?_; (first | refine s_fn (gwithin_c _ _ _ _) ?_ | refine s_fn (hcf _ _ ?_) ?_ | refine s_fn (gsmall_1 _ (by omega) _ _ _) ?_ | refine s_fn (hct _ _ _ _ ?_) ?_) <;> try first | omega | assumption) | refine ny ?_ | refine WA_block ?_ | (refine uB37_95_6 ?_; refine ⟨by kernel_rfl, ?_⟩) | (refine uB37_95_8 ?_; refine ⟨by kernel_rfl, ?_⟩) | ((first | refine grp_cons (fun _ => gwithin_c _ _ _ _) ?_ | refine grp_cons (fun _ => hcf _ _ ?_) ?_ | refine grp_cons (fun _ => gsmall_1 _ (by omega) _ _ _) ?_ | refine grp_cons (fun _ => hct _ _ _ _ ?_) ?_) <;> try first | omega | assumption) | (refine g_d ?_; refine d_args ?_; (first | refine d_fn (gwithin_c _ _ _ _) ?_ | refine d_fn (hcf _ _ ?_) ?_ | refine d_fn (gsmall_1 _ (by omega) _ _ _) ?_ | refine d_fn (hct _ _ _ _ ?_) ?_ | refine d_fnQ (fun _ => gwithin_c _ _ _ _) ?_ | refine d_fnQ (fun _ => hcf _ _ ?_) ?_ | refine d_fnQ (fun _ => gsmall_1 _ (by omega) _ _ _) ?_ | refine d_fnQ (fun _ => hct _ _ _ _ ?_) ?_) <;> try first | omega | assumption) | (refine g_d ?_; (first | refine d_fnY (gwithin_c _ _ _ _) ?_ | refine d_fnY (hcf _ _ ?_) ?_ | refine d_fnY (gsmall_1 _ (by omega) _ _ _) ?_ | refine d_fnY (hct _ _ _ _ ?_) ?_) <;> try first | omega | assumption)))
    all_goals (try (exfalso; omega))
    all_goals ((refine r_es hQ ?_; try with_reducible rfl))
end Go.Proofs.Ytaoakololkcepaa
