/- contracts: what is broken, collected -/
import Derived.Test.YtaoakololkcepaaB20
set_option linter.unusedSimpArgs false
set_option linter.unusedVariables false
namespace Go.Proofs.Ytaoakololkcepaa
open Go.RowKit
attribute [local irreducible] WA WOs WDs WAn qThen qBlock tput
set_option maxHeartbeats 1000000
set_option maxRecDepth 20000
set_option linter.unusedSimpArgs false
set_option linter.unusedVariables false
theorem uB36_122_3 {N : Nat} {l : List Oper} {t : List (Nat × V)} {m : Mem} {Q : Exit → List (Nat × V) → Mem → Prop} (h : RgN Try.prog N l t m Q (fun i => if i == 13 then .w else if i == 14 then .a else if i == 0 || i == 2 || i == 3 || i == 5 || i == 7 || i == 8 || i == 9 then .q else .p) [.one 0, .one 1, .one 2, .one 3, .one 4, .one 5, .one 6, .one 7, .one 8, .one 9, .one 10, .one 11, .one 12, .one 13, .one 14, .one 15]) : WA Try.prog N (.region 3 l.toArray true) t m Q := d_rgN h
/-- what is broken, told to one who goes on -/
theorem gbroken1_all (b : BnR) (hb : Bnd b) (l : List Int) (hl : l.length = b.ads.length) (hs : ∀ k, k < b.ads.length → -1000 ≤ l.getD k 0 ∧ l.getD k 0 ≤ 1000) (lp : Nat) (M : Mem) (R : V → Option Mem → Prop)
    (I : Nat → Mem → Prop) (h0 : I 0 M) (hn : ∀ M', I b.ms.length M' → R (.tup []) (some M'))
    (hsk : ∀ i M', i < b.ms.length → brkB b l i = false → I i M' → ∀ x, I (i + 1) (M' ++ [x]))
    (hy : ∀ i M', i < b.ms.length → brkB b l i = true → I i M' → ∀ x (R' : V → Option Mem → Prop), (∀ M2, I (i + 1) M2 → R' (.bool true) (some M2)) → YieldA Try.prog lp [.int .i64 i] (M' ++ [x]) R') :
    CallA Try.prog 122 [.clo (.yield lp) [] [], .bp [.bp (bxC b) 0] 0, .bp [.lst (nsV l)] 0] M R := by
  have hlm := mssV_length (l := b.ms)
  have hga := hlm
  have hval := hlm
  have hms := hb.fm
  refine CallA_inD Try.func122 rfl Try.ntmps122 Try.results122 (by kernel_rfl) (by simp) fun Q hQ => ?_
  have hbx : bxC b = [.lst (mssV b.ms), .lst (adsV b.ads), .lst (nuV (ordB b.ads)), .lst (rwV (rowsB b.ms b.ads)), .lst (nsV (mnsB b.ms b.ads))] := rfl
  have hval0 := fun (i : Nat) (hi : i < b.ms.length) m => gvalue_c b hb l hl hs i hi m
  rw [hbx] at hval0 ⊢
  generalize nuV (ordB b.ads) = O at *
  generalize rwV (rowsB b.ms b.ads) = RW at *
  generalize nsV (mnsB b.ms b.ads) = MN at *
  (have FX := And.intro hlm hga; repeat' (first | (refine sx ?_ ?_ <;> intro h <;> first | (exfalso; omega) | skip) | (refine g_op ?_; refine g_call ?_; refine g_args ?_; (first | refine s_fn (hval _) ?_ | refine s_fn (gwithin_c _ _ _ _) ?_) <;> try first | omega | assumption) | refine ny ?_ | refine WA_block ?_ | (refine uB36_122_3 ?_; refine ⟨by kernel_rfl, ?_⟩) | ((first | refine grp_cons (fun _ => hval _) ?_ | refine grp_cons (fun _ => gwithin_c _ _ _ _) ?_) <;> try first | omega | assumption) | (refine g_d ?_; refine d_args ?_; (first | refine d_fn (hval _) ?_ | refine d_fn (gwithin_c _ _ _ _) ?_ | refine d_fnQ (fun _ => hval _) ?_ | refine d_fnQ (fun _ => gwithin_c _ _ _ _) ?_) <;> try first | omega | assumption) | (refine g_d ?_; (first | refine d_fnY (hval _) ?_ | refine d_fnY (gwithin_c _ _ _ _) ?_) <;> try first | omega | assumption)))
  all_goals (try (exfalso; omega))
  refine WA_while (σ := Nat × Mem) [0, 1, 2, 10, 11, 12] (fun s => [.clo (.yield lp) [] [], .bp [.bp [.lst (mssV b.ms), .lst (adsV b.ads), .lst O, .lst RW, .lst MN] 0] 0, .bp [.lst (nsV l)] 0, .lst (mssV b.ms), .int .i64 b.ms.length, .int .i64 s.1]) (fun s => s.2) (fun s => s.1 ≤ b.ms.length ∧ I s.1 s.2) (fun s => b.ms.length - s.1) (0, M) ⟨Nat.zero_le _, h0⟩ tv_ (by simp) ?_
  rintro ⟨i, M'⟩ ⟨hi1, hI⟩ K hK
  dsimp only at hi1 hI
  simp only [zipT]
  clear FX hga hval
  rcases Nat.lt_or_ge i b.ms.length with hi | hi
  · have hga := mssV_get hi
    have hval := hval0 i hi
    have hbr : brkB b l i = !decide ((b.ms.getD i msz).low ≤ valP b l i ∧ valP b l i ≤ (b.ms.getD i msz).high) := rfl
    have hs := fun h => hsk i M' hi h hI
    have hyi := fun h => hy i M' hi h hI
    generalize valP b l i = vi at *
    generalize b.ms.getD i msz = x at *
    obtain ⟨nm, va, lo, hg⟩ := x
    unfold msV at hga
    dsimp only at hga hbr
    rw [show M' = M' ++ [] from (List.append_nil _).symm]
    (have FX := And.intro hlm hga; repeat' (first | (refine sx ?_ ?_ <;> intro h <;> first | (exfalso; omega) | skip) | (refine g_op ?_; refine g_call ?_; refine g_args ?_; (first | refine s_fn (hval _) ?_ | refine s_fn (gwithin_c _ _ _ _) ?_) <;> try first | omega | assumption) | refine ny ?_ | refine WA_block ?_ | (refine uB36_122_3 ?_; refine ⟨by kernel_rfl, ?_⟩) | ((first | refine grp_cons (fun _ => hval _) ?_ | refine grp_cons (fun _ => gwithin_c _ _ _ _) ?_) <;> try first | omega | assumption) | (refine g_d ?_; refine d_args ?_; (first | refine d_fn (hval _) ?_ | refine d_fn (gwithin_c _ _ _ _) ?_ | refine d_fnQ (fun _ => hval _) ?_ | refine d_fnQ (fun _ => gwithin_c _ _ _ _) ?_) <;> try first | omega | assumption) | (refine g_d ?_; (first | refine d_fnY (hval _) ?_ | refine d_fnY (gwithin_c _ _ _ _) ?_) <;> try first | omega | assumption)))
    all_goals (try (exfalso; omega))
    all_goals try
      (refine next_ hK (i + 1, _) ⟨hi, hs (by rw [hbr, decide_eq_true (by assumption)]; rfl) _⟩ (by dsimp only; omega)
       done)
    refine g_d ?_
    refine d_yldY ((hyi (by rw [hbr, decide_eq_false (by assumption)]; rfl) _ _ fun M2 h2 => ?_))
    simp only [Option.getD_some]
    (have FX := And.intro hlm hga; repeat' (first | (refine sx ?_ ?_ <;> intro h <;> first | (exfalso; omega) | skip) | (refine g_op ?_; refine g_call ?_; refine g_args ?_; (first | refine s_fn (hval _) ?_ | refine s_fn (gwithin_c _ _ _ _) ?_) <;> try first | omega | assumption) | refine ny ?_ | refine WA_block ?_ | (refine uB36_122_3 ?_; refine ⟨by kernel_rfl, ?_⟩) | ((first | refine grp_cons (fun _ => hval _) ?_ | refine grp_cons (fun _ => gwithin_c _ _ _ _) ?_) <;> try first | omega | assumption) | (refine g_d ?_; refine d_args ?_; (first | refine d_fn (hval _) ?_ | refine d_fn (gwithin_c _ _ _ _) ?_ | refine d_fnQ (fun _ => hval _) ?_ | refine d_fnQ (fun _ => gwithin_c _ _ _ _) ?_) <;> try first | omega | assumption) | (refine g_d ?_; (first | refine d_fnY (hval _) ?_ | refine d_fnY (gwithin_c _ _ _ _) ?_) <;> try first | omega | assumption)))
    all_goals (refine next_ hK (i + 1, M2) ⟨hi, h2⟩ (by dsimp only; omega))
  · obtain rfl : i = b.ms.length := by omega
    have hga := hlm
    have hval := hlm
    (have FX := And.intro hlm hga; repeat' (first | (refine sx ?_ ?_ <;> intro h <;> first | (exfalso; omega) | skip) | (refine g_op ?_; refine g_call ?_; refine g_args ?_; (first | refine s_fn (hval _) ?_ | refine s_fn (gwithin_c _ _ _ _) ?_) <;> try first | omega | assumption) | refine ny ?_ | refine WA_block ?_ | (refine uB36_122_3 ?_; refine ⟨by kernel_rfl, ?_⟩) | ((first | refine grp_cons (fun _ => hval _) ?_ | refine grp_cons (fun _ => gwithin_c _ _ _ _) ?_) <;> try first | omega | assumption) | (refine g_d ?_; refine d_args ?_; (first | refine d_fn (hval _) ?_ | refine d_fn (gwithin_c _ _ _ _) ?_ | refine d_fnQ (fun _ => hval _) ?_ | refine d_fnQ (fun _ => gwithin_c _ _ _ _) ?_) <;> try first | omega | assumption) | (refine g_d ?_; (first | refine d_fnY (hval _) ?_ | refine d_fnY (gwithin_c _ _ _ _) ?_) <;> try first | omega | assumption)))
    all_goals (try (exfalso; omega))
    all_goals (exact hQ _ _ _ (by first | exact .inl rfl | exact .inr rfl) _ rfl (hn _ hI))
/-- the memory of one who collects -/
def apI (L : Mem) (LB : Blk) (out : List Nat) (M : Mem) : Prop := (out = [] ∧ ∃ X : Mem, M = L ++ (.cells .own 26 1 [[.nilsl]] :: LB :: X)) ∨ (out ≠ [] ∧ ∃ (X : Mem) (j : Nat), M = L ++ (.cells .own 26 1 [[.sl (L.length + (j + 2)) out.length]] :: LB :: X) ∧ X[j]? = some (.cells .own 3 1 (nuV out)))
theorem apI_at {L : Mem} {LB : Blk} {out : List Nat} {M : Mem} (h : apI L LB out M) : M[L.length + 1]? = some LB := by
  rcases h with ⟨_, X, rfl⟩ | ⟨_, X, j, rfl, _⟩ <;> simp
theorem apI_set {L : Mem} {LB LC : Blk} {out : List Nat} {M : Mem} (h : apI L LB out M) : apI L LC out (M.set (L.length + 1) LC) := by
  rcases h with ⟨h0, X, rfl⟩ | ⟨h0, X, j, rfl, h1⟩
  · exact .inl ⟨h0, X, by simp⟩
  · exact .inr ⟨h0, X, j, by simp, h1⟩
theorem apI_ext {L : Mem} {LB : Blk} {out : List Nat} {M : Mem} (h : apI L LB out M) (x : Blk) : apI L LB out (M ++ [x]) := by
  rcases h with ⟨h0, X, rfl⟩ | ⟨h0, X, j, rfl, h1⟩
  · exact .inl ⟨h0, X ++ [x], by simp⟩
  · exact .inr ⟨h0, X ++ [x], j, by simp, by rw [List.getElem?_append_left (List.getElem?_eq_some_iff.1 h1).1]; exact h1⟩

theorem gappendseq_c (b : BnR) (hb : Bnd b) (l : List Int) (hl : l.length = b.ads.length) (hs : ∀ k, k < b.ads.length → -1000 ≤ l.getD k 0 ∧ l.getD k 0 ≤ 1000) (m : Mem) : Gives Try.prog 121 [.nilsl, .clo (.func 122) [] [.bp [.bp (bxC b) 0] 0, .bp [.lst (nsV l)] 0]] m (.lst (nuV (brkP b l b.ms.length))) := by
  have hfm := hb.fm
  have hll := hl
  have hlt := hl
  have hgj := hl
  have hsj := hl
  suffices key : CallA Try.prog 121 [.nilsl, .clo (.func 122) [] [.bp [.bp (bxC b) 0] 0, .bp [.lst (nsV l)] 0]] m (fun v' mo => v' = oV (nuV (brkP b l b.ms.length)) ∧ mo = none) from Gives_weak key (wk_oV _)
  refine CallA_in Try.func121 rfl Try.ntmps121 Try.results121 (by kernel_rfl) (by simp) fun Q hQ => ?_
  (have FX := And.intro hll (And.intro hlt (And.intro hgj hsj)); repeat' (first | (refine sx ?_ ?_ <;> intro h <;> first | (exfalso; omega) | skip) | refine ny ?_ | refine WA_block ?_))
  refine WA_rfA (fun m' => apI (lend m) .dead (brkP b l b.ms.length) m') (fun _ _ => False) (fun lp LB LL LD hY => ?_) (fun m' hm => ?_) (fun c m' hm => hm.elim)
  · refine gbroken1_all b hb l hl hs lp _ _ (fun i M => apI (lend m) LB (brkP b l i) M) (.inl ⟨rfl, [], by simp⟩) ?_ ?_ ?_
    · intro M' h
      refine ⟨M', rfl, .inl ⟨?_, ?_⟩⟩
      · have := apI_at h; simpa using this
      · have := apI_set (LC := .dead) h; simpa using this
    · intro i M' hi hbr h x
      rw [brkP_succ, if_neg (by rw [hbr]; decide)]
      exact apI_ext h x
    · intro i M' hi hbr h x R' hR
      rw [brkP_succ, if_pos hbr] at hR
      have hle := brkP_le b l i
      generalize brkP b l i = out at *
      rcases h with ⟨h0, X, rfl⟩ | ⟨h0, X, j, rfl, h1⟩
      · subst h0
        have hsp : lend m ++ (Blk.cells .own 26 1 [[.nilsl]] :: LB :: X) ++ [x] = (lend m ++ [Blk.cells .own 26 1 [[.nilsl]]]) ++ LB :: (X ++ [x]) := by simp
        rw [hsp]
        refine hY _ _ _ R' rfl ?_
        simp only [setPs, List.append_assoc, List.cons_append, List.nil_append]
        (have FX := And.intro hll (And.intro hlt (And.intro hgj hsj)); repeat' (first | (refine sx ?_ ?_ <;> intro h <;> first | (exfalso; omega) | skip) | refine ny ?_ | refine WA_block ?_))
        refine ⟨rfl, by simp, ?_⟩
        (have FX := And.intro hll (And.intro hlt (And.intro hgj hsj)); repeat' (first | (refine sx ?_ ?_ <;> intro h <;> first | (exfalso; omega) | skip) | refine ny ?_ | refine WA_block ?_))
        refine rndQ_nrm (A := lend m ++ [.cells .own 26 1 [[.sl ((lend m).length + (X.length + 2 + 2)) 1]]]) (X := X ++ [x, .cells .own 3 1 [[.int .i64 i]], .cells .own 3 1 [[.int .i64 i]]]) (by simp) (by simp) (hR _ (.inr ⟨by simp, X ++ [x, .cells .own 3 1 [[.int .i64 i]], .cells .own 3 1 [[.int .i64 i]]], X.length + 2, by simp, by simp [nuV]⟩))
      · obtain ⟨p, r, rfl⟩ : ∃ p r, out = p :: r := by
          cases out with
          | nil => exact absurd rfl h0
          | cons p r => exact ⟨p, r, rfl⟩
        have hll : (nuV (p :: r)).length = r.length + 1 := nuV_length
        have hlt : (nuV (p :: r)).take (r.length + 1) = nuV (p :: r) := by rw [List.take_of_length_le (by rw [hll]; exact Nat.le_refl _)]
        have hrl : r.length + 1 ≤ i := by simpa using hle
        have hjl := (List.getElem?_eq_some_iff.1 h1).1
        have hgj : ∀ Y : Mem, (X ++ Y)[j]? = some (.cells .own 3 1 (nuV (p :: r))) := fun Y => by rw [List.getElem?_append_left hjl]; exact h1
        have hsj : ∀ (Y : Mem) (z : Blk), (X ++ Y).set j z = X.set j z ++ Y := fun Y z => List.set_append_left _ _ hjl
        have hsp : lend m ++ (Blk.cells .own 26 1 [[.sl ((lend m).length + (j + 2)) (p :: r).length]] :: LB :: X) ++ [x] = (lend m ++ [Blk.cells .own 26 1 [[.sl ((lend m).length + (j + 2)) (r.length + 1)]]]) ++ LB :: (X ++ [x]) := by simp
        rw [hsp]
        refine hY _ _ _ R' rfl ?_
        simp only [setPs, List.append_assoc, List.cons_append, List.nil_append]
        (have FX := And.intro hll (And.intro hlt (And.intro hgj hsj)); repeat' (first | (refine sx ?_ ?_ <;> intro h <;> first | (exfalso; omega) | skip) | refine ny ?_ | refine WA_block ?_))
        refine ⟨rfl, by simp, ?_⟩
        (have FX := And.intro hll (And.intro hlt (And.intro hgj hsj)); repeat' (first | (refine sx ?_ ?_ <;> intro h <;> first | (exfalso; omega) | skip) | refine ny ?_ | refine WA_block ?_))
        refine rndQ_nrm (A := lend m ++ [.cells .own 26 1 [[.sl ((lend m).length + (X.length + 2 + 2)) (r.length + 1 + 1)]]]) (X := X.set j .dead ++ [x, .cells .own 3 1 [[.int .i64 i]], .cells .own 3 1 (nuV (p :: r) ++ [[.int .i64 i]])]) (by simp) (by simp) (hR _ (.inr ⟨by simp, X.set j .dead ++ [x, .cells .own 3 1 [[.int .i64 i]], .cells .own 3 1 (nuV (p :: r) ++ [[.int .i64 i]])], X.length + 2, by simp, by rw [nuV_snoc]; simp⟩))
  · clear FX hll hlt hgj hsj
    have hll := hl
    have hlt := hl
    have hgj := hl
    have hsj := hl
    generalize brkP b l b.ms.length = out at *
    rcases hm with ⟨h0, X, rfl⟩ | ⟨h0, X, j, rfl, h1⟩
    · subst h0
      have e0 : oV (nuV []) = V.nilsl := rfl
      rw [e0] at hQ
      (have FX := And.intro hll (And.intro hlt (And.intro hgj hsj)); repeat' (first | (refine sx ?_ ?_ <;> intro h <;> first | (exfalso; omega) | skip) | refine ny ?_ | refine WA_block ?_))
      refine r_esA hQ (.inl ⟨rfl, rfl, rfl⟩)
    · have e0 : oV (nuV out) = V.lst (nuV out) := by
        cases out with
        | nil => exact absurd rfl h0
        | cons p r => rfl
      have hln : (nuV out).length = out.length := nuV_length
      have hlk : (nuV out).take out.length = nuV out := List.take_of_length_le (by rw [hln]; exact Nat.le_refl _)
      rw [e0] at hQ
      (have FX := And.intro hll (And.intro hlt (And.intro hgj hsj)); repeat' (first | (refine sx ?_ ?_ <;> intro h <;> first | (exfalso; omega) | skip) | refine ny ?_ | refine WA_block ?_))
      refine r_esA hQ (fin_sl (D := []) (B := lend m) (j := j + 2) (by simp) h1 (by rw [hln]; exact Nat.le_refl _) (by rw [hlk]; exact nuV_plain _) ⟨by rw [hlk], rfl⟩)

theorem gcollect_c (b : BnR) (hb : Bnd b) (l : List Int) (hl : l.length = b.ads.length) (hs : ∀ k, k < b.ads.length → -1000 ≤ l.getD k 0 ∧ l.getD k 0 ≤ 1000) (m : Mem) : Gives Try.prog 88 [.clo (.func 122) [] [.bp [.bp (bxC b) 0] 0, .bp [.lst (nsV l)] 0]] m (.lst (nuV (brkP b l b.ms.length))) := by
  have hap := fun m => gappendseq_c b hb l hl hs m
  have FX := hl
  refine CallA_in Try.func88 rfl Try.ntmps88 Try.results88 (by kernel_rfl) (by simp) fun Q hQ => ?_
  (repeat' (first | (refine sx ?_ ?_ <;> intro h <;> first | (exfalso; omega) | skip) | (refine g_op ?_; refine g_call ?_; refine g_args ?_; (first | refine s_fn (hap _) ?_) <;> try first | omega | assumption) | refine ny ?_ | refine WA_block ?_))
  refine r_esA hQ (fin_pl (D := []) (nuV_plain _) ⟨rfl, rfl⟩)

theorem gBroken_bad (b : BnR) (hb : Bl b) (l : List Int) (h0 : bsErr b l ≠ 0) (m : Mem) : Gives Try.prog 38 [.agg (bnV b), .lst (nsV l)] m (.tup [.nilsl, .int .i64 (bsErr b l)]) := by
  have hx0 := h0
  unfold bsErr at *
  by_cases h : bnErr b = 0
  · rw [if_neg (by omega)] at hx0 ⊢
    have hwi := fun m => gwith_ok b hb h l m
    unfold bnV at hwi ⊢
    refine Gives_in Try.func38 rfl Try.ntmps38 Try.results38 (by kernel_rfl) (by simp) rfl fun Q hQ => ?_
    (have FX := hx0; repeat' (first | (refine sx ?_ ?_ <;> intro h <;> first | (exfalso; omega) | skip) | (refine g_op ?_; refine g_call ?_; refine g_args ?_; (first | refine s_fn (hwi _) ?_) <;> try first | omega | assumption) | refine ny ?_ | refine WA_block ?_))
    all_goals (try (exfalso; omega))
    all_goals ((refine r_es hQ ?_; try with_reducible rfl))
  · rw [if_pos h] at hx0 ⊢
    have hwi := fun m => gwith_bad b hb h l m
    unfold bnV at hwi ⊢
    refine Gives_in Try.func38 rfl Try.ntmps38 Try.results38 (by kernel_rfl) (by simp) rfl fun Q hQ => ?_
    (have FX := hx0; repeat' (first | (refine sx ?_ ?_ <;> intro h <;> first | (exfalso; omega) | skip) | (refine g_op ?_; refine g_call ?_; refine g_args ?_; (first | refine s_fn (hwi _) ?_) <;> try first | omega | assumption) | refine ny ?_ | refine WA_block ?_))
    all_goals (try (exfalso; omega))
    all_goals ((refine r_es hQ ?_; try with_reducible rfl))
theorem gBroken_ok (b : BnR) (hb : Bl b) (l : List Int) (h0 : bsErr b l = 0) (m : Mem) : Gives Try.prog 38 [.agg (bnV b), .lst (nsV l)] m (.tup [.lst (nuV (brkP b l b.ms.length)), .int .i64 0]) := by
  have hx0 := h0
  unfold bsErr at h0 hx0
  have h : bnErr b = 0 := by
    by_cases h : bnErr b = 0
    · exact h
    · rw [if_pos h] at h0; exact h0
  rw [if_neg (by omega)] at hx0 h0
  have hbd := bnd_ok (bn_ok h)
  have hst := stErr_ok h0
  have hwi := fun m => gwith_ok b hb h l m
  rw [h0] at hwi
  have hco := fun m => gcollect_c b hbd l hst.1 (steps_bd hbd hst.2) m
  unfold bnV at hwi ⊢
  refine CallA_in Try.func38 rfl Try.ntmps38 Try.results38 (by kernel_rfl) (by simp) fun Q hQ => ?_
  (have FX := hx0; repeat' (first | (refine sx ?_ ?_ <;> intro h <;> first | (exfalso; omega) | skip) | (refine g_op ?_; refine g_call ?_; refine g_args ?_; (first | refine s_fn (hwi _) ?_ | refine s_fn (gbroken_c b l _) ?_ | refine s_fn (hco _) ?_) <;> try first | omega | assumption) | refine ny ?_ | refine WA_block ?_))
  all_goals (try (exfalso; omega))
  all_goals (refine r_esA hQ (.inr ⟨_, _, rfl, ?_, ⟨rfl, rfl⟩⟩))
  all_goals (show (frzs (frz _ _ 3) [_, _]).map V.tup = _; rw [frzs_cons (frz_ls (nuV_plain _)) (frzs_cons (frz_int _ _ _ _ _) rfl)]; rfl)
end Go.Proofs.Ytaoakololkcepaa
