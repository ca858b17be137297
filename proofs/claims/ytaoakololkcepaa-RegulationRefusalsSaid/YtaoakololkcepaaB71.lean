/- contract: the program's search for a refusal -/
import Derived.Test.YtaoakololkcepaaB70
import Derived.Test.YtaoakololkcepaaB16
import Derived.Test.YtaoakololkcepaaB17
set_option linter.unusedSimpArgs false
set_option linter.unusedVariables false
namespace Go.Proofs.Ytaoakololkcepaa
open Go.RowKit
theorem tryF_len (b : BnR) : ∀ (k used : Nat) (s : TrS), (tryF b k used s).w.length = s.w.length
  | 0, used, s => by
    unfold tryF
    split
    · rfl
    · split <;> rfl
  | k + 1, used, s => by
    unfold tryF
    split
    · rfl
    · dsimp only
      rw [tryF_len b k, List.length_set, tryF_len b k, List.length_set, tryF_len b k, List.length_set]
def setW (s : TrS) (i : Nat) (w : Int) : TrS := ⟨s.w.set i w, s.best, s.few⟩
def trJ (b : BnR) (k used i : Nat) : Nat → TrS → TrS
  | 0, s => s
  | r + 1, s => trJ b k used i r (tryF b k (used + (2 - ((r + 1 : Nat) : Int)).natAbs) (setW s i (2 - ((r + 1 : Nat) : Int))))
theorem tryF_succ (b : BnR) (k used : Nat) (s : TrS) : tryF b (k + 1) used s = if s.few ≤ used then s else trJ b k used (s.w.length - (k + 1)) 3 s := by
  conv => lhs; unfold tryF
  split
  · rfl
  · dsimp only
    simp only [trJ, setW, tryF_len, List.length_set]
    rfl
def okW (l : List Int) : Prop := ∀ x ∈ l, -1 ≤ x ∧ x ≤ 1
theorem okW_set {l : List Int} (h : okW l) (i : Nat) {v : Int} (hv : -1 ≤ v ∧ v ≤ 1) : okW (l.set i v) := fun x hx => by
  rcases List.mem_or_eq_of_mem_set hx with h1 | h1
  · exact h x h1
  · rw [h1]; exact hv
theorem tryF_ok (b : BnR) : ∀ (k used : Nat) (s : TrS), okW s.w → okW (tryF b k used s).w
  | 0, used, s, h => by
    unfold tryF
    split
    · exact h
    · split <;> exact h
  | k + 1, used, s, h => by
    unfold tryF
    split
    · exact h
    · dsimp only
      exact tryF_ok b k _ _ (okW_set (tryF_ok b k _ _ (okW_set (tryF_ok b k _ _ (okW_set h _ (by omega))) _ (by omega))) _ (by omega))
theorem tryF_few (b : BnR) : ∀ (k used : Nat) (s : TrS), (tryF b k used s).few ≤ s.few
  | 0, used, s => by
    unfold tryF
    split
    · exact Nat.le_refl _
    · split
      · dsimp only; omega
      · exact Nat.le_refl _
  | k + 1, used, s => by
    unfold tryF
    split
    · exact Nat.le_refl _
    · dsimp only
      refine Nat.le_trans (tryF_few b k _ _) (Nat.le_trans (tryF_few b k _ _) ?_)
      exact tryF_few b k _ _
attribute [local irreducible] WA WOs WDs WAn qThen qBlock tput
set_option maxHeartbeats 1000000
set_option maxRecDepth 20000
set_option linter.unusedSimpArgs false
set_option linter.unusedVariables false
set_option maxHeartbeats 8000000
def bqV (s : TrS) : V := match s.best with
  | none => .nilsl
  | some l => .lst (nsV l)
def tBx (b : BnR) : Blk := .cells .own 102 1 [[.bp (bxC b) 0]]
def tBb (s : TrS) : Blk := .cells .own 26 1 [[bqV s]]
def tBf (s : TrS) : Blk := .cells .own 3 1 [[.int .i64 s.few]]
def tBw (L n : Nat) : Blk := .cells .own 26 1 [[.sl (L + 3) n]]
def tBt (L : Nat) : Blk := .cells .own 127 1 [[.clo (.func 90) [] [.ptr (L + 2) 0 0, .ptr (L + 4) 0 0, .ptr (L + 5) 0 0, .ptr L 0 0, .ptr (L + 1) 0 0]]]
def trB (b : BnR) (L : Nat) (s : TrS) : Mem := [tBx b, tBb s, tBf s, cI s.w, tBw L b.ms.length, tBt L]
theorem tBb_flat (s : TrS) : (tBb s).flat = true := by
  unfold tBb bqV
  split <;> simp [Blk.flat, plainL, V.plain, nsV_plain]
theorem tBf_flat (s : TrS) : (tBf s).flat = true := by simp [tBf, Blk.flat, plainL, V.plain]
theorem gweighed_s (b : BnR) (hb : Bnd b) (ws : List Int) (hl : ws.length = b.ms.length) (hw : wOk ws) (m : Mem) (k : Nat) {st : Sta} (hk : m[k]? = some (.cells st 3 1 (nsV ws)) := by first | exact ev_ | fail) : Gives Try.prog 84 [.bp (bxC b) 0, .sl k b.ms.length] m (.tup [.agg [.int .i64 (cnL b ws b.ads.length), .int .i64 (cnH b ws b.ads.length)], .agg [.int .i64 (wtL b ws b.ms.length), .int .i64 (wtH b ws b.ms.length)]]) := by
  refine Gives_fz hk (by simp [V.flat, flatL]) ?_
  rw [← hl]
  show Gives _ _ [.bp (bxC b) 0, frzV k (nsV ws) (.sl k ws.length)] _ _
  rw [fz_nsV, hl]
  exact gweighed_c b hb ws hl hw _
theorem gcloneW (l : List Int) (n : Nat) (hn : n = l.length) (hl : l.length ≤ 100000) (m : Mem) (k : Nat) {st : Sta} (hk : m[k]? = some (.cells st 3 1 (nsV l)) := by first | exact ev_ | fail) : Gives Try.prog 72 [.sl k n] m (.lst (nsV l)) := by
  subst hn
  exact gclone_s l hl m k hk
theorem uB71_90_6 {N : Nat} {l : List Oper} {t : List (Nat × V)} {m : Mem} {Q : Exit → List (Nat × V) → Mem → Prop} (h : RgN Try.prog N l t m Q (fun i => if i == 7 then .w else if i == 0 || i == 5 then .q else .p) [.one 0, .one 1, .one 2, .one 3, .one 4, .one 5, .one 6, .one 7]) : WA Try.prog N (.region 6 l.toArray true) t m Q := d_rgN h
theorem gtry_c (b : BnR) (hb : Bnd b) (M : Mem) : ∀ (k used : Nat) (s : TrS) (ii : Int), s.w.length = b.ms.length → k ≤ b.ms.length → ii = (b.ms.length : Int) - k → okW s.w → used ≤ 100 → s.few ≤ 100 → ∀ ext0 : Mem,
    CallA Try.prog 90 [.int .i64 ii, .int .i64 used, .ptr (M.length + 2) 0 0, .ptr (M.length + 4) 0 0, .ptr (M.length + 5) 0 0, .ptr M.length 0 0, .ptr (M.length + 1) 0 0] (M ++ (trB b M.length s ++ ext0)) (fun _ mo => ∃ ext, mo = some (M ++ (trB b M.length (tryF b k used s) ++ (ext0 ++ ext)))) := by
  intro k
  have hfm := hb.fm
  induction k with
  | zero =>
    intro used s ii hsl hk hii how hu hf ext0
    have hlw := nsV_length (l := s.w)
    have hgw := hlw
    have hwe := fun (m : Mem) (k : Nat) (st : Sta) (h : m[k]? = some (.cells st 3 1 (nsV s.w))) => gweighed_s b hb s.w hsl (wOk_one how) m k h
    have hmt := fun m => gmeets_c (cnL b s.w b.ads.length) (cnH b s.w b.ads.length) (wtL b s.w b.ms.length) (wtH b s.w b.ms.length) m
    have hcl := fun (m : Mem) (k : Nat) (st : Sta) (h : m[k]? = some (.cells st 3 1 (nsV s.w))) => gcloneW s.w b.ms.length hsl.symm (by omega) m k h
    have hpv : prvB b s.w = !decide (cnL b s.w b.ads.length ≤ wtH b s.w b.ms.length ∧ wtL b s.w b.ms.length ≤ cnH b s.w b.ads.length) := rfl
    refine CallA_inD Try.func90 rfl Try.ntmps90 Try.results90 (by kernel_rfl) (by simp) fun Q hQ => ?_
    unfold tryF at hQ
    generalize cnL b s.w b.ads.length = c1 at *
    generalize cnH b s.w b.ads.length = c2 at *
    generalize wtL b s.w b.ms.length = c3 at *
    generalize wtH b s.w b.ms.length = c4 at *
    simp only [trB, tBx, tBb, tBf, cI, tBw, tBt, List.cons_append, List.nil_append]
    by_cases h1 : s.few ≤ used
    · rw [if_pos h1] at hQ
      (have FX := And.intro hlw hgw; repeat' (first | (refine sx ?_ ?_ <;> intro h <;> first | (exfalso; omega) | skip) | (refine g_op ?_; refine g_call ?_; refine g_args ?_; (first | refine s_fn (gsize_c _ (by omega) (by omega) _) ?_ | refine s_fn (hwe _ _ _ ev_) ?_ | refine s_fn (hmt _) ?_ | refine s_fn (hcl _ _ _ ev_) ?_) <;> try first | omega | assumption) | refine ny ?_ | refine WA_block ?_ | (refine uB71_90_6 ?_; refine ⟨by kernel_rfl, ?_⟩) | ((first | refine grp_cons (fun _ => gsize_c _ (by omega) (by omega) _) ?_ | refine grp_cons (fun _ => hwe _ _ _ ev_) ?_ | refine grp_cons (fun _ => hmt _) ?_ | refine grp_cons (fun _ => hcl _ _ _ ev_) ?_) <;> try first | omega | assumption) | (refine g_d ?_; refine d_args ?_; (first | refine d_fn (gsize_c _ (by omega) (by omega) _) ?_ | refine d_fn (hwe _ _ _ ev_) ?_ | refine d_fn (hmt _) ?_ | refine d_fn (hcl _ _ _ ev_) ?_ | refine d_fnQ (fun _ => gsize_c _ (by omega) (by omega) _) ?_ | refine d_fnQ (fun _ => hwe _ _ _ ev_) ?_ | refine d_fnQ (fun _ => hmt _) ?_ | refine d_fnQ (fun _ => hcl _ _ _ ev_) ?_) <;> try first | omega | assumption) | (refine g_d ?_; (first | refine d_fnY (gsize_c _ (by omega) (by omega) _) ?_ | refine d_fnY (hwe _ _ _ ev_) ?_ | refine d_fnY (hmt _) ?_ | refine d_fnY (hcl _ _ _ ev_) ?_) <;> try first | omega | assumption)))
      all_goals (try (exfalso; omega))
      all_goals (exact hQ _ _ _ (by first | exact .inl rfl | exact .inr rfl) _ rfl ⟨[], by rw [List.append_nil]; rfl⟩)
    · rw [if_neg h1] at hQ
      by_cases h2 : c1 ≤ c4 ∧ c3 ≤ c2
      · rw [hpv, decide_eq_true h2, if_neg (by decide)] at hQ
        rw [decide_eq_true h2] at hmt
        (have FX := And.intro hlw hgw; repeat' (first | (refine sx ?_ ?_ <;> intro h <;> first | (exfalso; omega) | skip) | (refine g_op ?_; refine g_call ?_; refine g_args ?_; (first | refine s_fn (gsize_c _ (by omega) (by omega) _) ?_ | refine s_fn (hwe _ _ _ ev_) ?_ | refine s_fn (hmt _) ?_ | refine s_fn (hcl _ _ _ ev_) ?_) <;> try first | omega | assumption) | refine ny ?_ | refine WA_block ?_ | (refine uB71_90_6 ?_; refine ⟨by kernel_rfl, ?_⟩) | ((first | refine grp_cons (fun _ => gsize_c _ (by omega) (by omega) _) ?_ | refine grp_cons (fun _ => hwe _ _ _ ev_) ?_ | refine grp_cons (fun _ => hmt _) ?_ | refine grp_cons (fun _ => hcl _ _ _ ev_) ?_) <;> try first | omega | assumption) | (refine g_d ?_; refine d_args ?_; (first | refine d_fn (gsize_c _ (by omega) (by omega) _) ?_ | refine d_fn (hwe _ _ _ ev_) ?_ | refine d_fn (hmt _) ?_ | refine d_fn (hcl _ _ _ ev_) ?_ | refine d_fnQ (fun _ => gsize_c _ (by omega) (by omega) _) ?_ | refine d_fnQ (fun _ => hwe _ _ _ ev_) ?_ | refine d_fnQ (fun _ => hmt _) ?_ | refine d_fnQ (fun _ => hcl _ _ _ ev_) ?_) <;> try first | omega | assumption) | (refine g_d ?_; (first | refine d_fnY (gsize_c _ (by omega) (by omega) _) ?_ | refine d_fnY (hwe _ _ _ ev_) ?_ | refine d_fnY (hmt _) ?_ | refine d_fnY (hcl _ _ _ ev_) ?_) <;> try first | omega | assumption)))
        all_goals (try (exfalso; omega))
        all_goals (exact hQ _ _ _ (by first | exact .inl rfl | exact .inr rfl) _ rfl ⟨[_, _], rfl⟩)
      · rw [hpv, decide_eq_false h2, if_pos (by decide)] at hQ
        rw [decide_eq_false h2] at hmt
        (have FX := And.intro hlw hgw; repeat' (first | (refine sx ?_ ?_ <;> intro h <;> first | (exfalso; omega) | skip) | (refine g_op ?_; refine g_call ?_; refine g_args ?_; (first | refine s_fn (gsize_c _ (by omega) (by omega) _) ?_ | refine s_fn (hwe _ _ _ ev_) ?_ | refine s_fn (hmt _) ?_ | refine s_fn (hcl _ _ _ ev_) ?_) <;> try first | omega | assumption) | refine ny ?_ | refine WA_block ?_ | (refine uB71_90_6 ?_; refine ⟨by kernel_rfl, ?_⟩) | ((first | refine grp_cons (fun _ => gsize_c _ (by omega) (by omega) _) ?_ | refine grp_cons (fun _ => hwe _ _ _ ev_) ?_ | refine grp_cons (fun _ => hmt _) ?_ | refine grp_cons (fun _ => hcl _ _ _ ev_) ?_) <;> try first | omega | assumption) | (refine g_d ?_; refine d_args ?_; (first | refine d_fn (gsize_c _ (by omega) (by omega) _) ?_ | refine d_fn (hwe _ _ _ ev_) ?_ | refine d_fn (hmt _) ?_ | refine d_fn (hcl _ _ _ ev_) ?_ | refine d_fnQ (fun _ => gsize_c _ (by omega) (by omega) _) ?_ | refine d_fnQ (fun _ => hwe _ _ _ ev_) ?_ | refine d_fnQ (fun _ => hmt _) ?_ | refine d_fnQ (fun _ => hcl _ _ _ ev_) ?_) <;> try first | omega | assumption) | (refine g_d ?_; (first | refine d_fnY (gsize_c _ (by omega) (by omega) _) ?_ | refine d_fnY (hwe _ _ _ ev_) ?_ | refine d_fnY (hmt _) ?_ | refine d_fnY (hcl _ _ _ ev_) ?_) <;> try first | omega | assumption)))
        all_goals (try (exfalso; omega))
        all_goals (exact hQ _ _ _ (by first | exact .inl rfl | exact .inr rfl) _ rfl ⟨_, rfl⟩)
  | succ k ih =>
    intro used s0 ii hsl hk hii how hu hf ext0
    have hlw := nsV_length (l := s0.w)
    have hgw := hlw
    have hwe := hlw
    have hmt := hlw
    have hcl := hlw
    have hts := tryF_succ b k used s0
    refine CallA_inD Try.func90 rfl Try.ntmps90 Try.results90 (by kernel_rfl) (by simp) fun Q hQ => ?_
    generalize tryF b (k + 1) used s0 = sF at *
    by_cases h1 : s0.few ≤ used
    · rw [if_pos h1] at hts
      subst hts
      simp only [trB, tBx, tBb, tBf, cI, tBw, tBt, List.cons_append, List.nil_append]
      (have FX := And.intro hlw hgw; repeat' (first | (refine sx ?_ ?_ <;> intro h <;> first | (exfalso; omega) | skip) | (refine g_op ?_; refine g_call ?_; refine g_args ?_; (first | refine s_fn (gsize_c _ (by omega) (by omega) _) ?_ | refine s_fn (hwe _ _ _ ev_) ?_ | refine s_fn (hmt _) ?_ | refine s_fn (hcl _ _ _ ev_) ?_) <;> try first | omega | assumption) | refine ny ?_ | refine WA_block ?_ | (refine uB71_90_6 ?_; refine ⟨by kernel_rfl, ?_⟩) | ((first | refine grp_cons (fun _ => gsize_c _ (by omega) (by omega) _) ?_ | refine grp_cons (fun _ => hwe _ _ _ ev_) ?_ | refine grp_cons (fun _ => hmt _) ?_ | refine grp_cons (fun _ => hcl _ _ _ ev_) ?_) <;> try first | omega | assumption) | (refine g_d ?_; refine d_args ?_; (first | refine d_fn (gsize_c _ (by omega) (by omega) _) ?_ | refine d_fn (hwe _ _ _ ev_) ?_ | refine d_fn (hmt _) ?_ | refine d_fn (hcl _ _ _ ev_) ?_ | refine d_fnQ (fun _ => gsize_c _ (by omega) (by omega) _) ?_ | refine d_fnQ (fun _ => hwe _ _ _ ev_) ?_ | refine d_fnQ (fun _ => hmt _) ?_ | refine d_fnQ (fun _ => hcl _ _ _ ev_) ?_) <;> try first | omega | assumption) | (refine g_d ?_; (first | refine d_fnY (gsize_c _ (by omega) (by omega) _) ?_ | refine d_fnY (hwe _ _ _ ev_) ?_ | refine d_fnY (hmt _) ?_ | refine d_fnY (hcl _ _ _ ev_) ?_) <;> try first | omega | assumption)))
      all_goals (try (exfalso; omega))
      all_goals (exact hQ _ _ _ (by first | exact .inl rfl | exact .inr rfl) _ rfl ⟨[], by rw [List.append_nil]; rfl⟩)
    · rw [if_neg h1, hsl] at hts
      simp only [trB, tBx, tBb, tBf, cI, tBw, tBt, List.cons_append, List.nil_append]
      (have FX := And.intro hlw hgw; repeat' (first | (refine sx ?_ ?_ <;> intro h <;> first | (exfalso; omega) | skip) | (refine g_op ?_; refine g_call ?_; refine g_args ?_; (first | refine s_fn (gsize_c _ (by omega) (by omega) _) ?_ | refine s_fn (hwe _ _ _ ev_) ?_ | refine s_fn (hmt _) ?_ | refine s_fn (hcl _ _ _ ev_) ?_) <;> try first | omega | assumption) | refine ny ?_ | refine WA_block ?_ | (refine uB71_90_6 ?_; refine ⟨by kernel_rfl, ?_⟩) | ((first | refine grp_cons (fun _ => gsize_c _ (by omega) (by omega) _) ?_ | refine grp_cons (fun _ => hwe _ _ _ ev_) ?_ | refine grp_cons (fun _ => hmt _) ?_ | refine grp_cons (fun _ => hcl _ _ _ ev_) ?_) <;> try first | omega | assumption) | (refine g_d ?_; refine d_args ?_; (first | refine d_fn (gsize_c _ (by omega) (by omega) _) ?_ | refine d_fn (hwe _ _ _ ev_) ?_ | refine d_fn (hmt _) ?_ | refine d_fn (hcl _ _ _ ev_) ?_ | refine d_fnQ (fun _ => gsize_c _ (by omega) (by omega) _) ?_ | refine d_fnQ (fun _ => hwe _ _ _ ev_) ?_ | refine d_fnQ (fun _ => hmt _) ?_ | refine d_fnQ (fun _ => hcl _ _ _ ev_) ?_) <;> try first | omega | assumption) | (refine g_d ?_; (first | refine d_fnY (gsize_c _ (by omega) (by omega) _) ?_ | refine d_fnY (hwe _ _ _ ev_) ?_ | refine d_fnY (hmt _) ?_ | refine d_fnY (hcl _ _ _ ev_) ?_) <;> try first | omega | assumption)))
      all_goals (try (exfalso; omega))
      refine WA_whileP (σ := Nat × TrS) (M := M) [0, 1, 2, 3, 4, 5, 6, 9] (fun p => [.int .i64 ii, .int .i64 used, .ptr (M.length + 2) 0 0, .ptr (M.length + 4) 0 0, .ptr (M.length + 5) 0 0, .ptr M.length 0 0, .ptr (M.length + 1) 0 0, .int .i64 (2 - (p.1 : Int))]) (fun p => tBx b :: tBb p.2 :: tBf p.2 :: cI p.2.w :: tBw M.length b.ms.length :: tBt M.length :: ext0) (ext0.length + 6) (fun p => p.1 ≤ 3 ∧ sF = trJ b k used (b.ms.length - (k + 1)) p.1 p.2 ∧ p.2.w.length = b.ms.length ∧ okW p.2.w ∧ p.2.few ≤ 100) (fun p => p.1) (3, s0) ⟨Nat.le_refl _, hts, hsl, how, hf⟩ tv_ rfl (fun _ => rfl) (by intro s s' _ _; simp [conB, conS, V.keeps, V.plain, Blk.flat, flatL, plainL, V.flat]) (fun _ _ _ _ => ⟨.inr rfl, .inl (tBb_flat _), .inl (tBf_flat _), .inl (cI_flat _), .inr rfl, .inr rfl, conB_refl _⟩) ?_
      rintro ⟨r, s⟩ ⟨hr3, hsF, hsw, hsk, hsf⟩ K hK
      dsimp only at hr3 hsF hsw hsk hsf
      clear FX hgw hlw
      cases r with
      | zero =>
        have hlw := nsV_length (l := s.w)
        have hgw := hlw
        unfold trJ at hsF
        subst hsF
        simp only [zipT, trB, tBx, tBb, tBf, cI, tBw, tBt, List.cons_append, List.nil_append]
        (have FX := And.intro hlw hgw; repeat' (first | (refine sx ?_ ?_ <;> intro h <;> first | (exfalso; omega) | skip) | (refine g_op ?_; refine g_call ?_; refine g_args ?_; (first | refine s_fn (gsize_c _ (by omega) (by omega) _) ?_ | refine s_fn (hwe _ _ _ ev_) ?_ | refine s_fn (hmt _) ?_ | refine s_fn (hcl _ _ _ ev_) ?_) <;> try first | omega | assumption) | refine ny ?_ | refine WA_block ?_ | (refine uB71_90_6 ?_; refine ⟨by kernel_rfl, ?_⟩) | ((first | refine grp_cons (fun _ => gsize_c _ (by omega) (by omega) _) ?_ | refine grp_cons (fun _ => hwe _ _ _ ev_) ?_ | refine grp_cons (fun _ => hmt _) ?_ | refine grp_cons (fun _ => hcl _ _ _ ev_) ?_) <;> try first | omega | assumption) | (refine g_d ?_; refine d_args ?_; (first | refine d_fn (gsize_c _ (by omega) (by omega) _) ?_ | refine d_fn (hwe _ _ _ ev_) ?_ | refine d_fn (hmt _) ?_ | refine d_fn (hcl _ _ _ ev_) ?_ | refine d_fnQ (fun _ => gsize_c _ (by omega) (by omega) _) ?_ | refine d_fnQ (fun _ => hwe _ _ _ ev_) ?_ | refine d_fnQ (fun _ => hmt _) ?_ | refine d_fnQ (fun _ => hcl _ _ _ ev_) ?_) <;> try first | omega | assumption) | (refine g_d ?_; (first | refine d_fnY (gsize_c _ (by omega) (by omega) _) ?_ | refine d_fnY (hwe _ _ _ ev_) ?_ | refine d_fnY (hmt _) ?_ | refine d_fnY (hcl _ _ _ ev_) ?_) <;> try first | omega | assumption)))
        all_goals (try (exfalso; omega))
        all_goals (exact hQ _ _ _ (by first | exact .inl rfl | exact .inr rfl) _ rfl ⟨[], by rw [List.append_nil]; rfl⟩)
      | succ r =>
        unfold trJ at hsF
        obtain ⟨w, hw⟩ : ∃ w : Int, 2 - ((r + 1 : Nat) : Int) = w := ⟨_, rfl⟩
        have hw1 : -1 ≤ w ∧ w ≤ 1 := by omega
        have hwn : 2 - ((r : Nat) : Int) = w + 1 := by omega
        rw [hw] at hsF
        obtain ⟨i, hi⟩ : ∃ i : Nat, b.ms.length - (k + 1) = i := ⟨_, rfl⟩
        have hii2 : ii = (i : Int) := by omega
        rw [hi] at hsF
        subst hii2
        have hin : i < b.ms.length := by omega
        have hih := ih (used + w.natAbs) (setW s i w) ((i : Int) + 1) (by simp [setW, hsw]) (by omega) (by omega) (okW_set hsk i hw1) (by omega) hsf ext0
        have hs'l := tryF_len b k (used + w.natAbs) (setW s i w)
        have hs'o := tryF_ok b k (used + w.natAbs) (setW s i w) (okW_set hsk i hw1)
        have hs'f := tryF_few b k (used + w.natAbs) (setW s i w)
        have hsl2 : (setW s i w).w.length = b.ms.length := by simp [setW, hsw]
        have hsf2 : (setW s i w).few ≤ 100 := hsf
        generalize tryF b k (used + w.natAbs) (setW s i w) = s' at *
        have hlw : (nsV s.w).length = b.ms.length := by rw [nsV_length]; exact hsw
        have hgw := nsV_get (l := s.w) (i := i) (by omega)
        have hsv : (nsV s.w).set i [.int .i64 w] = nsV (s.w.set i w) := by rw [nsV_set]
        simp only [trB, tBx, tBb, tBf, cI, tBw, tBt, setW, List.cons_append, List.nil_append, bqV] at hih
        rw [← hsv] at hih
        simp only [zipT, trB, tBx, tBb, tBf, cI, tBw, tBt, List.cons_append, List.nil_append, hw, bqV]
        generalize hbq : (match s.best with | none => V.nilsl | some l => V.lst (nsV l)) = bq at *
        (have FX := And.intro hlw hgw; repeat' (first | (refine sx ?_ ?_ <;> intro h <;> first | (exfalso; omega) | skip) | (refine g_op ?_; refine g_call ?_; refine g_args ?_; (first | refine s_fn (gsize_c _ (by omega) (by omega) _) ?_ | refine s_fn (hwe _ _ _ ev_) ?_ | refine s_fn (hmt _) ?_ | refine s_fn (hcl _ _ _ ev_) ?_) <;> try first | omega | assumption) | refine ny ?_ | refine WA_block ?_ | (refine uB71_90_6 ?_; refine ⟨by kernel_rfl, ?_⟩) | ((first | refine grp_cons (fun _ => gsize_c _ (by omega) (by omega) _) ?_ | refine grp_cons (fun _ => hwe _ _ _ ev_) ?_ | refine grp_cons (fun _ => hmt _) ?_ | refine grp_cons (fun _ => hcl _ _ _ ev_) ?_) <;> try first | omega | assumption) | (refine g_d ?_; refine d_args ?_; (first | refine d_fn (gsize_c _ (by omega) (by omega) _) ?_ | refine d_fn (hwe _ _ _ ev_) ?_ | refine d_fn (hmt _) ?_ | refine d_fn (hcl _ _ _ ev_) ?_ | refine d_fnQ (fun _ => gsize_c _ (by omega) (by omega) _) ?_ | refine d_fnQ (fun _ => hwe _ _ _ ev_) ?_ | refine d_fnQ (fun _ => hmt _) ?_ | refine d_fnQ (fun _ => hcl _ _ _ ev_) ?_) <;> try first | omega | assumption) | (refine g_d ?_; (first | refine d_fnY (gsize_c _ (by omega) (by omega) _) ?_ | refine d_fnY (hwe _ _ _ ev_) ?_ | refine d_fnY (hmt _) ?_ | refine d_fnY (hcl _ _ _ ev_) ?_) <;> try first | omega | assumption)))
        all_goals (try (exfalso; omega))
        rw [Int.natCast_add] at hih
        refine g_d ?_
        refine d_dynA hih (fun v mo hr => ?_)
        obtain ⟨ext, rfl⟩ := hr
        simp only [Option.getD_some]
        (have FX := And.intro hlw hgw; repeat' (first | (refine sx ?_ ?_ <;> intro h <;> first | (exfalso; omega) | skip) | (refine g_op ?_; refine g_call ?_; refine g_args ?_; (first | refine s_fn (gsize_c _ (by omega) (by omega) _) ?_ | refine s_fn (hwe _ _ _ ev_) ?_ | refine s_fn (hmt _) ?_ | refine s_fn (hcl _ _ _ ev_) ?_) <;> try first | omega | assumption) | refine ny ?_ | refine WA_block ?_ | (refine uB71_90_6 ?_; refine ⟨by kernel_rfl, ?_⟩) | ((first | refine grp_cons (fun _ => gsize_c _ (by omega) (by omega) _) ?_ | refine grp_cons (fun _ => hwe _ _ _ ev_) ?_ | refine grp_cons (fun _ => hmt _) ?_ | refine grp_cons (fun _ => hcl _ _ _ ev_) ?_) <;> try first | omega | assumption) | (refine g_d ?_; refine d_args ?_; (first | refine d_fn (gsize_c _ (by omega) (by omega) _) ?_ | refine d_fn (hwe _ _ _ ev_) ?_ | refine d_fn (hmt _) ?_ | refine d_fn (hcl _ _ _ ev_) ?_ | refine d_fnQ (fun _ => gsize_c _ (by omega) (by omega) _) ?_ | refine d_fnQ (fun _ => hwe _ _ _ ev_) ?_ | refine d_fnQ (fun _ => hmt _) ?_ | refine d_fnQ (fun _ => hcl _ _ _ ev_) ?_) <;> try first | omega | assumption) | (refine g_d ?_; (first | refine d_fnY (gsize_c _ (by omega) (by omega) _) ?_ | refine d_fnY (hwe _ _ _ ev_) ?_ | refine d_fnY (hmt _) ?_ | refine d_fnY (hcl _ _ _ ev_) ?_) <;> try first | omega | assumption)))
        all_goals (try (exfalso; omega))
        all_goals (refine nextP_ hK (r, s') ⟨by omega, by rw [hi]; exact hsF, by rw [hs'l]; exact hsl2, hs'o, by show s'.few ≤ 100; omega⟩ (by dsimp only; omega) (ext := ext) (ht := by dsimp only; rw [hwn]; exact tv_) (hm := rfl))
end Go.Proofs.Ytaoakololkcepaa
