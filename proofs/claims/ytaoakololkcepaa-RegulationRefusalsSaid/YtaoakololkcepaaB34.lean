/- contracts: spans, weighed sums -/
import Derived.Test.YtaoakololkcepaaB31
set_option linter.unusedSimpArgs false
set_option linter.unusedVariables false
namespace Go.Proofs.Ytaoakololkcepaa
open Go.RowKit
attribute [local irreducible] WA WOs WDs WAn qThen qBlock tput
set_option maxHeartbeats 1000000
set_option maxRecDepth 20000
set_option linter.unusedSimpArgs false
set_option linter.unusedVariables false
set_option maxHeartbeats 2000000
theorem imin (a c : Int) : (if c < a then c else a) = min a c := by split <;> omega
theorem imax (a c : Int) : (if c > a then c else a) = max a c := by split <;> omega

theorem gplus_c (lo hi a c : Int) (h1 : -4000000000000000000 ≤ lo ∧ lo ≤ 4000000000000000000) (h2 : -4000000000000000000 ≤ hi ∧ hi ≤ 4000000000000000000) (h3 : -4000000000000000000 ≤ a ∧ a ≤ 4000000000000000000) (h4 : -4000000000000000000 ≤ c ∧ c ≤ 4000000000000000000) (m : Mem) : Gives Try.prog 120 [.agg [.int .i64 lo, .int .i64 hi], .int .i64 a, .int .i64 c] m (.agg [.int .i64 (lo + min a c), .int .i64 (hi + max a c)]) := by
  refine Gives_in Try.func120 rfl Try.ntmps120 Try.results120 (by kernel_rfl) (by simp) rfl fun Q hQ => ?_
  (repeat' (first | (refine sx ?_ ?_ <;> intro h <;> first | (exfalso; omega) | skip) | refine ny ?_ | refine WA_block ?_))
  all_goals (try (exfalso; omega))
  all_goals ((refine r_es hQ ?_; try with_reducible rfl); rw [imin, imax])

theorem gmeets_c (a c d e : Int) (m : Mem) : Gives Try.prog 86 [.agg [.int .i64 a, .int .i64 c], .agg [.int .i64 d, .int .i64 e]] m (.bool (decide (a ≤ e ∧ d ≤ c))) := by
  refine Gives_in Try.func86 rfl Try.ntmps86 Try.results86 (by kernel_rfl) (by simp) rfl fun Q hQ => ?_
  (repeat' (first | (refine sx ?_ ?_ <;> intro h <;> first | (exfalso; omega) | skip) | refine ny ?_ | refine WA_block ?_))
  all_goals (try (exfalso; omega))
  all_goals ((refine r_es hQ ?_; try with_reducible rfl); simp only [V.bool.injEq, decide_eq_true_eq, decide_eq_false_iff_not, eq_comm]; first | omega | (simp; omega) | simp)
/-- sums of weighed values and tolerances, over the first measures -/
def wgM (b : BnR) (ws : List Int) : Nat → Int
  | 0 => 0
  | k + 1 => wgM b ws k + ws.getD k 0 * (b.ms.getD k msz).val
def wtL (b : BnR) (ws : List Int) : Nat → Int
  | 0 => 0
  | k + 1 => wtL b ws k + min (ws.getD k 0 * (b.ms.getD k msz).low) (ws.getD k 0 * (b.ms.getD k msz).high)
def wtH (b : BnR) (ws : List Int) : Nat → Int
  | 0 => 0
  | k + 1 => wtH b ws k + max (ws.getD k 0 * (b.ms.getD k msz).low) (ws.getD k 0 * (b.ms.getD k msz).high)
/-- what a step of an adjustment adds to the weighed sum -/
def smW (b : BnR) (ws : List Int) (i : Nat) : Nat → Int
  | 0 => 0
  | k + 1 => smW b ws i k + ws.getD k 0 * byN b i k
def cnL (b : BnR) (ws : List Int) : Nat → Int
  | 0 => wgM b ws b.ms.length
  | i + 1 => cnL b ws i + min ((b.ads.getD i adz).least * smW b ws i b.ms.length) ((b.ads.getD i adz).most * smW b ws i b.ms.length)
def cnH (b : BnR) (ws : List Int) : Nat → Int
  | 0 => wgM b ws b.ms.length
  | i + 1 => cnH b ws i + max ((b.ads.getD i adz).least * smW b ws i b.ms.length) ((b.ads.getD i adz).most * smW b ws i b.ms.length)
def wOk (ws : List Int) : Prop := ∀ k, -100 ≤ ws.getD k 0 ∧ ws.getD k 0 ≤ 100
theorem wgM_bd {b : BnR} (hb : Bnd b) {ws : List Int} (hw : wOk ws) : ∀ k, k ≤ b.ms.length → -(10000000 * (k : Int)) ≤ wgM b ws k ∧ wgM b ws k ≤ 10000000 * (k : Int)
  | 0, _ => by simp [wgM]
  | k + 1, hk => by
    have ih := wgM_bd hb hw k (by omega)
    have h1 := mul_bd (a := 100) (c := 100000) (by decide) (hw k) (hb.va k (by omega)).1
    simp only [wgM]
    omega
theorem wt_bd {b : BnR} (hb : Bnd b) {ws : List Int} (hw : wOk ws) : ∀ k, k ≤ b.ms.length → -(10000000 * (k : Int)) ≤ wtL b ws k ∧ wtL b ws k ≤ 10000000 * (k : Int) ∧ -(10000000 * (k : Int)) ≤ wtH b ws k ∧ wtH b ws k ≤ 10000000 * (k : Int)
  | 0, _ => by simp [wtL, wtH]
  | k + 1, hk => by
    have ih := wt_bd hb hw k (by omega)
    have hv := hb.va k (by omega)
    have h1 := mul_bd (a := 100) (c := 100000) (by decide) (hw k) (y := (b.ms.getD k msz).low) (by omega)
    have h2 := mul_bd (a := 100) (c := 100000) (by decide) (hw k) (y := (b.ms.getD k msz).high) (by omega)
    simp only [wtL, wtH]
    omega
theorem smW_bd {b : BnR} (hb : Bnd b) {ws : List Int} (hw : wOk ws) (i : Nat) : ∀ k : Nat, -(100000 * (k : Int)) ≤ smW b ws i k ∧ smW b ws i k ≤ 100000 * (k : Int)
  | 0 => by simp [smW]
  | k + 1 => by
    have ih := smW_bd hb hw i k
    have h1 := mul_bd (a := 100) (c := 1000) (by decide) (hw k) (hb.by_ i k)
    simp only [smW]
    omega
theorem smw_mul {b : BnR} (hb : Bnd b) {ws : List Int} (hw : wOk ws) {i : Nat} (hi : i < b.ads.length) : (-1200000000 ≤ (b.ads.getD i adz).least * smW b ws i b.ms.length ∧ (b.ads.getD i adz).least * smW b ws i b.ms.length ≤ 1200000000) ∧ (-1200000000 ≤ (b.ads.getD i adz).most * smW b ws i b.ms.length ∧ (b.ads.getD i adz).most * smW b ws i b.ms.length ≤ 1200000000) := by
  have h1 := smW_bd hb hw i b.ms.length
  have := hb.fm
  have h2 := hb.le i hi
  have h3 := hb.mo i hi
  exact ⟨mul_bd (a := 1000) (c := 1200000) (by decide) (by omega) (by omega), mul_bd (a := 1000) (c := 1200000) (by decide) (by omega) (by omega)⟩
theorem cn_bd {b : BnR} (hb : Bnd b) {ws : List Int} (hw : wOk ws) : ∀ i, i ≤ b.ads.length → -(120000000 + 1200000000 * (i : Int)) ≤ cnL b ws i ∧ cnL b ws i ≤ 120000000 + 1200000000 * (i : Int) ∧ -(120000000 + 1200000000 * (i : Int)) ≤ cnH b ws i ∧ cnH b ws i ≤ 120000000 + 1200000000 * (i : Int)
  | 0, _ => by
    have h1 := wgM_bd hb hw b.ms.length (Nat.le_refl _)
    have := hb.fm
    simp only [cnL, cnH]
    omega
  | i + 1, hi => by
    have ih := cn_bd hb hw i (by omega)
    have h1 := smw_mul hb hw (i := i) (by omega)
    simp only [cnL, cnH]
    omega
def spB (lo hi : Int) : Blk := .cells .own 118 2 [[.int .i64 lo, .int .i64 hi]]

theorem gweighed_c (b : BnR) (hb : Bnd b) (ws : List Int) (hl : ws.length = b.ms.length) (hw : wOk ws) (m : Mem) : Gives Try.prog 84 [.bp (bxC b) 0, .lst (nsV ws)] m (.tup [.agg [.int .i64 (cnL b ws b.ads.length), .int .i64 (cnH b ws b.ads.length)], .agg [.int .i64 (wtL b ws b.ms.length), .int .i64 (wtH b ws b.ms.length)]]) := by
  have hlm := mssV_length (l := b.ms)
  have hla := adsV_length (l := b.ads)
  have hlw := nsV_length (l := ws)
  have hlr : (rwV (rowsB b.ms b.ads)).length = b.ads.length := by rw [rwV_length, rowsB_length]
  have hfm := hb.fm
  have hfa := hb.fa
  have hga := hla
  have hgb := hla
  have hgc := hla
  have hbx : bxC b = [.lst (mssV b.ms), .lst (adsV b.ads), .lst (nuV (ordB b.ads)), .lst (rwV (rowsB b.ms b.ads)), .lst (nsV (mnsB b.ms b.ads))] := rfl
  rw [hbx]
  refine Gives_in Try.func84 rfl Try.ntmps84 Try.results84 (by kernel_rfl) (by simp) rfl fun Q hQ => ?_
  (have FX := And.intro hlm (And.intro hla (And.intro hlw (And.intro hlr (And.intro hga (And.intro hgb hgc))))); repeat' (first | (refine sx ?_ ?_ <;> intro h <;> first | (exfalso; omega) | skip) | (refine g_op ?_; refine g_call ?_; refine g_args ?_; (first | refine s_fn (gplus_c _ _ _ _ (by omega) (by omega) (by omega) (by omega) _) ?_) <;> try first | omega | assumption) | refine ny ?_ | refine WA_block ?_))
  refine WA_whileK (σ := Nat) [0, 1, 4, 5, 18, 19, 20] (fun k => [.bp [.lst (mssV b.ms), .lst (adsV b.ads), .lst (nuV (ordB b.ads)), .lst (rwV (rowsB b.ms b.ads)), .lst (nsV (mnsB b.ms b.ads))] 0, .lst (nsV ws), .ptr (lend m).length 0 0, .ptr ((lend m).length + 1) 0 0, .lst (mssV b.ms), .int .i64 b.ms.length, .int .i64 k]) (fun k => [spB (wgM b ws k) (wgM b ws k), spB (wtL b ws k) (wtH b ws k)]) 2 (fun k => k ≤ b.ms.length) (fun k => b.ms.length - k) 0 (Nat.zero_le _) tv_ rfl (fun _ => rfl) (by intro s s' _ _; simp [conB, conS, V.keeps, V.plain, Blk.flat, flatL, plainL, V.flat]) (fun s s' _ _ => ⟨.inl rfl, .inl rfl, trivial⟩) ?_
  rintro k hk1 K hK
  simp only [zipT, spB]
  clear FX hga hgb hgc
  have hwb := wgM_bd hb hw k hk1
  have htb := wt_bd hb hw k hk1
  rcases Nat.lt_or_ge k b.ms.length with hk | hk
  · have hga := mssV_get hk
    have hgb := nsV_get (l := ws) (i := k) (by omega)
    have hgc := hla
    have hwk := hw k
    have hv := hb.va k hk
    have e1 : wgM b ws (k + 1) = wgM b ws k + ws.getD k 0 * (b.ms.getD k msz).val := rfl
    have e2 : wtL b ws (k + 1) = wtL b ws k + min (ws.getD k 0 * (b.ms.getD k msz).low) (ws.getD k 0 * (b.ms.getD k msz).high) := rfl
    have e3 : wtH b ws (k + 1) = wtH b ws k + max (ws.getD k 0 * (b.ms.getD k msz).low) (ws.getD k 0 * (b.ms.getD k msz).high) := rfl
    have p1 := mul_bd (a := 100) (c := 100000) (by decide) hwk hv.1
    have p2 := mul_bd (a := 100) (c := 100000) (by decide) hwk (y := (b.ms.getD k msz).low) (by omega)
    have p3 := mul_bd (a := 100) (c := 100000) (by decide) hwk (y := (b.ms.getD k msz).high) (by omega)
    generalize b.ms.getD k msz = x at *
    obtain ⟨xn, xv, xl, xh⟩ := x
    unfold msV at hga
    dsimp only at hga hv e1 e2 e3 p1 p2 p3
    generalize wgM b ws k = wk at *
    generalize wtL b ws k = tl at *
    generalize wtH b ws k = th at *
    generalize ws.getD k 0 = w at *
    (have FX := And.intro hlm (And.intro hla (And.intro hlw (And.intro hlr (And.intro hga (And.intro hgb hgc))))); repeat' (first | (refine sx ?_ ?_ <;> intro h <;> first | (exfalso; omega) | skip) | (refine g_op ?_; refine g_call ?_; refine g_args ?_; (first | refine s_fn (gplus_c _ _ _ _ (by omega) (by omega) (by omega) (by omega) _) ?_) <;> try first | omega | assumption) | refine ny ?_ | refine WA_block ?_))
    all_goals (try (exfalso; omega))
    all_goals (refine nextL_ hK (k + 1) hk (by omega) (hm := by rw [e1, e2, e3, ← Int.min_self (w * xv)]; first | rfl | (rw [Int.min_self, Int.max_self]; rfl)))
  · obtain rfl : k = b.ms.length := by omega
    have hga := hla
    have hgb := hla
    have hgc := hla
    (have FX := And.intro hlm (And.intro hla (And.intro hlw (And.intro hlr (And.intro hga (And.intro hgb hgc))))); repeat' (first | (refine sx ?_ ?_ <;> intro h <;> first | (exfalso; omega) | skip) | (refine g_op ?_; refine g_call ?_; refine g_args ?_; (first | refine s_fn (gplus_c _ _ _ _ (by omega) (by omega) (by omega) (by omega) _) ?_) <;> try first | omega | assumption) | refine ny ?_ | refine WA_block ?_))
    all_goals (try (exfalso; omega))
    clear hK
    refine WA_whileK (σ := Nat) [0, 1, 4, 5, 54, 55, 56] (fun i => [.bp [.lst (mssV b.ms), .lst (adsV b.ads), .lst (nuV (ordB b.ads)), .lst (rwV (rowsB b.ms b.ads)), .lst (nsV (mnsB b.ms b.ads))] 0, .lst (nsV ws), .ptr (lend m).length 0 0, .ptr ((lend m).length + 1) 0 0, .lst (adsV b.ads), .int .i64 b.ads.length, .int .i64 i]) (fun i => [spB (cnL b ws i) (cnH b ws i), spB (wtL b ws b.ms.length) (wtH b ws b.ms.length)]) 2 (fun i => i ≤ b.ads.length) (fun i => b.ads.length - i) 0 (Nat.zero_le _) tv_ rfl (fun _ => rfl) (by intro s s' _ _; simp [conB, conS, V.keeps, V.plain, Blk.flat, flatL, plainL, V.flat]) (fun s s' _ _ => ⟨.inl rfl, .inl rfl, trivial⟩) ?_
    rintro i hi1 K hK
    simp only [zipT, spB]
    clear FX hga hgb hgc
    have hcb := cn_bd hb hw i hi1
    rcases Nat.lt_or_ge i b.ads.length with hi | hi
    · have hga := adsV_get hi
      have hgb := hla
      have hgc := hla
      have hsm := smw_mul hb hw hi
      have hsb := smW_bd hb hw i
      have e1 : cnL b ws (i + 1) = cnL b ws i + min ((b.ads.getD i adz).least * smW b ws i b.ms.length) ((b.ads.getD i adz).most * smW b ws i b.ms.length) := rfl
      have e2 : cnH b ws (i + 1) = cnH b ws i + max ((b.ads.getD i adz).least * smW b ws i b.ms.length) ((b.ads.getD i adz).most * smW b ws i b.ms.length) := rfl
      have hle := hb.le i hi
      have hmo := hb.mo i hi
      have hgr := rwV_get (l := rowsB b.ms b.ads) (i := i) (by rw [rowsB_length]; exact hi)
      rw [rowsB_get hi] at hgr
      have hrl : (nsV (rowL b.ms (b.ads.getD i adz).effs)).length = b.ms.length := by rw [nsV_length, rowL_length]
      have hrg0 := fun k (hk : k < b.ms.length) => nsV_get (l := rowL b.ms (b.ads.getD i adz).effs) (i := k) (by rw [rowL_length]; exact hk)
      have hrg : ∀ k, k < b.ms.length → (nsV (rowL b.ms (b.ads.getD i adz).effs))[k]? = some [V.int .i64 (byN b i k)] := fun k hk => by rw [hrg0 k hk, rowL_get hk]; rfl
      clear hrg0
      generalize nsV (rowL b.ms (b.ads.getD i adz).effs) = RL at *
      generalize b.ads.getD i adz = x at *
      obtain ⟨xn, xe, xl, xm, xp, xa⟩ := x
      unfold adV at hga
      dsimp only at hga hsm e1 e2 hle hmo
      generalize cnL b ws i = cl at *
      generalize cnH b ws i = ch at *
      generalize wtL b ws b.ms.length = tl at *
      generalize wtH b ws b.ms.length = th at *
      (have FX := And.intro hlm (And.intro hla (And.intro hlw (And.intro hlr (And.intro hga (And.intro hgb hgc))))); repeat' (first | (refine sx ?_ ?_ <;> intro h <;> first | (exfalso; omega) | skip) | (refine g_op ?_; refine g_call ?_; refine g_args ?_; (first | refine s_fn (gplus_c _ _ _ _ (by omega) (by omega) (by omega) (by omega) _) ?_) <;> try first | omega | assumption) | refine ny ?_ | refine WA_block ?_))
      all_goals (try (exfalso; omega))
      refine WA_while (σ := Nat) [0, 1, 4, 5, 54, 55, 56, 9, 10, 11, 61, 62, 63] (fun k => [.bp [.lst (mssV b.ms), .lst (adsV b.ads), .lst (nuV (ordB b.ads)), .lst (rwV (rowsB b.ms b.ads)), .lst (nsV (mnsB b.ms b.ads))] 0, .lst (nsV ws), .ptr (lend m).length 0 0, .ptr ((lend m).length + 1) 0 0, .lst (adsV b.ads), .int .i64 b.ads.length, .int .i64 i, .int .i64 i, .ptr ((lend m).length + 2) 0 0, .int .i64 (smW b ws i k), .lst (nsV ws), .int .i64 ws.length, .int .i64 k]) (fun _ => lend m ++ [.cells .own 118 2 [[.int .i64 cl, .int .i64 ch]], .cells .own 118 2 [[.int .i64 tl, .int .i64 th]], .cells .own 98 6 [[.str xn, .lst (efsV xe), .int .i64 xl, .int .i64 xm, .int .i64 xp, .lst (tsV xa)]]]) (fun k => k ≤ b.ms.length) (fun k => b.ms.length - k) 0 (Nat.zero_le _) tv_ rfl ?_
      rintro k hk1 K2 hK2
      simp only [zipT]
      clear FX hga hgb hgc
      have hsk := hsb k
      rcases Nat.lt_or_ge k b.ms.length with hk | hk
      · have hga := nsV_get (l := ws) (i := k) (by omega)
        have hgb := hgr
        have hgc : RL[k]? = some [V.int .i64 (byN b i k)] ∧ RL.length = b.ms.length := ⟨hrg k hk, hrl⟩
        have hby := hb.by_ i k
        have hwk := hw k
        have hsu : smW b ws i (k + 1) = smW b ws i k + ws.getD k 0 * byN b i k := rfl
        have hmu := mul_bd (a := 100) (c := 1000) (by decide) hwk hby
        generalize smW b ws i k = sk at *
        generalize byN b i k = bk at *
        generalize ws.getD k 0 = w at *
        (have FX := And.intro hlm (And.intro hla (And.intro hlw (And.intro hlr (And.intro hga (And.intro hgb hgc))))); repeat' (first | (refine sx ?_ ?_ <;> intro h <;> first | (exfalso; omega) | skip) | (refine g_op ?_; refine g_call ?_; refine g_args ?_; (first | refine s_fn (gplus_c _ _ _ _ (by omega) (by omega) (by omega) (by omega) _) ?_) <;> try first | omega | assumption) | refine ny ?_ | refine WA_block ?_))
        all_goals (try (exfalso; omega))
        all_goals (refine next_ hK2 (k + 1) hk (by omega) (by rw [hsu]; exact tv_))
      · obtain rfl : k = b.ms.length := by omega
        have hga := hla
        have hgb := hla
        have hgc := hla
        generalize smW b ws i b.ms.length = sk at *
        (have FX := And.intro hlm (And.intro hla (And.intro hlw (And.intro hlr (And.intro hga (And.intro hgb hgc))))); repeat' (first | (refine sx ?_ ?_ <;> intro h <;> first | (exfalso; omega) | skip) | (refine g_op ?_; refine g_call ?_; refine g_args ?_; (first | refine s_fn (gplus_c _ _ _ _ (by omega) (by omega) (by omega) (by omega) _) ?_) <;> try first | omega | assumption) | refine ny ?_ | refine WA_block ?_))
        all_goals (try (exfalso; omega))
        all_goals (refine nextL_ hK (i + 1) hi (by omega) (hm := by rw [e1, e2]; rfl))
    · obtain rfl : i = b.ads.length := by omega
      have hga := hla
      have hgb := hla
      have hgc := hla
      (have FX := And.intro hlm (And.intro hla (And.intro hlw (And.intro hlr (And.intro hga (And.intro hgb hgc))))); repeat' (first | (refine sx ?_ ?_ <;> intro h <;> first | (exfalso; omega) | skip) | (refine g_op ?_; refine g_call ?_; refine g_args ?_; (first | refine s_fn (gplus_c _ _ _ _ (by omega) (by omega) (by omega) (by omega) _) ?_) <;> try first | omega | assumption) | refine ny ?_ | refine WA_block ?_))
      all_goals (try (exfalso; omega))
      (repeat' first | (first | (refine sx ?_ ?_ <;> intro h <;> first | (exfalso; omega) | skip) | (refine g_op ?_; refine g_call ?_; refine g_args ?_; (first | refine s_fn (gplus_c _ _ _ _ (by omega) (by omega) (by omega) (by omega) _) ?_) <;> try first | omega | assumption) | refine ny ?_ | refine WA_block ?_) | refine WA_any mixed (id := 19) ?_ | refine an_done (by decide +kernel) ?_ | refine an_step [0] (by decide +kernel) (by decide) ?_ | refine an_step [0, 1] (by decide +kernel) (by decide) ?_ | refine an_step [1] (by decide +kernel) (by decide) ?_ | refine an_step [1, 2] (by decide +kernel) (by decide) ?_ | refine an_step [2] (by decide +kernel) (by decide) ?_ | refine an_step [3] (by decide +kernel) (by decide) ?_ | refine an_cons ⟨_, rfl, ?_⟩ ?_ | exact an_nil)
      all_goals ((have FX := And.intro hlm (And.intro hla (And.intro hlw (And.intro hlr (And.intro hga (And.intro hgb hgc))))); repeat' (first | (refine sx ?_ ?_ <;> intro h <;> first | (exfalso; omega) | skip) | (refine g_op ?_; refine g_call ?_; refine g_args ?_; (first | refine s_fn (gplus_c _ _ _ _ (by omega) (by omega) (by omega) (by omega) _) ?_) <;> try first | omega | assumption) | refine ny ?_ | refine WA_block ?_)))
      all_goals ((refine r_es hQ ?_; try with_reducible rfl))
end Go.Proofs.Ytaoakololkcepaa
