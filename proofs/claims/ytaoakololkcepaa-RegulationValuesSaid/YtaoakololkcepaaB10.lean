/- contracts: steps, values, what is broken -/
import Derived.Test.YtaoakololkcepaaBW
import Derived.Test.YtaoakololkcepaaNY
set_option linter.unusedSimpArgs false
set_option linter.unusedVariables false
namespace Go.Proofs.Ytaoakololkcepaa
open Go.RowKit
attribute [local irreducible] WA WOs WDs WAn qThen qBlock tput
set_option maxHeartbeats 1000000
set_option maxRecDepth 20000
set_option linter.unusedSimpArgs false
set_option linter.unusedVariables false
theorem uB10_108_6 {N : Nat} {l : List Oper} {t : List (Nat × V)} {m : Mem} {Q : Exit → List (Nat × V) → Mem → Prop} (h : RgN Try.prog N l t m Q (fun i => if i == 3 || i == 5 || i == 7 || i == 8 || i == 9 then .q else .p) [.one 0, .one 1, .one 2, .one 3, .one 4, .one 5, .one 6, .one 7, .one 8, .one 9]) : WA Try.prog N (.region 6 l.toArray true) t m Q := d_rgN h
theorem gchecksteps_c (b : BnR) (hfa : b.ads.length ≤ 12) (l : List Int) (m : Mem) : Gives Try.prog 108 [.bp (bxC b) 0, .lst (nsV l)] m (.int .i64 (stErr b.ads l)) := by
  have hla := adsV_length (l := b.ads)
  have hln := nsV_length (l := l)
  have hga := hla
  have hgb := hla
  unfold bxC stErr
  refine Gives_in Try.func108 rfl Try.ntmps108 Try.results108 (by kernel_rfl) (by simp) rfl fun Q hQ => ?_
  (have FX := And.intro hla (And.intro hln (And.intro hga hgb)); repeat' (first | (refine sx ?_ ?_ <;> intro h <;> first | (exfalso; omega) | skip) | (refine g_op ?_; refine g_call ?_; refine g_args ?_; (first | refine s_fn (gwithin_c _ _ _ _) ?_) <;> try first | omega | assumption) | refine ny ?_ | refine WA_block ?_ | (refine uB10_108_6 ?_; refine ⟨by kernel_rfl, ?_⟩) | ((first | refine grp_cons (fun _ => gwithin_c _ _ _ _) ?_) <;> try first | omega | assumption) | (refine g_d ?_; refine d_args ?_; (first | refine d_fn (gwithin_c _ _ _ _) ?_ | refine d_fnQ (fun _ => gwithin_c _ _ _ _) ?_) <;> try first | omega | assumption) | (refine g_d ?_; (first | refine d_fnY (gwithin_c _ _ _ _) ?_) <;> try first | omega | assumption)))
  all_goals (try (exfalso; omega))
  all_goals try
    ((refine r_es hQ ?_; try with_reducible rfl)
     refine congrArg (V.int .i64) ?_
     rw [if_pos (by omega)]
     done)
  have hlb : l.length = b.ads.length := by omega
  rw [if_neg (by omega)] at hQ
  generalize hO : nuV (ordB b.ads) = O at *
  generalize hRW : rwV (rowsB b.ms b.ads) = RW at *
  generalize hMN : nsV (mnsB b.ms b.ads) = MN at *
  refine WA_whileK (σ := Nat) (L := m) [0, 1, 20, 21, 22] (fun i => [.bp [.lst (mssV b.ms), .lst (adsV b.ads), .lst O, .lst RW, .lst MN] 0, .lst (nsV l), .lst (adsV b.ads), .int .i64 b.ads.length, .int .i64 i]) (fun _ => []) 0 (fun i => i ≤ b.ads.length ∧ ∀ j, j < i → stErrAt b.ads l j = 0) (fun i => b.ads.length - i) 0 ⟨Nat.zero_le _, fun j h => absurd h (Nat.not_lt_zero _)⟩ tv_ rfl (fun _ => rfl) (by intro s s' _ _; simp [conB, conS, V.keeps, V.plain, Blk.flat, flatL, plainL, V.flat]) (by intro s s' _ _; simp [conB, conS, V.keeps, V.plain, Blk.flat, flatL, plainL, V.flat]) ?_
  rintro i ⟨hi1, hi2⟩ K hK
  simp only [zipT]
  clear FX hga hgb
  rcases Nat.lt_or_ge i b.ads.length with hi | hi
  · have hga := adsV_get hi
    have hgb := nsV_get (l := l) (i := i) (by omega)
    have hat : stErrAt b.ads l i = if (b.ads.getD i adz).least ≤ l.getD i 0 ∧ l.getD i 0 ≤ (b.ads.getD i adz).most then 0 else 2 := rfl
    generalize b.ads.getD i adz = x at *
    obtain ⟨nm, ef, le, mo, pa, af⟩ := x
    unfold adV at hga
    dsimp only at hga hat
    (have FX := And.intro hla (And.intro hln (And.intro hga hgb)); repeat' (first | (refine sx ?_ ?_ <;> intro h <;> first | (exfalso; omega) | skip) | (refine g_op ?_; refine g_call ?_; refine g_args ?_; (first | refine s_fn (gwithin_c _ _ _ _) ?_) <;> try first | omega | assumption) | refine ny ?_ | refine WA_block ?_ | (refine uB10_108_6 ?_; refine ⟨by kernel_rfl, ?_⟩) | ((first | refine grp_cons (fun _ => gwithin_c _ _ _ _) ?_) <;> try first | omega | assumption) | (refine g_d ?_; refine d_args ?_; (first | refine d_fn (gwithin_c _ _ _ _) ?_ | refine d_fnQ (fun _ => gwithin_c _ _ _ _) ?_) <;> try first | omega | assumption) | (refine g_d ?_; (first | refine d_fnY (gwithin_c _ _ _ _) ?_) <;> try first | omega | assumption)))
    all_goals (try (exfalso; omega))
    all_goals try
      ((refine r_es hQ ?_; try with_reducible rfl)
       refine congrArg (V.int .i64) (fE_is hi hi2 (hat.trans ?_) (by decide)).symm
       rw [if_neg (by omega)]
       done)
    all_goals (refine nextL_ hK (i + 1) ⟨by omega, up_zero hi2 (hat.trans (by rw [if_pos (by omega)]))⟩ (by omega))
  · obtain rfl : i = b.ads.length := by omega
    have hga := hla
    have hgb := hla
    (have FX := And.intro hla (And.intro hln (And.intro hga hgb)); repeat' (first | (refine sx ?_ ?_ <;> intro h <;> first | (exfalso; omega) | skip) | (refine g_op ?_; refine g_call ?_; refine g_args ?_; (first | refine s_fn (gwithin_c _ _ _ _) ?_) <;> try first | omega | assumption) | refine ny ?_ | refine WA_block ?_ | (refine uB10_108_6 ?_; refine ⟨by kernel_rfl, ?_⟩) | ((first | refine grp_cons (fun _ => gwithin_c _ _ _ _) ?_) <;> try first | omega | assumption) | (refine g_d ?_; refine d_args ?_; (first | refine d_fn (gwithin_c _ _ _ _) ?_ | refine d_fnQ (fun _ => gwithin_c _ _ _ _) ?_) <;> try first | omega | assumption) | (refine g_d ?_; (first | refine d_fnY (gwithin_c _ _ _ _) ?_) <;> try first | omega | assumption)))
    all_goals (try (exfalso; omega))
    all_goals ((refine r_es hQ ?_; try with_reducible rfl))
    all_goals (exact congrArg (V.int .i64) (fE_zero.2 hi2).symm)

theorem gvalue_c (b : BnR) (hb : Bnd b) (l : List Int) (hl : l.length = b.ads.length) (hs : ∀ k, k < b.ads.length → -1000 ≤ l.getD k 0 ∧ l.getD k 0 ≤ 1000) (i : Nat) (hi : i < b.ms.length) (m : Mem) : Gives Try.prog 79 [.bp (bxC b) 0, .int .i64 i, .lst (nsV l)] m (.int .i64 (valP b l i)) := by
  have hlm := mssV_length (l := b.ms)
  have hln := nsV_length (l := l)
  have hla := adsV_length (l := b.ads)
  have hlw : (rwV (rowsB b.ms b.ads)).length = b.ads.length := by rw [rwV_length, rowsB_length]
  have hgm := mssV_get hi
  have hga := hla
  have hgb := hla
  have hgc := hla
  have hfa := hb.fa
  have hva := (hb.va i hi).1
  have hv0 : valK b l i 0 = (b.ms.getD i msz).val := rfl
  have hvn : valP b l i = valK b l i b.ads.length := rfl
  generalize b.ms.getD i msz = y at hgm hva hv0
  obtain ⟨ynm, yva, ylo, yhi⟩ := y
  unfold msV at hgm
  dsimp only at hgm hva hv0
  unfold bxC
  generalize hO : nuV (ordB b.ads) = O at *
  generalize hMN : nsV (mnsB b.ms b.ads) = MN at *
  refine Gives_in Try.func79 rfl Try.ntmps79 Try.results79 (by kernel_rfl) (by simp) rfl fun Q hQ => ?_
  (have FX := And.intro hlm (And.intro hln (And.intro hla (And.intro hlw (And.intro hgm (And.intro hga (And.intro hgb hgc)))))); repeat' (first | (refine sx ?_ ?_ <;> intro h <;> first | (exfalso; omega) | skip) | refine ny ?_ | refine WA_block ?_))
  all_goals (try (exfalso; omega))
  refine WA_while (σ := Nat) [0, 1, 7, 19, 20, 21] (fun k => [.bp [.lst (mssV b.ms), .lst (adsV b.ads), .lst O, .lst (rwV (rowsB b.ms b.ads)), .lst MN] 0, .int .i64 i, .int .i64 (valK b l i k), .lst (nsV l), .int .i64 l.length, .int .i64 k]) (fun _ => lend m ++ []) (fun k => k ≤ b.ads.length) (fun k => b.ads.length - k) 0 (Nat.zero_le _) (by rw [hv0]; exact tv_) rfl ?_
  rintro k hk1 L hL
  simp only [zipT]
  clear FX hga hgb hgc
  have hbd := valK_bd hb hi hs k hk1
  rcases Nat.lt_or_ge k b.ads.length with hk | hk
  · have hga := nsV_get (l := l) (i := k) (by omega)
    have hgb := rwV_get (l := rowsB b.ms b.ads) (i := k) (by rw [rowsB_length]; exact hk)
    rw [rowsB_get hk] at hgb
    have hgc := nsV_get (l := rowL b.ms (b.ads.getD k adz).effs) (i := i) (by rw [rowL_length]; exact hi)
    rw [rowL_get hi] at hgc
    have hlr : (nsV (rowL b.ms (b.ads.getD k adz).effs)).length = b.ms.length := by rw [nsV_length, rowL_length]
    have hgc : (nsV (rowL b.ms (b.ads.getD k adz).effs))[i]? = some [V.int .i64 (byN b k i)] ∧ (nsV (rowL b.ms (b.ads.getD k adz).effs)).length = b.ms.length := ⟨hgc, hlr⟩
    have hbx := hb.by_ k i
    have hsk := hs k hk
    have hmb := mul_bd (a := 1000) (c := 1000) (by decide) hsk hbx
    have hsu : valK b l i (k + 1) = valK b l i k + l.getD k 0 * byN b k i := rfl
    generalize nsV (rowL b.ms (b.ads.getD k adz).effs) = RL at *
    generalize byN b k i = by' at *
    generalize l.getD k 0 = sk at *
    generalize hvk : valK b l i k = vk at *
    (have FX := And.intro hlm (And.intro hln (And.intro hla (And.intro hlw (And.intro hgm (And.intro hga (And.intro hgb hgc)))))); repeat' (first | (refine sx ?_ ?_ <;> intro h <;> first | (exfalso; omega) | skip) | refine ny ?_ | refine WA_block ?_))
    all_goals (try (exfalso; omega))
    all_goals (refine next_ hL (k + 1) hk (by omega) (by rw [hsu]; exact tv_))
  · obtain rfl : k = b.ads.length := by omega
    have hga := hla
    have hgb := hla
    have hgc := hla
    rw [hvn] at hQ
    (have FX := And.intro hlm (And.intro hln (And.intro hla (And.intro hlw (And.intro hgm (And.intro hga (And.intro hgb hgc)))))); repeat' (first | (refine sx ?_ ?_ <;> intro h <;> first | (exfalso; omega) | skip) | refine ny ?_ | refine WA_block ?_))
    all_goals (try (exfalso; omega))
    all_goals ((refine r_es hQ ?_; try with_reducible rfl))
end Go.Proofs.Ytaoakololkcepaa
