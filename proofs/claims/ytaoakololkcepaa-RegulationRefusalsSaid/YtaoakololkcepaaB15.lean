/- contracts: effort -/
import Derived.Test.YtaoakololkcepaaB14
set_option linter.unusedSimpArgs false
set_option linter.unusedVariables false
namespace Go.Proofs.Ytaoakololkcepaa
open Go.RowKit
attribute [local irreducible] WA WOs WDs WAn qThen qBlock tput
set_option maxHeartbeats 1000000
set_option maxRecDepth 20000
set_option linter.unusedSimpArgs false
set_option linter.unusedVariables false

theorem cor_c (a b : Int) (m : Mem) (k : Nat) {st : Sta} (hk : m[k]? = some (.cells st 3 1 [[.int .i64 a], [.int .i64 b]]) := by first | exact ev_ | fail) : Gives Try.prog 101 [.sl k 2] m (.int .i64 (if a ≠ 0 then a else b)) := by
  have hkl := lend_get2 hk
  refine Gives_in Try.func101 rfl Try.ntmps101 Try.results101 (by kernel_rfl) (by simp) rfl fun Q hQ => ?_
  (have FX := hkl; repeat' (first | (refine sx ?_ ?_ <;> intro h <;> first | (exfalso; omega) | skip) | refine ny ?_ | refine WA_block ?_))
  refine WA_rounds 3 ?_
  (have FX := hkl; repeat' (first | (refine sx ?_ ?_ <;> intro h <;> first | (exfalso; omega) | skip) | refine ny ?_ | refine WA_block ?_))
  all_goals (try (exfalso; omega))
  all_goals ((refine r_es hQ ?_; try with_reducible rfl))
  all_goals (refine congrArg (V.int .i64) ?_; first | (rw [if_pos (by omega)]; done) | (rw [if_neg (by omega)]; done) | (rw [if_neg (by omega)]; omega))
theorem uB15_100_5 {N : Nat} {l : List Oper} {t : List (Nat × V)} {m : Mem} {Q : Exit → List (Nat × V) → Mem → Prop} (h : RgN Try.prog N l t m Q (fun i => if i == 6 then .w else if i == 1 || i == 3 then .q else .p) [.one 0, .one 1, .one 2, .one 3, .one 4, .one 5, .one 6]) : WA Try.prog N (.region 5 l.toArray true) t m Q := d_rgN h
theorem geffort_c (b : BnR) (hb : Bnd b) (l : List Int) (hl : l.length = b.ads.length) (hs : ∀ k, k < b.ads.length → -1000 ≤ l.getD k 0 ∧ l.getD k 0 ≤ 1000) (m : Mem) : Gives Try.prog 100 [.bp (bxC b) 0, .lst (nsV l)] m (.agg [.int .i64 (pasK b.ads l b.ads.length), .int .i64 (sumA l b.ads.length)]) := by
  have hln := nsV_length (l := l)
  have hga := hln
  have hsz := hln
  have hfa := hb.fa
  refine Gives_in Try.func100 rfl Try.ntmps100 Try.results100 (by kernel_rfl) (by simp) rfl fun Q hQ => ?_
  (have FX := And.intro hln hga; repeat' (first | (refine sx ?_ ?_ <;> intro h <;> first | (exfalso; omega) | skip) | (refine g_op ?_; refine g_call ?_; refine g_args ?_; (first | refine s_fn (gpasses_c b hb l hl hs _) ?_ | refine s_fn (hsz _) ?_) <;> try first | omega | assumption) | refine ny ?_ | refine WA_block ?_ | (refine uB15_100_5 ?_; refine ⟨by kernel_rfl, ?_⟩) | ((first | refine grp_cons (fun _ => gpasses_c b hb l hl hs _) ?_ | refine grp_cons (fun _ => hsz _) ?_) <;> try first | omega | assumption) | (refine g_d ?_; refine d_args ?_; (first | refine d_fn (gpasses_c b hb l hl hs _) ?_ | refine d_fn (hsz _) ?_ | refine d_fnQ (fun _ => gpasses_c b hb l hl hs _) ?_ | refine d_fnQ (fun _ => hsz _) ?_) <;> try first | omega | assumption) | (refine g_d ?_; (first | refine d_fnY (gpasses_c b hb l hl hs _) ?_ | refine d_fnY (hsz _) ?_) <;> try first | omega | assumption)))
  refine WA_whileK (σ := Nat) (L := m) [4, 5, 12, 13, 14] (fun k => [.ptr (lend m).length 0 0, .ptr ((lend m).length + 1) 0 0, .lst (nsV l), .int .i64 l.length, .int .i64 k]) (fun k => [.cells .own 138 2 [[.int .i64 0, .int .i64 0]], .cells .own 138 2 [[.int .i64 (pasK b.ads l b.ads.length), .int .i64 (sumA l k)]]]) 2 (fun k => k ≤ b.ads.length) (fun k => b.ads.length - k) 0 (Nat.zero_le _) tv_ rfl (fun _ => rfl) (by intro s s' _ _; simp [conB, conS, V.keeps, V.plain, Blk.flat, flatL, plainL, V.flat]) (by intro s s' _ _; simp [conB, conS, V.keeps, V.plain, Blk.flat, flatL, plainL, V.flat]) ?_
  rintro k hk1 K hK
  simp only [zipT]
  clear FX hga hsz
  have hbd := sumA_bd hs k hk1
  rcases Nat.lt_or_ge k b.ads.length with hk | hk
  · have hga := nsV_get (l := l) (i := k) (by omega)
    have hsk := hs k hk
    have hsz := fun m => gsize_c (l.getD k 0) (by omega) (by omega) m
    have hsu : sumA l (k + 1) = sumA l k + ((l.getD k 0).natAbs : Int) := rfl
    generalize l.getD k 0 = s at *
    generalize sumA l k = sk at *
    (have FX := And.intro hln hga; repeat' (first | (refine sx ?_ ?_ <;> intro h <;> first | (exfalso; omega) | skip) | (refine g_op ?_; refine g_call ?_; refine g_args ?_; (first | refine s_fn (gpasses_c b hb l hl hs _) ?_ | refine s_fn (hsz _) ?_) <;> try first | omega | assumption) | refine ny ?_ | refine WA_block ?_ | (refine uB15_100_5 ?_; refine ⟨by kernel_rfl, ?_⟩) | ((first | refine grp_cons (fun _ => gpasses_c b hb l hl hs _) ?_ | refine grp_cons (fun _ => hsz _) ?_) <;> try first | omega | assumption) | (refine g_d ?_; refine d_args ?_; (first | refine d_fn (gpasses_c b hb l hl hs _) ?_ | refine d_fn (hsz _) ?_ | refine d_fnQ (fun _ => gpasses_c b hb l hl hs _) ?_ | refine d_fnQ (fun _ => hsz _) ?_) <;> try first | omega | assumption) | (refine g_d ?_; (first | refine d_fnY (gpasses_c b hb l hl hs _) ?_ | refine d_fnY (hsz _) ?_) <;> try first | omega | assumption)))
    all_goals (try (exfalso; omega))
    all_goals (refine nextL_ hK (k + 1) hk (by omega) (hm := by rw [hsu]; rfl))
  · obtain rfl : k = b.ads.length := by omega
    have hga := hln
    have hsz := hln
    (have FX := And.intro hln hga; repeat' (first | (refine sx ?_ ?_ <;> intro h <;> first | (exfalso; omega) | skip) | (refine g_op ?_; refine g_call ?_; refine g_args ?_; (first | refine s_fn (gpasses_c b hb l hl hs _) ?_ | refine s_fn (hsz _) ?_) <;> try first | omega | assumption) | refine ny ?_ | refine WA_block ?_ | (refine uB15_100_5 ?_; refine ⟨by kernel_rfl, ?_⟩) | ((first | refine grp_cons (fun _ => gpasses_c b hb l hl hs _) ?_ | refine grp_cons (fun _ => hsz _) ?_) <;> try first | omega | assumption) | (refine g_d ?_; refine d_args ?_; (first | refine d_fn (gpasses_c b hb l hl hs _) ?_ | refine d_fn (hsz _) ?_ | refine d_fnQ (fun _ => gpasses_c b hb l hl hs _) ?_ | refine d_fnQ (fun _ => hsz _) ?_) <;> try first | omega | assumption) | (refine g_d ?_; (first | refine d_fnY (gpasses_c b hb l hl hs _) ?_ | refine d_fnY (hsz _) ?_) <;> try first | omega | assumption)))
    all_goals (try (exfalso; omega))
    all_goals ((refine r_es hQ ?_; try with_reducible rfl))
end Go.Proofs.Ytaoakololkcepaa
