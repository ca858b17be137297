/- contracts: the solution of a system, and circles -/
import Derived.Test.YtdkkhfkplpopdaaDoorK5
import Derived.Test.YtdkkhfkplpopdaaDoorK3
set_option linter.unusedSimpArgs false
set_option linter.unusedVariables false
namespace Go.Proofs.YtdkkhfkplpopdaaDoor
open Go.RowKit
attribute [local irreducible] WA WOs WDs WAn qThen qBlock tput
set_option maxHeartbeats 1000000
set_option maxRecDepth 20000
set_option linter.unusedSimpArgs false
set_option linter.unusedVariables false
def byR (l : List BdR) (n : Nat) : Nat → List Int
  | 0 => List.replicate n 0
  | r + 1 => byK l (slvR l n r) (byR l n r) l.length
theorem byR_len (l : List BdR) (n : Nat) : ∀ r, (byR l n r).length = n
  | 0 => by simp [byR]
  | r + 1 => by rw [byR, byK_len]; exact byR_len l n r
theorem slvR_low {l : List BdR} (hm : mosts l) (hl : l.length ≤ 200) (n : Nat) : ∀ r, lowB (slvR l n r) (-(200000000000 * (r : Int)))
  | 0 => by
    intro v
    have : (slvR l n 0).getD v 0 = 0 := by
      rw [slvR, List.getD_eq_getElem?_getD, List.getElem?_replicate]
      split <;> rfl
    rw [this]
    constructor <;> omega
  | r + 1 => by
    have h := rlxK_low hm (slvR_low hm hl n r) l.length (Nat.le_refl _)
    intro v
    have := h v
    rw [slvR]
    constructor <;> omega
theorem slvR_rest {l : List BdR} {n r : Nat} (h : lowK l (slvR l n r) l.length = -1) : ∀ k, r ≤ k → slvR l n k = slvR l n r := by
  intro k hk
  induction k with
  | zero => rw [show r = 0 by omega]
  | succ k ih =>
    rcases Nat.lt_or_ge k r with q | q
    · rw [show r = k + 1 by omega]
    · rw [slvR, ih q, lowK_neg h]
theorem lowK_cases (l : List BdR) (x : List Int) : ∀ k, lowK l x k = -1 ∨ 0 ≤ lowK l x k
  | 0 => .inl rfl
  | k + 1 => by
    rw [lowK]
    split
    · exact .inr (by omega)
    · exact lowK_cases l x k
theorem uK6_12_4 {N : Nat} {l : List Oper} {t : List (Nat × V)} {m : Mem} {Q : Exit → List (Nat × V) → Mem → Prop} (h : RgN Tryd.prog N l t m Q (fun i => if i == 1 || i == 3 then .a else .p) [.one 0, .one 2, .grp true [] [1, 3], .one 4, .one 5]) : WA Tryd.prog N (.region 4 l.toArray true) t m Q := d_rgN h
theorem nsolve_c (n : Nat) (l : List BdR) (h1 : 1 ≤ n) (h2 : n ≤ 60) (h3 : l.length ≤ 200) (ho : okBs n l) (hm : mosts l) (z : List Int) (hz : keepB l z) (m : Mem) : Gives Tryd.prog 12 [.int .i64 n, .lst (bdV l)] m (.tup [.lst (nsV (slvR l n (n - 1))), .nilsl, .int .i64 0]) := by
  have hck := fun m => nsystem_c n l h1 h2 h3 ho hm m
  have hlen := bdV_length (l := l)
  have hend := slv_ends h1 ho hz
  suffices key : CallA Tryd.prog 12 [.int .i64 n, .lst (bdV l)] m (fun v mo => v = .tup [.lst (nsV (slvR l n (n - 1))), .nilsl, .int .i64 0] ∧ mo = none) from key
  refine CallA_in Tryd.func12 rfl Tryd.ntmps12 Tryd.results12 (by kernel_rfl) (by simp) fun Q hQ => ?_
  (have FX := And.intro hlen h1; repeat' (first | (refine sx ?_ ?_ <;> intro h <;> first | (exfalso; omega) | skip) | (refine g_op ?_; refine g_call ?_; refine g_args ?_; (first | refine s_fn (hck _) ?_) <;> try first | omega | assumption) | refine ny ?_ | refine WA_block ?_ | (refine uK6_12_4 ?_; refine ⟨by kernel_rfl, ?_⟩) | ((first | refine grp_cons (fun _ => hck _) ?_) <;> try first | omega | assumption) | (refine g_d ?_; refine d_args ?_; (first | refine d_fn (hck _) ?_ | refine d_fnQ (fun _ => hck _) ?_) <;> try first | omega | assumption) | (refine g_d ?_; (first | refine d_fnY (hck _) ?_) <;> try first | omega | assumption)))
  all_goals (try (exfalso; omega))
  refine WA_whileP (σ := Nat) (M := lend m) [0, 1, 8, 9, 23, 24] (fun r => [.int .i64 n, .lst (bdV l), .sl ((lend m).length + 2) n, .sl ((lend m).length + 3) n, .int .i64 n, .int .i64 r]) (fun r => [.dead, .dead, cI (slvR l n r), cI (byR l n r)]) 4 (fun r => r ≤ n ∧ ∀ j, j < r → lowK l (slvR l n j) l.length ≠ -1) (fun r => n - r) 0 ⟨Nat.zero_le _, fun j h => absurd h (Nat.not_lt_zero _)⟩ tv_ ?_ (fun _ => rfl) (by intro s s' _ _; simp [conB, conS, V.keeps, V.plain, Blk.flat, flatL, plainL, V.flat]) (fun _ _ _ _ => ⟨.inr rfl, .inr rfl, .inl (cI_flat _), .inl (cI_flat _), trivial⟩) ?_
  · simp [byR, slvR, nsV]
  rintro r ⟨hr, hj⟩ K hK
  simp only [zipT]
  clear FX
  have hrn : r < n := by
    rcases Nat.lt_or_ge r n with q | q
    · exact q
    · exact absurd hend (hj (n - 1) (by omega))
  have hx := nrelax_c n l ho hm h3 (slvR l n r) (byR l n r) (slvR_len l n r) (byR_len l n r) (fun v => by have := slvR_low hm h3 n r v; omega) (lend m ++ [.dead, .dead])
  simp only [List.length_append, List.length_cons, List.length_nil, Nat.zero_add, Nat.reduceAdd, List.append_assoc, List.cons_append, List.nil_append] at hx
  have e1 : slvR l n (r + 1) = rlxK l (slvR l n r) l.length := rfl
  have e2 : byR l n (r + 1) = byK l (slvR l n r) (byR l n r) l.length := rfl
  rw [← e1, ← e2] at hx
  have hlw : lowK l (slvR l n r) l.length = -1 ∨ 0 ≤ lowK l (slvR l n r) l.length := lowK_cases l _ _
  have hdone : lowK l (slvR l n r) l.length = -1 → slvR l n (r + 1) = slvR l n (n - 1) := fun h => by
    rw [slvR_rest h (r + 1) (by omega), slvR_rest h (n - 1) (by omega)]
  have hsl := slvR_len l n (r + 1)
  have hnx : lowK l (slvR l n r) l.length ≠ -1 → ∀ j, j < r + 1 → lowK l (slvR l n j) l.length ≠ -1 := fun h j hj2 => by
    rcases Nat.lt_or_ge j r with q | q
    · exact hj j q
    · obtain rfl : j = r := by omega
      exact h
  generalize lowK l (slvR l n r) l.length = lw at *
  (have FX := And.intro hlen h1; repeat' (first | (refine sx ?_ ?_ <;> intro h <;> first | (exfalso; omega) | skip) | (refine g_op ?_; refine g_call ?_; refine g_args ?_; (first | refine s_fn (hck _) ?_) <;> try first | omega | assumption) | refine ny ?_ | refine WA_block ?_ | (refine uK6_12_4 ?_; refine ⟨by kernel_rfl, ?_⟩) | ((first | refine grp_cons (fun _ => hck _) ?_) <;> try first | omega | assumption) | (refine g_d ?_; refine d_args ?_; (first | refine d_fn (hck _) ?_ | refine d_fnQ (fun _ => hck _) ?_) <;> try first | omega | assumption) | (refine g_d ?_; (first | refine d_fnY (hck _) ?_) <;> try first | omega | assumption)))
  all_goals (try (exfalso; omega))
  refine g_op ?_; refine g_call ?_; refine g_args ?_; refine s_fnA hx ?_
  rintro v mo ⟨rfl, ext, rfl⟩
  simp only [Option.getD_some]
  (have FX := And.intro hlen h1; repeat' (first | (refine sx ?_ ?_ <;> intro h <;> first | (exfalso; omega) | skip) | (refine g_op ?_; refine g_call ?_; refine g_args ?_; (first | refine s_fn (hck _) ?_) <;> try first | omega | assumption) | refine ny ?_ | refine WA_block ?_ | (refine uK6_12_4 ?_; refine ⟨by kernel_rfl, ?_⟩) | ((first | refine grp_cons (fun _ => hck _) ?_) <;> try first | omega | assumption) | (refine g_d ?_; refine d_args ?_; (first | refine d_fn (hck _) ?_ | refine d_fnQ (fun _ => hck _) ?_) <;> try first | omega | assumption) | (refine g_d ?_; (first | refine d_fnY (hck _) ?_) <;> try first | omega | assumption)))
  all_goals (try (exfalso; omega))
  · have hd := hdone (by omega)
    have htk : (nsV (slvR l n (r + 1))).take n = nsV (slvR l n (n - 1)) := by rw [hd, List.take_of_length_le (by rw [nsV_length, slvR_len]; exact Nat.le_refl _)]
    refine r_esA hQ (fin_sl3 (D := []) (B := lend m) (j := 2) (es := nsV (slvR l n (r + 1))) (u' := .nilsl) (x' := .int .i64 0) (by simp) rfl (by rw [nsV_length, hsl]; exact Nat.le_refl _) (by rw [htk]; exact nsV_plain _) (fun _ _ => frz_plain _ _ _ rfl (by simp) (by simp) (by simp) (by simp)) (fun _ _ => frz_plain _ _ _ rfl (by simp) (by simp) (by simp) (by simp)) ⟨?_, rfl⟩)
    rw [htk]
  · exact nextP_ hK (r + 1) ⟨by omega, hnx (by omega)⟩ (by omega) (ext := ext) (hm := rfl)
end Go.Proofs.YtdkkhfkplpopdaaDoor
