/- contract: refusals, of the program -/
import Derived.Test.YtaoakololkcepaaB71
set_option linter.unusedSimpArgs false
set_option linter.unusedVariables false
namespace Go.Proofs.Ytaoakololkcepaa
open Go.RowKit
theorem reW_some {b : BnR} {w : List Int} (h : reW b = some w) : w.length = b.ms.length ∧ okW w ∧ prvB b w = true := by
  obtain ⟨c, _, _, h3, _⟩ := refN_some h
  unfold fnd at h3
  have hm := List.mem_of_find?_eq_some h3
  have hp := List.find?_some h3
  unfold fndP at hp
  rw [Bool.and_eq_true] at hp
  obtain ⟨s, hs, rfl⟩ := List.mem_map.1 hm
  exact ⟨by rw [List.nil_append]; exact allW_len hs, fun x hx => allW_bd hs x (by simpa using hx), hp.2⟩
theorem prv_nil {b : BnR} (h : b.ms.length = 0) (ws : List Int) : prvB b ws = false := by
  have hc : ∀ k, cnL b ws k = 0 ∧ cnH b ws k = 0 := by
    intro k
    induction k with
    | zero => simp [cnL, cnH, h, wgM]
    | succ k ih => simp [cnL, cnH, ih.1, ih.2, h, smW]
  have hm : mtW b ws := by
    unfold mtW
    rw [(hc _).1, (hc _).2, h]
    exact ⟨Int.le_refl 0, Int.le_refl 0⟩
  unfold prvB
  rw [decide_eq_true hm]
  rfl
theorem reW_ne {b : BnR} {w : List Int} (h : reW b = some w) : ∃ a r, w = a :: r := by
  obtain ⟨h1, _, h3⟩ := reW_some h
  cases w with
  | nil =>
    rw [prv_nil (by simpa using h1.symm)] at h3
    cases h3
  | cons a r => exact ⟨a, r, rfl⟩
theorem reW_ck {b : BnR} {w : List Int} (h : reW b = some w) : ckW b w = 0 := by
  obtain ⟨h1, h2, h3⟩ := reW_some h
  unfold ckW
  rw [if_neg (fun g => g h1), if_neg, if_neg]
  · intro hm
    unfold prvB at h3
    rw [decide_eq_true hm] at h3
    cases h3
  · intro hs
    exact hs fun k hk => by
      have := wOk_one h2 k
      omega
def tr0 (n : Nat) : TrS := ⟨List.replicate n 0, none, n + 1⟩
theorem tr0_best (b : BnR) : (tryF b b.ms.length 0 (tr0 b.ms.length)).best = reW b := by
  have hl : (tr0 b.ms.length).w.length = b.ms.length := by simp [tr0]
  have h := (tryF_spec b b.ms.length 0 (tr0 b.ms.length) (by rw [hl]; exact Nat.le_refl _) (by rw [hl, Nat.sub_self]; rfl)).2.2
  rw [hl, Nat.sub_self, List.take_zero] at h
  have h2 := congrArg Prod.fst h
  exact h2.trans (ref_eq b b.ms.length)
theorem b_nilT {P : Program} {m : Mem} {T : TypeId} (hk : kdT P T = 2) : evB P m .eql T .nilsl .nilsl = some (True, .bool true, m) := by simp [evB, evEq, eqV, hk]
theorem b_nilF {P : Program} {m : Mem} {T : TypeId} {x : List V} {l : List (List V)} (hk : kdT P T = 2) : evB P m .eql T (.lst (x :: l)) .nilsl = some (True, .bool false, m) := by simp [evB, evEq, eqV, hk]
def gfO : Option (List Int) → V
  | some w => .tup [.lst (nsV w), .int .i64 0]
  | none => .tup [.nilsl, .int .i64 12]
def gfV (b : BnR) : V := gfO (reW b)
theorem fin_tpi {m0 X : Mem} {es : List (List V)} {c : Int} {R : V → Option Mem → Prop} (h : plainLL es = true) (hR : R (.tup [.lst es, .int .i64 c]) none) : Fin m0 R (.tup [.lst es, .int .i64 c]) (lend m0 ++ X) := by
  refine .inr ⟨X, _, rfl, ?_, hR⟩
  show (frzs (frz _ _ 3) [_, _]).map V.tup = _
  rw [frzs_cons (frz_ls h) (frzs_cons (frz_int _ _ _ _ _) rfl)]
  rfl
attribute [local irreducible] WA WOs WDs WAn qThen qBlock tput
set_option maxHeartbeats 1000000
set_option maxRecDepth 20000
set_option linter.unusedSimpArgs false
set_option linter.unusedVariables false
set_option maxHeartbeats 8000000

theorem gRefusal_bad (b : BnR) (hb : Bl b) (h0 : bnErr b ≠ 0) (m : Mem) : Gives Try.prog 42 [.agg (bnV b)] m (.tup [.nilsl, .int .i64 (bnErr b)]) := by
  have hlm := mssV_length (l := b.ms)
  have hop := fun m => gopen_bad b hb h0 m
  unfold bnV at hop ⊢
  refine Gives_in Try.func42 rfl Try.ntmps42 Try.results42 (by kernel_rfl) (by simp) rfl fun Q hQ => ?_
  (have FX := hlm; repeat' (first | (refine sx ?_ ?_ <;> intro h <;> first | (exfalso; omega) | skip) | (refine g_op ?_; refine g_call ?_; refine g_args ?_; (first | refine s_fn (hop _) ?_) <;> try first | omega | assumption) | refine ny ?_ | refine WA_block ?_))
  all_goals (try (exfalso; omega))
  all_goals ((refine r_es hQ ?_; try with_reducible rfl))
theorem gRefusal_ok (b : BnR) (hb : Bl b) (h0 : bnErr b = 0) (h6 : b.ms.length ≤ 6) (m : Mem) : Gives Try.prog 42 [.agg (bnV b)] m (gfV b) := by
  have hlm := mssV_length (l := b.ms)
  have hbd := bnd_ok (bn_ok h0)
  have hop := fun m => gopen_ok b hb h0 m
  have hn1 : ∀ k, k = b.ms.length → List.replicate k [V.int .i64 0] = nsV (List.replicate b.ms.length 0) := fun k h => by rw [h]; simp [nsV]
  have hgt := gtry_c b hbd (lend m ++ [.cells .own 25 2 [[.lst (mssV b.ms), .lst (adsV b.ads)]]]) b.ms.length 0 (tr0 b.ms.length) 0 (by simp [tr0]) (Nat.le_refl _) (by omega) (fun x hx => by rw [List.eq_of_mem_replicate hx]; decide) (by omega) (by simp [tr0]; omega) []
  have hbe := tr0_best b
  simp only [trB, tBx, tBb, tBf, cI, tBw, tBt, bqV, tr0, List.append_assoc, List.cons_append, List.nil_append, List.append_nil, List.length_append, List.length_cons, List.length_nil, Nat.zero_add, Nat.add_assoc, Nat.reduceAdd] at hgt
  simp only [tr0] at hbe
  unfold gfV
  generalize tryF b b.ms.length 0 ⟨List.replicate b.ms.length 0, none, b.ms.length + 1⟩ = s' at *
  rw [hbe] at hgt
  have hne := fun w (h : reW b = some w) => reW_ne h
  generalize reW b = RW at *
  suffices key : CallA Try.prog 42 [.agg (bnV b)] m (fun v mo => mo = none ∧ WkV v (gfO RW)) from Gives_of key fun v mo h => h
  unfold bnV at hop ⊢
  refine CallA_in Try.func42 rfl Try.ntmps42 Try.results42 (by kernel_rfl) (by simp) fun Q hQ => ?_
  (have FX := And.intro hlm hn1; repeat' (first | (refine sx ?_ ?_ <;> intro h <;> first | (exfalso; omega) | skip) | (refine g_op ?_; refine g_call ?_; refine g_args ?_; (first | refine s_fn (hop _) ?_) <;> try first | omega | assumption) | refine ny ?_ | refine WA_block ?_))
  all_goals (try (exfalso; omega))
  refine g_op ?_; refine g_dyn ?_; refine g_dargs ?_; refine s_fnA hgt (fun v mo hr => ?_)
  obtain ⟨ext, rfl⟩ := hr
  simp only [Option.getD_some]
  clear FX hop hgt
  have hop := hlm
  cases RW with
  | none =>
    unfold gfO at hQ
    dsimp only at hQ ⊢
    (have FX := And.intro hlm hn1; repeat' (first | (refine sx ?_ ?_ <;> intro h <;> first | (exfalso; omega) | skip) | (refine g_op ?_; refine g_call ?_; refine g_args ?_; (first | refine s_fn (hop _) ?_) <;> try first | omega | assumption) | refine ny ?_ | refine WA_block ?_))
    refine g_op ?_
    refine s_bin (v := .bool true) (vx := .nilsl) (vy := .nilsl) ?_ (hb := fun _ => b_nilT (by kernel_rfl))
    (have FX := And.intro hlm hn1; repeat' (first | (refine sx ?_ ?_ <;> intro h <;> first | (exfalso; omega) | skip) | (refine g_op ?_; refine g_call ?_; refine g_args ?_; (first | refine s_fn (hop _) ?_) <;> try first | omega | assumption) | refine ny ?_ | refine WA_block ?_))
    all_goals (try (exfalso; omega))
    all_goals (refine r_esA hQ (.inl ⟨rfl, rfl, WkV.refl _⟩))
  | some w =>
    obtain ⟨a, r, rfl⟩ := hne w rfl
    unfold gfO at hQ
    dsimp only at hQ ⊢
    (have FX := And.intro hlm hn1; repeat' (first | (refine sx ?_ ?_ <;> intro h <;> first | (exfalso; omega) | skip) | (refine g_op ?_; refine g_call ?_; refine g_args ?_; (first | refine s_fn (hop _) ?_) <;> try first | omega | assumption) | refine ny ?_ | refine WA_block ?_))
    refine g_op ?_
    refine s_bin (v := .bool false) (vx := .lst (nsV (a :: r))) (vy := .nilsl) ?_ (hb := fun _ => b_nilF (x := [V.int .i64 a]) (l := nsV r) (by kernel_rfl))
    (have FX := And.intro hlm hn1; repeat' (first | (refine sx ?_ ?_ <;> intro h <;> first | (exfalso; omega) | skip) | (refine g_op ?_; refine g_call ?_; refine g_args ?_; (first | refine s_fn (hop _) ?_) <;> try first | omega | assumption) | refine ny ?_ | refine WA_block ?_))
    all_goals (try (exfalso; omega))
    all_goals (refine r_esA hQ (fin_tpi (nsV_plain _) ⟨rfl, WkV.refl _⟩))
end Go.Proofs.Ytaoakololkcepaa
