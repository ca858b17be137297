/- contracts: parts and events by their names -/
import Derived.Test.YtgmlbabnffopdaaGreatYE
set_option linter.unusedSimpArgs false
set_option linter.unusedVariables false
namespace Go.Proofs.YtgmlbabnffopdaaGreat
open Go.RowKit
attribute [local irreducible] WA WOs WDs WAn qThen qBlock tput
set_option maxHeartbeats 1000000
set_option maxRecDepth 20000
set_option linter.unusedSimpArgs false
set_option linter.unusedVariables false
theorem lend_at_last (M : Mem) (b : Blk) : (lend M ++ [b])[(lend M).length]? = some b := by simp
def lSta : Sta → Sta
  | .ro => .ro
  | _ => .lent
theorem lend_get2 {M : Mem} {k : Nat} {st : Sta} {ty sz : Nat} {es : List (List V)} (h : M[k]? = some (.cells st ty sz es)) (X : Mem) : (lend M ++ X)[k]? = some (.cells (lSta st) ty sz es) := by
  have hlt : k < (lend M).length := by
    have := (List.getElem?_eq_some_iff.1 h).1
    simpa [lend] using this
  rw [List.getElem?_append_left hlt]
  simp only [lend, List.getElem?_map, h, Option.map_some]
  cases st <;> rfl

theorem afind1_c (p : PartR) (s : List UInt8) (M : Mem) (k : Nat) (st : Sta) (hk : M[k]? = some (.cells st 9 1 [[.str s]])) : Gives Tryz.prog 77 [.agg (prtV p), .ptr k 0 0] M (.bool (isP s p)) := by
  have hkl := lend_get2 hk
  unfold prtV
  refine Gives_in Tryz.func77 rfl Tryz.ntmps77 Tryz.results77 (by kernel_rfl) (by simp) rfl fun Q hQ => ?_
  (have FX := hkl; repeat' (first | (refine sx ?_ ?_ <;> intro h <;> first | (exfalso; omega) | skip) | refine ny ?_ | refine WA_block ?_))
  all_goals ((refine r_es hQ ?_; try with_reducible rfl))
  all_goals (unfold isP)
  all_goals (exact congrArg V.bool (by first | exact (decide_eq_true (by assumption)).symm | exact (decide_eq_false (by assumption)).symm))

theorem apartix_c (l : List PartR) (f : PartR → Bool) (k : Nat) (m : Mem) (hlb : l.length ≤ 1000) (hc : ∀ i, i < l.length → Gives Tryz.prog 77 [.agg (prtV (l.getD i p0)), .ptr k 0 0] (lend m ++ []) (.bool (f (l.getD i p0)))) : Gives Tryz.prog 76 [.lst (prtsV l), .clo (.func 77) [] [.ptr k 0 0]] m (.int .i64 (fidx f l)) := by
  have hlen := prtsV_length (l := l)
  have hget := hlen
  refine Gives_in Tryz.func76 rfl Tryz.ntmps76 Tryz.results76 (by kernel_rfl) (by simp) rfl fun Q hQ => ?_
  (have FX := And.intro hlen hget; repeat' (first | (refine sx ?_ ?_ <;> intro h <;> first | (exfalso; omega) | skip) | (refine g_op ?_; refine g_call ?_; refine g_args ?_; (first | refine s_fn (hcl ()) ?_) <;> try first | omega | assumption) | (refine g_op ?_; refine g_dyn ?_; refine g_dargs ?_; first | (refine s_fn (hcl ()) ?_ <;> try first | omega | assumption)) | refine ny ?_ | refine WA_block ?_))
  refine WA_while (σ := Nat) [0, 1, 6, 7, 8] (fun i => [.lst (prtsV l), .clo (.func 77) [] [.ptr k 0 0], .lst (prtsV l), .int .i64 l.length, .int .i64 i]) (fun _ => lend m ++ []) (fun i => i ≤ l.length ∧ ∀ j, j < i → f (l.getD j p0) = false) (fun i => l.length - i) 0 ⟨Nat.zero_le _, fun j h => absurd h (Nat.not_lt_zero _)⟩ tv_ rfl ?_
  rintro i ⟨hi, hj⟩ L hL
  simp only [zipT]
  clear FX
  rcases Nat.lt_or_ge i l.length with hlt | hge
  · have hget := prtsV_get hlt
    have hcl := fun (_ : Unit) => hc i hlt
    unfold prtV at hcl hget
    cases hf : f (l.getD i p0) with
    | true =>
      rw [hf] at hcl
      (have FX := And.intro hlen hget; repeat' (first | (refine sx ?_ ?_ <;> intro h <;> first | (exfalso; omega) | skip) | (refine g_op ?_; refine g_call ?_; refine g_args ?_; (first | refine s_fn (hcl ()) ?_) <;> try first | omega | assumption) | (refine g_op ?_; refine g_dyn ?_; refine g_dargs ?_; first | (refine s_fn (hcl ()) ?_ <;> try first | omega | assumption)) | refine ny ?_ | refine WA_block ?_))
      all_goals (try (exfalso; omega))
      all_goals ((refine r_es hQ ?_; try with_reducible rfl))
      all_goals (exact congrArg (V.int .i64) (fidx_at hlt hj hf).symm)
    | false =>
      rw [hf] at hcl
      (have FX := And.intro hlen hget; repeat' (first | (refine sx ?_ ?_ <;> intro h <;> first | (exfalso; omega) | skip) | (refine g_op ?_; refine g_call ?_; refine g_args ?_; (first | refine s_fn (hcl ()) ?_) <;> try first | omega | assumption) | (refine g_op ?_; refine g_dyn ?_; refine g_dargs ?_; first | (refine s_fn (hcl ()) ?_ <;> try first | omega | assumption)) | refine ny ?_ | refine WA_block ?_))
      all_goals (try (exfalso; omega))
      all_goals (refine next_ hL (i + 1) ⟨by omega, fun j h => ?_⟩ (by omega))
      all_goals (rcases Nat.lt_or_ge j i with h2 | h2)
      all_goals first
        | exact hj j h2
        | (obtain rfl : j = i := by omega
           exact hf)
  · have e : i = l.length := by omega
    subst e
    have hcl := fun (_ : Unit) => True
    (have FX := And.intro hlen hget; repeat' (first | (refine sx ?_ ?_ <;> intro h <;> first | (exfalso; omega) | skip) | (refine g_op ?_; refine g_call ?_; refine g_args ?_; (first | refine s_fn (hcl ()) ?_) <;> try first | omega | assumption) | (refine g_op ?_; refine g_dyn ?_; refine g_dargs ?_; first | (refine s_fn (hcl ()) ?_ <;> try first | omega | assumption)) | refine ny ?_ | refine WA_block ?_))
    all_goals (try (exfalso; omega))
    all_goals ((refine r_es hQ ?_; try with_reducible rfl))
    all_goals (exact congrArg (V.int .i64) (fidx_no hj).symm)

theorem afind_c (l : List PartR) (s : List UInt8) (m : Mem) (hlb : l.length ≤ 1000) : Gives Tryz.prog 60 [.lst (prtsV l), .str s] m (.int .i64 (fidx (isP s) l)) := by
  refine Gives_in Tryz.func60 rfl Tryz.ntmps60 Tryz.results60 (by kernel_rfl) (by simp) rfl fun Q hQ => ?_
  (repeat' (first | (refine sx ?_ ?_ <;> intro h <;> first | (exfalso; omega) | skip) | (refine g_op ?_; refine g_call ?_; refine g_args ?_; (first | refine s_fn (apartix_c l (isP s) _ _ hlb (fun i hi => afind1_c _ s _ _ _ (lend_get2 (lend_at_last _ _) []))) ?_) <;> try first | omega | assumption) | refine ny ?_ | refine WA_block ?_))
  all_goals try exact lend_get2 (st := .lent) (lend_at_last _ _) []
  all_goals ((refine r_es hQ ?_; try with_reducible rfl))

theorem afindev1_c (p : EvR) (s : List UInt8) (M : Mem) (k : Nat) (st : Sta) (hk : M[k]? = some (.cells st 9 1 [[.str s]])) : Gives Tryz.prog 75 [.agg (evV p), .ptr k 0 0] M (.bool (isE s p)) := by
  have hkl := lend_get2 hk
  unfold evV
  refine Gives_in Tryz.func75 rfl Tryz.ntmps75 Tryz.results75 (by kernel_rfl) (by simp) rfl fun Q hQ => ?_
  (have FX := hkl; repeat' (first | (refine sx ?_ ?_ <;> intro h <;> first | (exfalso; omega) | skip) | refine ny ?_ | refine WA_block ?_))
  all_goals ((refine r_es hQ ?_; try with_reducible rfl))
  all_goals (unfold isE)
  all_goals (exact congrArg V.bool (by first | exact (decide_eq_true (by assumption)).symm | exact (decide_eq_false (by assumption)).symm))

theorem aevix_c (l : List EvR) (f : EvR → Bool) (k : Nat) (m : Mem) (hlb : l.length ≤ 1000) (hc : ∀ i, i < l.length → Gives Tryz.prog 75 [.agg (evV (l.getD i e0)), .ptr k 0 0] (lend m ++ []) (.bool (f (l.getD i e0)))) : Gives Tryz.prog 74 [.lst (evsV l), .clo (.func 75) [] [.ptr k 0 0]] m (.int .i64 (fidx f l)) := by
  have hlen := evsV_length (l := l)
  have hget := hlen
  refine Gives_in Tryz.func74 rfl Tryz.ntmps74 Tryz.results74 (by kernel_rfl) (by simp) rfl fun Q hQ => ?_
  (have FX := And.intro hlen hget; repeat' (first | (refine sx ?_ ?_ <;> intro h <;> first | (exfalso; omega) | skip) | (refine g_op ?_; refine g_call ?_; refine g_args ?_; (first | refine s_fn (hcl ()) ?_) <;> try first | omega | assumption) | (refine g_op ?_; refine g_dyn ?_; refine g_dargs ?_; first | (refine s_fn (hcl ()) ?_ <;> try first | omega | assumption)) | refine ny ?_ | refine WA_block ?_))
  refine WA_while (σ := Nat) [0, 1, 6, 7, 8] (fun i => [.lst (evsV l), .clo (.func 75) [] [.ptr k 0 0], .lst (evsV l), .int .i64 l.length, .int .i64 i]) (fun _ => lend m ++ []) (fun i => i ≤ l.length ∧ ∀ j, j < i → f (l.getD j e0) = false) (fun i => l.length - i) 0 ⟨Nat.zero_le _, fun j h => absurd h (Nat.not_lt_zero _)⟩ tv_ rfl ?_
  rintro i ⟨hi, hj⟩ L hL
  simp only [zipT]
  clear FX
  rcases Nat.lt_or_ge i l.length with hlt | hge
  · have hget := evsV_get hlt
    have hcl := fun (_ : Unit) => hc i hlt
    unfold evV at hcl hget
    cases hf : f (l.getD i e0) with
    | true =>
      rw [hf] at hcl
      (have FX := And.intro hlen hget; repeat' (first | (refine sx ?_ ?_ <;> intro h <;> first | (exfalso; omega) | skip) | (refine g_op ?_; refine g_call ?_; refine g_args ?_; (first | refine s_fn (hcl ()) ?_) <;> try first | omega | assumption) | (refine g_op ?_; refine g_dyn ?_; refine g_dargs ?_; first | (refine s_fn (hcl ()) ?_ <;> try first | omega | assumption)) | refine ny ?_ | refine WA_block ?_))
      all_goals (try (exfalso; omega))
      all_goals ((refine r_es hQ ?_; try with_reducible rfl))
      all_goals (exact congrArg (V.int .i64) (fidx_at hlt hj hf).symm)
    | false =>
      rw [hf] at hcl
      (have FX := And.intro hlen hget; repeat' (first | (refine sx ?_ ?_ <;> intro h <;> first | (exfalso; omega) | skip) | (refine g_op ?_; refine g_call ?_; refine g_args ?_; (first | refine s_fn (hcl ()) ?_) <;> try first | omega | assumption) | (refine g_op ?_; refine g_dyn ?_; refine g_dargs ?_; first | (refine s_fn (hcl ()) ?_ <;> try first | omega | assumption)) | refine ny ?_ | refine WA_block ?_))
      all_goals (try (exfalso; omega))
      all_goals (refine next_ hL (i + 1) ⟨by omega, fun j h => ?_⟩ (by omega))
      all_goals (rcases Nat.lt_or_ge j i with h2 | h2)
      all_goals first
        | exact hj j h2
        | (obtain rfl : j = i := by omega
           exact hf)
  · have e : i = l.length := by omega
    subst e
    have hcl := fun (_ : Unit) => True
    (have FX := And.intro hlen hget; repeat' (first | (refine sx ?_ ?_ <;> intro h <;> first | (exfalso; omega) | skip) | (refine g_op ?_; refine g_call ?_; refine g_args ?_; (first | refine s_fn (hcl ()) ?_) <;> try first | omega | assumption) | (refine g_op ?_; refine g_dyn ?_; refine g_dargs ?_; first | (refine s_fn (hcl ()) ?_ <;> try first | omega | assumption)) | refine ny ?_ | refine WA_block ?_))
    all_goals (try (exfalso; omega))
    all_goals ((refine r_es hQ ?_; try with_reducible rfl))
    all_goals (exact congrArg (V.int .i64) (fidx_no hj).symm)

theorem afindev_c (l : List EvR) (s : List UInt8) (m : Mem) (hlb : l.length ≤ 1000) : Gives Tryz.prog 59 [.lst (evsV l), .str s] m (.int .i64 (fidx (isE s) l)) := by
  refine Gives_in Tryz.func59 rfl Tryz.ntmps59 Tryz.results59 (by kernel_rfl) (by simp) rfl fun Q hQ => ?_
  (repeat' (first | (refine sx ?_ ?_ <;> intro h <;> first | (exfalso; omega) | skip) | (refine g_op ?_; refine g_call ?_; refine g_args ?_; (first | refine s_fn (aevix_c l (isE s) _ _ hlb (fun i hi => afindev1_c _ s _ _ _ (lend_get2 (lend_at_last _ _) []))) ?_) <;> try first | omega | assumption) | refine ny ?_ | refine WA_block ?_))
  all_goals try exact lend_get2 (st := .lent) (lend_at_last _ _) []
  all_goals ((refine r_es hQ ?_; try with_reducible rfl))
end Go.Proofs.YtgmlbabnffopdaaGreat
