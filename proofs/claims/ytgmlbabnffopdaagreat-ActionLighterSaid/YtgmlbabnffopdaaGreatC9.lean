/- contracts: slopes at a place; values and slopes in the reference -/
import Derived.Test.YtgmlbabnffopdaaGreatC8
set_option linter.unusedSimpArgs false
set_option linter.unusedVariables false
namespace Go.Proofs.YtgmlbabnffopdaaGreat
open Go.RowKit
attribute [local irreducible] WA WOs WDs WAn qThen qBlock tput
set_option maxHeartbeats 1000000
set_option maxRecDepth 20000
set_option linter.unusedSimpArgs false
set_option linter.unusedVariables false
attribute [local irreducible] smB cut sm
theorem uC9_48_5 {N : Nat} {l : List Oper} {t : List (Nat × V)} {m : Mem} {Q : Exit → List (Nat × V) → Mem → Prop} (h : RgT Tryz.prog N l t m Q 73 (fun i => if i == 12 then .w else if i == 11 then .f else if i == 1 || i == 4 || i == 6 || i == 10 then .q else .p) [.one 0, .one 1, .one 2, .one 3, .one 4, .one 5, .one 6, .one 7, .one 8, .one 9, .one 10, .one 11, .one 12]) : WA Tryz.prog N (.region 5 l.toArray true) t m Q := d_rgT h
theorem aslopeat_c (c : List Pt) (x : Rat) (hv : Valid c) (hx : sm x) (m : Mem) : Gives Tryz.prog 48 [.agg [.lst (ptsV c)], .agg [.int .i64 (Rat.num (x)), .int .i64 ((Rat.den (x) : Nat) : Int)]] m (.agg [.int .i64 (Rat.num (slopeE c x)), .int .i64 ((Rat.den (slopeE c x) : Nat) : Int)]) := by
  have hlen := ptsV_length (c := c)
  have hfew := hv.few
  have hp := hv.pos
  have hn := cnt_le c x
  have ht0 := hlen
  have hcz := hlen
  unfold slopeE
  simp only
  by_cases hz : cnt c x = 0 ∨ cnt c x = c.length
  · rw [if_pos hz]
    refine Gives_in Tryz.func48 rfl Tryz.ntmps48 Tryz.results48 (by kernel_rfl) (by simp) rfl fun Q hQ => ?_
    (have FX := And.intro hlen (And.intro ht0 hcz); repeat' (first | (refine sx ?_ ?_ <;> intro h <;> first | (exfalso; omega) | skip) | (refine g_op ?_; refine g_call ?_; refine g_args ?_; (first | refine s_fn (astretch_c c x hv hx _) ?_ | refine s_fn (awhole_c _ _) ?_) <;> try first | omega | assumption) | refine ny ?_ | refine WA_block ?_ | (refine uC9_48_5 ?_; refine ⟨by kernel_rfl, ?_⟩) | ((first | refine grp_cons (fun _ => astretch_c c x hv hx _) ?_ | refine grp_cons (fun _ => awhole_c _ _) ?_) <;> try first | omega | assumption) | (refine g_d ?_; refine d_args ?_; (first | refine d_fn (astretch_c c x hv hx _) ?_ | refine d_fn (awhole_c _ _) ?_ | refine d_fnQ (fun _ => astretch_c c x hv hx _) ?_ | refine d_fnQ (fun _ => awhole_c _ _) ?_) <;> try first | omega | assumption) | (refine g_d ?_; (first | refine d_fnY (astretch_c c x hv hx _) ?_ | refine d_fnY (awhole_c _ _) ?_) <;> try first | omega | assumption)))
    all_goals (try (exfalso; omega))
    all_goals (refine r_es hQ ?_; try with_reducible rfl)
    all_goals rfl
  · rw [if_neg hz]
    obtain ⟨i, hi⟩ : ∃ i, cnt c x = i + 1 := ⟨cnt c x - 1, by omega⟩
    have hgl := ptsV_get (c := c) (i := i) (by omega)
    have hgm := ptsV_get (c := c) (i := i + 1) (by omega)
    have s1 := hv.sm i (by omega)
    have s2 := hv.sm (i + 1) (by omega)
    have hsl := hv.sl i (by omega)
    have hup := hv.up i (by omega)
    unfold slN
    rw [hi, Nat.add_sub_cancel]
    obtain ⟨⟨u, v⟩, hu⟩ : ∃ p, at' c i = p := ⟨_, rfl⟩
    obtain ⟨⟨u2, v2⟩, hu2⟩ : ∃ p, at' c (i + 1) = p := ⟨_, rfl⟩
    rw [hu] at hgl s1 hsl hup ⊢
    rw [hu2] at hgm s2 hsl hup ⊢
    unfold ptV at hgl hgm
    dsimp only at hgl hgm s1 s2
    obtain ⟨z1, z2⟩ := slP_ok hsl hup false
    rw [← z1]
    have e0 : (cnt c x : Int) - 1 = (i : Int) := by omega
    have ht0 := And.intro e0 (And.intro (Int.toNat_natCast i) (show ((i : Int) + 1).toNat = i + 1 by omega))
    have hcz := And.intro hgl hgm
    refine Gives_in Tryz.func48 rfl Tryz.ntmps48 Tryz.results48 (by kernel_rfl) (by simp) rfl fun Q hQ => ?_
    (have FX := And.intro hlen (And.intro ht0 hcz); repeat' (first | (refine sx ?_ ?_ <;> intro h <;> first | (exfalso; omega) | skip) | (refine g_op ?_; refine g_call ?_; refine g_args ?_; (first | refine s_fn (astretch_c c x hv hx _) ?_ | refine s_fn (awhole_c _ _) ?_ | refine s_fnW (slope_w _ (u, v) (u2, v2) _ s1.1 s1.2 s2.1 s2.2) ?_) <;> try first | omega | assumption) | refine ny ?_ | refine WA_block ?_ | (refine uC9_48_5 ?_; refine ⟨by kernel_rfl, ?_⟩) | ((first | refine grp_cons (fun _ => astretch_c c x hv hx _) ?_ | refine grp_cons (fun _ => awhole_c _ _) ?_ | refine grp_w (slope_w _ (u, v) (u2, v2) _ s1.1 s1.2 s2.1 s2.2) ?_) <;> try first | omega | assumption) | (refine g_d ?_; refine d_args ?_; (first | refine d_fn (astretch_c c x hv hx _) ?_ | refine d_fn (awhole_c _ _) ?_ | refine d_fnW (slope_w _ (u, v) (u2, v2) _ s1.1 s1.2 s2.1 s2.2) ?_ | refine d_fnQ (fun _ => astretch_c c x hv hx _) ?_ | refine d_fnQ (fun _ => awhole_c _ _) ?_) <;> try first | omega | assumption) | (refine g_d ?_; (first | refine d_fnY (astretch_c c x hv hx _) ?_ | refine d_fnY (awhole_c _ _) ?_) <;> try first | omega | assumption)))
    all_goals (try (exfalso; omega))
    all_goals (refine r_es hQ ?_; try with_reducible rfl)

theorem atold_c (q : Rat) (g : Bool) (m : Mem) : Gives Tryz.prog 31 [.agg [.int .i64 (Rat.num (q)), .int .i64 ((Rat.den (q) : Nat) : Int)], .agg [.bool g]] m (if g = true then .tup [.agg [.int .i64 0, .int .i64 0], .int .i64 8] else .tup [.agg [.int .i64 (Rat.num (q)), .int .i64 ((Rat.den (q) : Nat) : Int)], .int .i64 0]) := by
  cases g
  · refine Gives_in Tryz.func31 rfl Tryz.ntmps31 Tryz.results31 (by kernel_rfl) (by simp) rfl fun Q hQ => ?_
    (repeat' (first | (refine sx ?_ ?_ <;> intro h <;> first | (exfalso; omega) | skip) | refine ny ?_ | refine WA_block ?_))
    all_goals ((refine r_es hQ ?_; try with_reducible rfl); rfl)
  · refine Gives_in Tryz.func31 rfl Tryz.ntmps31 Tryz.results31 (by kernel_rfl) (by simp) rfl fun Q hQ => ?_
    (repeat' (first | (refine sx ?_ ?_ <;> intro h <;> first | (exfalso; omega) | skip) | refine ny ?_ | refine WA_block ?_))
    all_goals ((refine r_es hQ ?_; try with_reducible rfl); rfl)
end Go.Proofs.YtgmlbabnffopdaaGreat
