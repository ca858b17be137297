/- arguments that are curves, fractions and actions -/
import Derived.Test.YtgmlbabnffopdaaGreatYC
import Derived.Test.YtgmlbabnffopdaaGreatYE
set_option linter.unusedSimpArgs false
set_option linter.unusedVariables false
namespace Go.Proofs.YtgmlbabnffopdaaGreat
open Go.RowKit
def I64 (n : Int) : Prop := -9223372036854775808 ≤ n ∧ n ≤ 9223372036854775807
theorem okfr {cs : List V} (h : OkcL [.int .i64, .int .i64] cs) : ∃ a b : Int, cs = [.int .i64 a, .int .i64 b] ∧ I64 a ∧ I64 b := by
  obtain ⟨a, _, rfl, ha, h⟩ := okcL_int h
  obtain ⟨b, _, rfl, hb, h⟩ := okcL_int h
  obtain rfl := okcL_nil h
  rw [i64min, i64max'] at ha hb
  exact ⟨a, b, rfl, ha, hb⟩
abbrev TyFr : Ty := .agg [.int .i64, .int .i64]
abbrev TyKn : Ty := .agg [TyFr, TyFr]
theorem oks_rks {es : List (List V)} (h : ∀ x ∈ es, Okc TyKn x) : ∃ l : List Rk, es = rksV l := by
  have key : ∀ x, Okc TyKn x → ∃ a : Rk, x = rkV a ∧ True := by
    intro x hx
    obtain ⟨p, q, rfl, hp, hq⟩ := okcL_agg (show OkcL _ x from hx)
    obtain ⟨q1, q', rfl, hq1, hq'⟩ := okcL_agg hq
    obtain rfl := okcL_nil hq'
    obtain ⟨a, b, rfl, _, _⟩ := okfr hp
    obtain ⟨c, d, rfl, _, _⟩ := okfr hq1
    exact ⟨((a, b), (c, d)), rfl, trivial⟩
  obtain ⟨l, h1, _⟩ := oks_map key h
  exact ⟨l, h1⟩
theorem okcv {cs : List V} (h : OkcL [.sl TyKn] cs) : ∃ l : List Rk, cs = [.lst (rksV l)] := by
  obtain ⟨c, q, rfl, hp, hq⟩ := h
  obtain rfl := okcL_nil hq
  obtain ⟨es, rfl, _, h2⟩ := hp
  obtain ⟨l, rfl⟩ := oks_rks h2
  exact ⟨l, rfl⟩
abbrev TyPt : Ty := .agg [.str, .str, .agg [.sl TyKn], .int .i64, .int .i64]
abbrev TyEv : Ty := .agg [.str, .str, .int .i64, .bool]
abbrev TyLd : Ty := .agg [.int .i64, .int .i64]
theorem oks_parts {es : List (List V)} (h : ∀ x ∈ es, Okc TyPt x) : ∃ l : List PartR, es = prtsV l := by
  have key : ∀ x, Okc TyPt x → ∃ a : PartR, x = prtV a ∧ True := by
    intro x hx
    obtain ⟨p1, q1, rfl, ⟨s, rfl, _⟩, g1⟩ := (show OkcL _ x from hx)
    obtain ⟨p2, q2, rfl, ⟨t, rfl, _⟩, g2⟩ := g1
    obtain ⟨p3, q3, rfl, hp, g3⟩ := okcL_agg g2
    obtain ⟨l, rfl⟩ := okcv hp
    obtain ⟨a, _, rfl, _, g4⟩ := okcL_int g3
    obtain ⟨b, _, rfl, _, g5⟩ := okcL_int g4
    obtain rfl := okcL_nil g5
    exact ⟨⟨s, t, l, a, b⟩, rfl, trivial⟩
  obtain ⟨l, h1, _⟩ := oks_map key h
  exact ⟨l, h1⟩
theorem oks_evs {es : List (List V)} (h : ∀ x ∈ es, Okc TyEv x) : ∃ l : List EvR, es = evsV l := by
  have key : ∀ x, Okc TyEv x → ∃ a : EvR, x = evV a ∧ True := by
    intro x hx
    obtain ⟨p1, q1, rfl, ⟨s, rfl, _⟩, g1⟩ := (show OkcL _ x from hx)
    obtain ⟨p2, q2, rfl, ⟨t, rfl, _⟩, g2⟩ := g1
    obtain ⟨a, _, rfl, _, g3⟩ := okcL_int g2
    obtain ⟨p3, q3, rfl, ⟨b, rfl⟩, g4⟩ := g3
    obtain rfl := okcL_nil g4
    exact ⟨⟨s, t, a, b⟩, rfl, trivial⟩
  obtain ⟨l, h1, _⟩ := oks_map key h
  exact ⟨l, h1⟩
theorem oks_lds {es : List (List V)} (h : ∀ x ∈ es, Okc TyLd x) : ∃ l : List (Int × Int), es = ldsV l := by
  obtain ⟨l, h1, _⟩ := oks_pairs h
  exact ⟨l, h1⟩
abbrev TyAc : List Ty := [.int .i64, .sl TyPt, .sl TyEv, .sl TyLd]
theorem okact {cs : List V} (h : OkcL TyAc cs) : ∃ a : ActR, cs = actV a := by
  obtain ⟨d, _, rfl, _, g1⟩ := okcL_int h
  obtain ⟨p1, q1, rfl, ⟨es, rfl, _, h1⟩, g2⟩ := g1
  obtain ⟨p2, q2, rfl, ⟨vs, rfl, _, h2⟩, g3⟩ := g2
  obtain ⟨p3, q3, rfl, ⟨ls, rfl, _, h3⟩, g4⟩ := g3
  obtain rfl := okcL_nil g4
  obtain ⟨l, rfl⟩ := oks_parts h1
  obtain ⟨e, rfl⟩ := oks_evs h2
  obtain ⟨k, rfl⟩ := oks_lds h3
  exact ⟨⟨d, l, e, k⟩, rfl⟩
end Go.Proofs.YtgmlbabnffopdaaGreat
