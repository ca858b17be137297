/- arguments that are lists of forces -/
import Derived.Test.YteogokmbedmkjaaYC
import Derived.Test.YteogokmbedmkjaaG31
namespace Go.Proofs.Yteogokmbedmkjaa
open Go.RowKit
theorem oks_pls {es : List (List V)} (h : ∀ x ∈ es, Okc (.agg [.agg [.int .i64, .int .i64, .int .i64], .agg [.int .i64, .int .i64, .int .i64]]) x) : ∃ l : List Pl, es = plsV l := by
  have key : ∀ x, Okc (.agg [.agg [.int .i64, .int .i64, .int .i64], .agg [.int .i64, .int .i64, .int .i64]]) x → ∃ a : Pl, x = plV a ∧ True := by
    intro x hx
    obtain ⟨p, q, rfl, hp, hq⟩ := okcL_agg (show OkcL _ x from hx)
    obtain ⟨q1, q', rfl, hq1, hq'⟩ := okcL_agg hq
    obtain rfl := okcL_nil hq'
    obtain ⟨a, _, rfl, _, hp⟩ := okcL_int hp
    obtain ⟨b, _, rfl, _, hp⟩ := okcL_int hp
    obtain ⟨c, _, rfl, _, hp⟩ := okcL_int hp
    obtain rfl := okcL_nil hp
    obtain ⟨x, _, rfl, _, hq1⟩ := okcL_int hq1
    obtain ⟨y, _, rfl, _, hq1⟩ := okcL_int hq1
    obtain ⟨z, _, rfl, _, hq1⟩ := okcL_int hq1
    obtain rfl := okcL_nil hq1
    exact ⟨⟨a, b, c, x, y, z⟩, rfl, trivial⟩
  obtain ⟨l, h1, _⟩ := oks_map key h
  exact ⟨l, h1⟩
theorem okv3 {cs : List V} (h : OkcL [.int .i64, .int .i64, .int .i64] cs) : ∃ a b c : Int, cs = [.int .i64 a, .int .i64 b, .int .i64 c] ∧ (-9223372036854775808 ≤ a ∧ a ≤ 9223372036854775807) ∧ (-9223372036854775808 ≤ b ∧ b ≤ 9223372036854775807) ∧ (-9223372036854775808 ≤ c ∧ c ≤ 9223372036854775807) := by
  obtain ⟨a, _, rfl, ha, h⟩ := okcL_int h
  obtain ⟨b, _, rfl, hb, h⟩ := okcL_int h
  obtain ⟨c, _, rfl, hc, h⟩ := okcL_int h
  obtain rfl := okcL_nil h
  rw [i64min, i64max'] at ha hb hc
  exact ⟨a, b, c, rfl, ha, hb, hc⟩
end Go.Proofs.Yteogokmbedmkjaa
