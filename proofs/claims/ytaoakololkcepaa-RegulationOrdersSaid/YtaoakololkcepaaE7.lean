/- arguments that are plans -/
import Derived.Test.YtaoakololkcepaaE6
import Derived.Test.YtaoakololkcepaaBP
set_option linter.unusedSimpArgs false
set_option linter.unusedVariables false
namespace Go.Proofs.Ytaoakololkcepaa
open Go.RowKit
theorem okpls {es : List (List V)} (h : ∀ x ∈ es, Okc (.sl TySt) x) : ∃ l : List (List StR), es = plV l := by
  induction es with
  | nil => exact ⟨[], rfl⟩
  | cons x xs ih =>
    obtain ⟨o, rfl⟩ := ih fun y hy => h y (List.mem_cons_of_mem _ hy)
    obtain ⟨vs, rfl, _, h2⟩ := h x List.mem_cons_self
    obtain ⟨p, rfl⟩ := oksts h2
    exact ⟨p :: o, rfl⟩
end Go.Proofs.Ytaoakololkcepaa
