/- contracts: the bench behind steps; cuts -/
import Derived.Test.YtaoakololkcepaaB58
import Derived.Test.YtaoakololkcepaaB59
import Derived.Test.YtaoakololkcepaaB44
set_option linter.unusedSimpArgs false
set_option linter.unusedVariables false
namespace Go.Proofs.Ytaoakololkcepaa
open Go.RowKit
section
variable {P : Program} {N : Nat} {t : List (Nat × V)} {m : Mem}
/-- slots and blocks as they are told, from here on -/
theorem WA_ren {c : Code} {Q : Exit → List (Nat × V) → Mem → Prop} {L : Mem} {ks : List Nat} {vs : List TV} {Ts : List TB} {js : List Nat} (hE : RoundEndT L ks vs Ts js t m) (hks : ks.Nodup) (hst : vs.all (TV.okT Ts.length) = true) (hf : Ts.all (TB.ok Ts.length) = true)
    (h : ∀ B : Mem, (∃ D, B = L ++ D) → WA P N c (zipT ks (vs.map (TV.inst fun i => B.length + i))) (B ++ Ts.map (TB.inst fun i => B.length + i)) Q) : WA P N c t m Q := by
  obtain ⟨X, rfl, e2, e3, e4⟩ := hE
  intro F hF z w ρ a hR
  have hl : js.length = Ts.length := by simpa using congrArg List.length e3
  have hb : ∀ (i j : Nat), js[i]? = some j → X[j]? = (Ts[i]?).map (TB.inst fun i => L.length + js.getD i 0) := by
    intro i j h
    have hi : i < Ts.length := by rw [← hl]; exact (List.getElem?_eq_some_iff.1 h).1
    have := congrArg (fun l => l[i]?) e3
    simp only [List.getElem?_map, h, Option.map_some] at this
    rw [List.getElem?_eq_getElem hi] at this ⊢
    simpa using this
  obtain ⟨ρ'', hM'', af'', hn''⟩ := renormT hR.mem hl e4 hb rfl hf
  have hR2 : Rel N ⟨z, F.round⟩ w ρ'' ((L ++ deadB X) ++ Ts.map (TB.inst fun i => (L ++ deadB X).length + i)) (zipT ks (vs.map (TV.inst fun i => (L ++ deadB X).length + i))) a := by
    refine ⟨hM'', fun i => ?_, hR.size, hR.defers.after af''⟩
    rcases zipT_at ks (vs.map (TV.inst fun i => (L ++ deadB X).length + i)) i with h | ⟨p, p1, p2⟩
    · rw [h]; exact .any _
    · rw [List.getElem?_map, Option.map_eq_some_iff] at p2
      obtain ⟨tv, q1, q2⟩ := p2
      rw [← q2]
      have hv : tget t i = TV.inst (fun i => L.length + js.getD i 0) tv := by
        have := congrArg (fun l => l[p]?) e2
        simpa [List.getElem?_map, p1, q1] using this
      have hx := hR.tm i
      rw [hv] at hx
      have hok := List.all_eq_true.1 hst tv (List.mem_of_getElem? q1)
      exact tv_ren (fun k hk h => af''.bd k hk h) af''.pre hn'' hl hok hx
  exact wpIn_mono (h (L ++ deadB X) ⟨deadB X, rfl⟩ F hF z w ρ'' a hR2) fun e a' w' h => h.trans af''
end
attribute [local irreducible] WA WOs WDs WAn qThen qBlock tput
set_option maxHeartbeats 1000000
set_option maxRecDepth 20000
set_option linter.unusedSimpArgs false
set_option linter.unusedVariables false
theorem gApply_ok (b : BnR) (hb : Bl b) (l : List Int) (h0 : bsErr b l = 0) (m : Mem) : Gives Try.prog 29 [.agg (bnV b), .lst (nsV l)] m (.tup [.agg (bnV (apR b l)), .int .i64 (apE b l)]) := by
  by_cases h : b.ms = []
  · exact gApply_nil b hb l h0 h m
  · exact gApply_cons b hb l h0 h m
def nlV : V → V
  | .nilsl => .lst []
  | v => v
theorem nlV_rel {w : World} {ρ : List Re} {B : Nat → Prop} {v : V} {x : Value} (h : RelV w ρ B v x) : RelV w ρ B (nlV v) x := by
  unfold nlV
  split
  · cases h
    exact .lnil none 0 (by unfold maxLen; omega) (fun _ => rfl)
  · exact h
theorem WA_nl {P : Program} {N : Nat} {t : List (Nat × V)} {m : Mem} {c : Code} {Q : Exit → List (Nat × V) → Mem → Prop} (h : WA P N c (t.map fun p => (p.1, nlV p.2)) m Q) : WA P N c t m Q := by
  unfold WA at h ⊢
  intro F hF z w ρ a hR
  have e : ∀ (t : List (Nat × V)) i, tget (t.map fun p => (p.1, nlV p.2)) i = nlV (tget t i) := by
    intro t i
    induction t with
    | nil => rfl
    | cons p r ih =>
      simp only [List.map_cons, tget]
      split
      · rfl
      · exact ih
  exact h F hF z w ρ a ⟨hR.mem, fun i => by rw [e]; exact nlV_rel (hR.tm i), hR.size, hR.defers⟩
/-- behind a piece of code, slots and blocks as they are told; on the way there the walk may be turned -/
theorem WA_cutF {P : Program} {N : Nat} {t : List (Nat × V)} {m : Mem} {x y : Code} {Q : Exit → List (Nat × V) → Mem → Prop} {L : Mem} (ks : List Nat) (st : List TV) (E : List TB) (hks : ks.Nodup) (hst : st.all (TV.okT E.length) = true) (hf : E.all (TB.ok E.length) = true)
    (h2 : ∀ B : Mem, (∃ D, B = L ++ D) → WA P N y (zipT ks (st.map (TV.inst fun i => B.length + i))) (B ++ E.map (TB.inst fun i => B.length + i)) Q)
    (h1 : ∀ (y : Code) (K : List (Nat × V) → Mem → Prop), (∀ t m, WA P N y t m Q → K t m) → (∀ js t' m', RoundEndT L ks st E js t' m' → WA P N y t' m' Q) → WA P N x t m (qThen K Q)) : WA P N (.seq x y) t m Q := by
  refine WA_seq' (WA_mono (h1 y (fun t m => WA P N y t m Q) (fun _ _ h => h) fun js t m h => WA_ren h hks hst hf h2) fun e t m h => ?_)
  cases e with
  | normal => exact h
  | _ => exact h
end Go.Proofs.Ytaoakololkcepaa
