/- contract: the order of adjustments, in the reference -/
import Derived.Test.YtaoakololkcepaaB22
import Derived.Test.YtaoakololkcepaaB19
set_option linter.unusedSimpArgs false
set_option linter.unusedVariables false
namespace Go.Proofs.Ytaoakololkcepaa
open Go.RowKit
attribute [local irreducible] WA WOs WDs WAn qThen qBlock tput
set_option maxHeartbeats 1000000
set_option maxRecDepth 20000
set_option linter.unusedSimpArgs false
set_option linter.unusedVariables false
set_option maxHeartbeats 4000000
/-- what is known of adjustments that are right -/
structure Aln (ads : List AdR) : Prop where
  fa : ads.length ≤ 12
  nw : ∀ i, i < ads.length → ¬ 0 ≤ fdx (isA (ads.getD i adz).name) (ads.take i)
  af : ∀ i, i < ads.length → (ads.getD i adz).after.length ≤ 12 ∧ ∀ k, k < (ads.getD i adz).after.length → 0 ≤ fdx (isA ((ads.getD i adz).after.getD k [])) ads
theorem aln_of {mm : List MsR} {ads : List AdR} (h0 : ads.length ≤ 12) (h : ∀ i, i < ads.length → adErr mm ads i = 0) : Aln ads where
  fa := h0
  nw := fun i hi => (ad_ok (h i hi)).nw
  af := fun i hi => by
    have h1 := (ad_ok (h i hi)).af
    unfold afErr at h1
    split at h1
    · simp at h1
    · refine ⟨by omega, fun k hk => ?_⟩
      have h2 := fE_zero.1 h1 k hk
      unfold afErrAt at h2
      split at h2
      · simp at h2
      · omega
theorem fdx_name {ads : List AdR} (h : Aln ads) {i : Nat} (hi : i < ads.length) : fdx (isA (ads.getD i adz).name) ads = i := by
  refine fdx_at hi (fun j hj => ?_) (decide_eq_true rfl)
  cases hc : isA (ads.getD i adz).name (ads.getD j adz) with
  | false => rfl
  | true =>
    have h1 := (fdx_in (f := isA (ads.getD i adz).name) (l := ads.take i) (d := adz) (i := j) (by rw [List.length_take]; omega) (by rw [getD_take hj]; exact hc)).1
    exact absurd h1 (h.nw i hi)
/-- a name is among those of some just if its adjustment is among them -/
theorem hasT_iff {ads : List AdR} (h : Aln ads) {out : List Nat} (ho : ∀ x ∈ out, x < ads.length) {s : Txt} {i : Nat} (hs : fdx (isA s) ads = (i : Int)) : hasT (outN ads out) s = decide (i ∈ out) := by
  rcases fdx_cases (isA s) ads adz with ⟨h1, _⟩ | ⟨k, hk, h1, h2, _⟩
  · omega
  · obtain rfl : k = i := by omega
    have hn : (ads.getD k adz).name = s := of_decide_eq_true h2
    by_cases hm : k ∈ out
    · rw [decide_eq_true hm]
      unfold hasT outN
      rw [List.any_eq_true]
      exact ⟨_, List.mem_map.2 ⟨k, hm, rfl⟩, decide_eq_true hn⟩
    · rw [decide_eq_false hm]
      unfold hasT outN
      rw [List.any_eq_false]
      intro t ht
      obtain ⟨x, hx, rfl⟩ := List.mem_map.1 ht
      intro hc
      have hc : (ads.getD x adz).name = s := of_decide_eq_true hc
      have h3 := fdx_name h (ho x hx)
      rw [hc] at h3
      have : x = k := by omega
      exact hm (this ▸ hx)
/-- .. as the reference asks it -/
def rdyI (ads : List AdR) (out : List Nat) (i : Nat) : Bool := !decide (i ∈ out) && (List.range (ads.getD i adz).after.length).all fun k => decide ((fdx (isA ((ads.getD i adz).after.getD k [])) ads).toNat ∈ out)
theorem rdyI_eq {ads : List AdR} (h : Aln ads) {out : List Nat} (ho : ∀ x ∈ out, x < ads.length) {i : Nat} (hi : i < ads.length) : rdyA (outN ads out) (ads.getD i adz) = rdyI ads out i := by
  unfold rdyA rdyI
  rw [hasT_iff h ho (fdx_name h hi)]
  congr 1
  have key : ∀ k, k < (ads.getD i adz).after.length → hasT (outN ads out) ((ads.getD i adz).after.getD k []) = decide ((fdx (isA ((ads.getD i adz).after.getD k [])) ads).toNat ∈ out) := fun k hk => by
    have := (h.af i hi).2 k hk
    exact hasT_iff h ho (by omega)
  generalize (ads.getD i adz).after = L at *
  rw [Bool.eq_iff_iff, List.all_eq_true, List.all_eq_true]
  constructor
  · intro h1 k hk
    rw [← key k (List.mem_range.1 hk)]
    exact h1 _ (by rw [List.getD_eq_getElem?_getD, List.getElem?_eq_getElem (List.mem_range.1 hk)]; exact List.getElem_mem _)
  · intro h1 s hs
    obtain ⟨k, hk, rfl⟩ := List.getElem_of_mem hs
    have h2 := key k hk
    rw [List.getD_eq_getElem?_getD, List.getElem?_eq_getElem hk] at h2
    have h3 := h1 k (List.mem_range.2 hk)
    rw [List.getD_eq_getElem?_getD, List.getElem?_eq_getElem hk] at h3
    exact h2.trans h3

theorem bhas_nil (n : Int) (m : Mem) : Gives Try.prog 114 [.nilsl, .int .i64 n] m (.bool false) := by
  have FX := n
  refine Gives_in Try.func114 rfl Try.ntmps114 Try.results114 (by kernel_rfl) (by simp) rfl fun Q hQ => ?_
  (repeat' (first | (refine sx ?_ ?_ <;> intro h <;> first | (exfalso; omega) | skip) | refine ny ?_ | refine WA_block ?_))
  refine WA_rounds 1 ?_
  (repeat' (first | (refine sx ?_ ?_ <;> intro h <;> first | (exfalso; omega) | skip) | refine ny ?_ | refine WA_block ?_))
  all_goals (try (exfalso; omega))
  all_goals ((refine r_es hQ ?_; try with_reducible rfl))
theorem fz_nuV {k : Nat} {l : List Nat} : frzV k (nuV l) (.sl k l.length) = .lst (nuV l) := by
  unfold frzV
  simp only []
  rw [if_pos ⟨trivial, by rw [nuV_length]; exact Nat.le_refl _⟩, List.take_of_length_le (by rw [nuV_length]; exact Nat.le_refl _)]
theorem bhas_s (l : List Nat) (n : Nat) (hl : l.length ≤ 1000) (q : Nat) (hq : q = l.length) (m : Mem) (k : Nat) {st : Sta} (hk : m[k]? = some (.cells st 3 1 (nuV l)) := by first | exact ev_ | fail) : Gives Try.prog 114 [.sl k q, .int .i64 n] m (.bool (decide (n ∈ l))) := by
  subst hq
  refine Gives_fz hk (by simp [V.flat]) ?_
  show Gives _ _ [frzV k (nuV l) (.sl k l.length), .int .i64 n] _ _
  rw [fz_nuV]
  exact bhas_c l n hl _
end Go.Proofs.Ytaoakololkcepaa
