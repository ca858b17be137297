/- pieces of code in a row, behind which slots and blocks are as told -/
import Derived.Test.YtbcjcbcakcdnfaaGreatNG
set_option linter.unusedSimpArgs false
set_option linter.unusedVariables false
namespace Go.Proofs.YtbcjcbcakcdnfaaGreat
open Go.RowKit
section
variable {P : Program} {N : Nat} {t : List (Nat × V)} {m : Mem}
def seqs : List Code → Code → Code
  | [], y => y
  | c :: cs, y => .seq c (seqs cs y)
def WAc (P : Program) (N : Nat) (K : List (Nat × V) → Mem → Prop) (Q : Exit → List (Nat × V) → Mem → Prop) : List Code → List (Nat × V) → Mem → Prop
  | [], t, m => K t m
  | c :: cs, t, m => WA P N c t m (qThen (fun t m => WAc P N K Q cs t m) Q)
theorem WAc_sound {K : List (Nat × V) → Mem → Prop} {Q : Exit → List (Nat × V) → Mem → Prop} {y : Code} (hk : ∀ t m, K t m → WA P N y t m Q) : ∀ (cs : List Code) {t : List (Nat × V)} {m : Mem}, WAc P N K Q cs t m → WA P N (seqs cs y) t m Q
  | [], _, _, h => hk _ _ h
  | c :: cs, _, _, h => WA_seq' (WA_mono h fun e t m hq => by
      cases e with
      | normal => exact WAc_sound hk cs hq
      | _ => exact hq)
theorem WA_cutC {Q : Exit → List (Nat × V) → Mem → Prop} {σ : Type} {L : Mem} (cs : List Code) {y : Code} (ks : List Nat) (st : σ → List TV) (E : σ → List TB) (inv : σ → Prop) (hks : ks.Nodup) (hst : ∀ s, inv s → (st s).all (TV.okT (E s).length) = true) (hf : ∀ s, inv s → (E s).all (TB.ok (E s).length) = true)
    (h1 : ∀ K : List (Nat × V) → Mem → Prop, (∀ s' js t' m', RoundEndT L ks (st s') (E s') js t' m' → inv s' → True → K t' m') → WAc P N K Q cs t m)
    (h2 : ∀ s, inv s → ∀ B : Mem, (∃ D, B = L ++ D) → WA P N y (zipT ks ((st s).map (TV.inst fun i => B.length + i))) (B ++ (E s).map (TB.inst fun i => B.length + i)) Q) : WA P N (seqs cs y) t m Q := by
  refine WAc_sound (K := fun t m => ∃ s js, RoundEndT L ks (st s) (E s) js t m ∧ inv s) ?_ cs (h1 _ fun s js t m h hi _ => ⟨s, js, h, hi⟩)
  rintro t m ⟨s, js, h, hi⟩
  exact WA_ren h hks (hst s hi) (hf s hi) (h2 s hi)
end
end Go.Proofs.YtbcjcbcakcdnfaaGreat
