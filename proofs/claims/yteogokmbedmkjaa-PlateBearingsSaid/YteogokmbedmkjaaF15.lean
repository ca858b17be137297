import Derived.Test.YteogokmbedmkjaaF14
/- all operations together -/
namespace Go.Proofs.Yteogokmbedmkjaa
open Go.RowKit

theorem evA_sound {P : Program} {w : World} {ρ : List Re} {m : Mem} {a : Act} {t : List (Nat × V)} {o : Oper} {v : V} {m' : Mem} {p : Prop}
    (hM : RelM w ρ m) (hT : RelT w ρ m t a) (h : evA P t m o.op = some (p, v, m')) (hp : p) : OpOk P w ρ m a o v m' := by
  have base : evOp P t m o.op = some (p, v, m') → OpOk P w ρ m a o v m' := by
    intro h
    cases ho : o.op <;> rw [ho] at h
    case move x => cases h; exact sound_move hM hT (.inl ho)
    case assign x => cases h; exact sound_move hM hT (.inr ho)
    case pick c x y =>
      simp only [evOp] at h
      split at h
      · rename_i b hb
        cases h
        exact sound_pick hM hT ho hb
      · cases h
    case alloc T => exact sound_alloc hM ho h
    case box T x => exact sound_box hM hT ho h
    case build T parts => exact sound_build hM hT ho h
    case load T x => exact sound_load hM hT ho h
    case store T x y => exact sound_store hM hT ho h
    case binOp op T x y T' => exact sound_bin hM hT ho h hp
    case unOp op T x => exact sound_un hM hT ho h
    case extract x i => exact sound_extract hM hT ho h
    case fieldAddr T x j => exact sound_fieldAddr hM hT ho h
    case field T x j => exact sound_field hM hT ho h
    case indexAddr T x ix => exact sound_indexAddr hM hT ho h hp
    case index T x ix => exact sound_index hM hT ho h hp
    case makeFunc fn f c => cases h; exact sound_makeFunc hM hT ho
    all_goals cases h
  unfold evA at h
  split at h
  · rename_i T l c ho
    exact sound_makeSlice hM hT ho h hp
  · rename_i T n parts ho
    exact sound_buildSlice hM hT ho h
  · rename_i T x lo hi ho
    split at h
    · rename_i p' v' hs
      cases h
      exact sound_strSlice hM hT ho hs hp
    · exact sound_slice hM hT ho h hp
  · rename_i S D x ho
    split at h
    · rename_i k0 k n h1 h2 h3
      cases h
      exact sound_convert hM hT ho h2 h3 h1
    · cases h
  · rename_i x T ho
    simp only [okO] at h
    split at h
    · rename_i u hu; cases h; exact sound_len hM hT ho hu
    · cases h
  · rename_i x y ts ho
    simp only [okO] at h
    split at h
    · rename_i u hu; cases h; exact sound_max hM hT ho hu
    · cases h
  · rename_i x y ts ho
    simp only [okO] at h
    split at h
    · rename_i u hu; cases h; exact sound_min hM hT ho hu
    · cases h
  · rename_i s x T T' ho
    split at h
    · rename_i e
      subst e
      exact sound_append hM hT ho h hp
    · cases h
  · rename_i op T x y T' ho
    split at h
    · rename_i u hu
      cases h
      obtain ⟨z, hr, hv⟩ := evEq_sound (P := P) (X := x) (Y := y) hu (evO_rel hT x) (evO_rel hT y)
      refine opok_pure hM (x := z) ?_ hv
      simp only [execOp, ho]
      exact run_v hr
    · exact base (by rw [ho]; exact h)
  · exact base h
end Go.Proofs.Yteogokmbedmkjaa
