/- The law TopLeadsWork holds: whatever the input, it answers true, and the input reads as it did. The tables of the bits are tied to the program's text. No condition. -/
import Derived.Test.YtihbeoplchiikaaDoorCards
import Derived.Test.YtihbeoplchiikaaDoorTie
import Derived.Test.YtihbeoplchiikaaDoorGE
import Derived.Test.YtihbeoplchiikaaDoorH21
import Derived.SevenTiedAt
set_option linter.unusedSimpArgs false
set_option linter.unusedVariables false
namespace Go.Proofs.YtihbeoplchiikaaDoor
open Go.RowKit Go.ChangeShapes Go.WideShapes Go.ChangeAt
theorem topLeadsWork_tys : tysOf Tryd.prog Tryd.f3.params.toList = some [.agg TyAc, .sl TyLd, .agg [.int .i64, .int .i64]] := by kernel_rfl
theorem topLeadsWork_in (us : List V) (h : OkVs [.agg TyAc, .sl TyLd, .agg [.int .i64, .int .i64]] us) : Gives Tryd.prog 3 us [] (.bool true) := by
  obtain ⟨c0, uc0, rfl, hc0, h⟩ := okVs_agg h
  obtain ⟨c1, uc1, rfl, ⟨_, hc1⟩, h⟩ := okVs_sl h
  obtain ⟨c2, uc2, rfl, hc2, h⟩ := okVs_agg h
  obtain rfl := okVs_nil h
  obtain ⟨a, rfl⟩ := okact hc0
  obtain ⟨l, rfl⟩ := oks_lds hc1
  obtain ⟨w, p, rfl, _, _⟩ := okfr hc2
  exact work_law a l w p []
set_option maxRecDepth 100000 in
theorem topLeadsWork_lifted (os : Os) (started : os.Started) (H : Type) (enc : TypeId × Value → H) :
    ReturnsInHanded {} Tryd.checked os 3 .any (fun w args => (Rows.topLeadsWorkSpec.pre enc Tryd.prog Tryd.f3 [] false w args ∧ laidMetH Tryd.prog laidV w) ∧ sizedMet enc Tryd.prog Tryd.f3 (OpenSpec.ofChange Rows.topLeadsWorkSpec) false w args)
      (Rows.topLeadsWorkSpec.post enc Tryd.prog Tryd.f3 false true false false) := by
  refine returnsInHanded_of_change_and (C := Tryd.checked) (X := fun w _ => laidMetH Tryd.prog laidV w) (fun _ _ _ hh h => h.of_heap hh) own started (by kernel_rfl) Tryd.func3
    (ChangeSpec.witness_shaped (enc := enc) (C := Tryd.checked) (os := os) (X := fun w _ => laidMetH Tryd.prog laidV w) false (World.doorLaid Tryd.prog 400 os) #[.agg #[.int .i64 0, .slice none 0 0, .slice none 0 0, .slice none 0 0], .slice none 0 0, .agg #[.int .i64 0, .int .i64 0]] 8 rfl (World.shaped_of_RefB (by kernel_rfl) (by kernel_rfl)) (by kernel_rfl) (by kernel_rfl) (by kernel_rfl) (door_met os _)) ?_
  intro W base args ds gs before hval hW _ _ hL _
  exact law_calls (P := Tryd.prog) (fn := Tryd.f3) laidOut rfl rfl (fun ds h => match ds, h with | [d1, d2, d3], _ => rfl) (by kernel_rfl) topLeadsWork_tys (by kernel_rfl) Tryd.underlying4 topLeadsWork_in (glob_ok hL) hval hW
theorem topLeadsWork_over : Rows.topLeadsWorkRow.holds Tryd.pinned (OpenSpec.ofChange Rows.topLeadsWorkSpec) :=
  OpenClaim.holds_of_wide 3 Tryd.f3 rfl rfl rfl rfl rfl rfl rfl ⟨rfl, rfl, rfl, rfl, rfl⟩ rfl rfl rfl rfl rfl (by kernel_rfl) Tryd.func3 (by kernel_rfl)
    (of_decide_eq_true (by kernel_rfl)) (by unfold Func.isWrapper; first | (rw [if_pos (by decide +kernel)]; kernel_rfl) | (rw [if_neg (by decide +kernel)]; exact ⟨rfl, rfl⟩))
    (fun os started H enc _ => topLeadsWork_lifted os started H enc)
theorem topLeadsWork_card : Rows.TopLeadsWorkCardSaid :=
  Claim7.holds_tied_plain_at .later [] [.data, .data] true (true, "f1b1d9d5813e720b9bad1e2eebf8de278a161230601c1034958032243bea5ec6") false
    topLeadsWork_over (fun _ h => by cases h) (by kernel_rfl) (fun _ h => by cases h) topLeadsWork_row_tie rfl ⟨rfl, rfl⟩ (by kernel_rfl) rfl
    (fun f fn hf hfn => by
      obtain rfl : f = 3 := Option.some.inj ((show Tryd.prog.funcNamed "agraffe/agraffetop.TopLeadsWork" = some 3 by kernel_rfl).symm.trans hf) |>.symm
      obtain rfl : fn = Tryd.f3 := (Option.some.inj (Tryd.func3.symm.trans hfn)).symm
      exact ⟨by kernel_rfl, fun j t ht => by
        have h3 : (Tryd.f3.params.toList.all fun t => !Tryd.prog.wantsStandIn t) = true := by kernel_rfl
        have := List.all_eq_true.1 h3 t (List.mem_of_getElem? (by simpa using ht))
        exact (by simpa using this : Tryd.prog.wantsStandIn t = false)⟩)
    (by kernel_rfl)
end Go.Proofs.YtihbeoplchiikaaDoor
