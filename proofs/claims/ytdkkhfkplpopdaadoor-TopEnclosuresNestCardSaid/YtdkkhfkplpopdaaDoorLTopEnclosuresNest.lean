/- The law TopEnclosuresNest holds: whatever the input, it answers true, and the input reads as it did. The variable of the bases is tied to the program's text. No condition. -/
import Derived.Test.YtdkkhfkplpopdaaDoorCards
import Derived.Test.YtdkkhfkplpopdaaDoorTie
import Derived.Test.YtdkkhfkplpopdaaDoorE8
import Derived.Test.YtdkkhfkplpopdaaDoorK9
import Derived.SevenTiedAt
set_option linter.unusedSimpArgs false
set_option linter.unusedVariables false
namespace Go.Proofs.YtdkkhfkplpopdaaDoor
open Go.RowKit Go.ChangeShapes Go.WideShapes Go.ChangeAt
theorem topEnclosuresNest_tys : tysOf Tryd.prog Tryd.f3.params.toList = some [.agg [.int .i64, .int .i64, .int .i64, .int .i64], .int .i64, .int .i64] := by kernel_rfl
theorem topEnclosuresNest_in (us : List V) (h : OkVs [.agg [.int .i64, .int .i64, .int .i64, .int .i64], .int .i64, .int .i64] us) : Gives Tryd.prog 3 us [] (.bool true) := by
  obtain ⟨c0, uc0, rfl, hc0, h⟩ := okVs_agg h
  obtain ⟨m, um, rfl, _, h⟩ := okVs_int h
  obtain ⟨n, un, rfl, _, h⟩ := okVs_int h
  obtain rfl := okVs_nil h
  obtain ⟨a, _, rfl, _, g1⟩ := okcL_int hc0
  obtain ⟨b, _, rfl, _, g2⟩ := okcL_int g1
  obtain ⟨c, _, rfl, _, g3⟩ := okcL_int g2
  obtain ⟨d, _, rfl, _, g4⟩ := okcL_int g3
  obtain rfl := okcL_nil g4
  exact nest_law a b c d m n []
set_option maxRecDepth 100000 in
theorem topEnclosuresNest_lifted (os : Os) (started : os.Started) (H : Type) (enc : TypeId × Value → H) :
    ReturnsInHanded {} Tryd.checked os 3 .any (fun w args => (Rows.topEnclosuresNestSpec.pre enc Tryd.prog Tryd.f3 [] false w args ∧ laidMetH Tryd.prog laidV w) ∧ sizedMet enc Tryd.prog Tryd.f3 (OpenSpec.ofChange Rows.topEnclosuresNestSpec) false w args)
      (Rows.topEnclosuresNestSpec.post enc Tryd.prog Tryd.f3 false true false false) := by
  refine returnsInHanded_of_change_and (C := Tryd.checked) (X := fun w _ => laidMetH Tryd.prog laidV w) (fun _ _ _ hh h => h.of_heap hh) own started (by kernel_rfl) Tryd.func3
    (ChangeSpec.witness_shaped (enc := enc) (C := Tryd.checked) (os := os) (X := fun w _ => laidMetH Tryd.prog laidV w) false (World.doorLaid Tryd.prog 400 os) #[.agg #[.int .i64 0, .int .i64 0, .int .i64 0, .int .i64 0], .int .i64 0, .int .i64 0] 8 rfl (World.shaped_of_RefB (by kernel_rfl) (by kernel_rfl)) (by kernel_rfl) (by kernel_rfl) (by kernel_rfl) (door_met os _)) ?_
  intro W base args ds gs before hval hW _ _ hL _
  exact law_calls (P := Tryd.prog) (fn := Tryd.f3) laidOut rfl rfl (fun ds h => match ds, h with | [d1, d2, d3], _ => rfl) (by kernel_rfl) topEnclosuresNest_tys (by kernel_rfl) Tryd.underlying4 topEnclosuresNest_in (glob_ok hL) hval hW
theorem topEnclosuresNest_over : Rows.topEnclosuresNestRow.holds Tryd.pinned (OpenSpec.ofChange Rows.topEnclosuresNestSpec) :=
  OpenClaim.holds_of_wide 3 Tryd.f3 rfl rfl rfl rfl rfl rfl rfl ⟨rfl, rfl, rfl, rfl, rfl⟩ rfl rfl rfl rfl rfl (by kernel_rfl) Tryd.func3 (by kernel_rfl)
    (of_decide_eq_true (by kernel_rfl)) (by unfold Func.isWrapper; first | (rw [if_pos (by decide +kernel)]; kernel_rfl) | (rw [if_neg (by decide +kernel)]; exact ⟨rfl, rfl⟩))
    (fun os started H enc _ => topEnclosuresNest_lifted os started H enc)
theorem topEnclosuresNest_card : Rows.TopEnclosuresNestCardSaid :=
  Claim7.holds_tied_plain_at .later [] [.data] true (true, "94b2e0ca56f420515d184683ee13b36fdf5b189cfe1cac75bb22973e28f74003") false
    topEnclosuresNest_over (fun _ h => by cases h) (by kernel_rfl) (fun _ h => by cases h) topEnclosuresNest_row_tie rfl ⟨rfl, rfl⟩ (by kernel_rfl) rfl
    (fun f fn hf hfn => by
      obtain rfl : f = 3 := Option.some.inj ((show Tryd.prog.funcNamed "agraffe/agraffetop.TopEnclosuresNest" = some 3 by kernel_rfl).symm.trans hf) |>.symm
      obtain rfl : fn = Tryd.f3 := (Option.some.inj (Tryd.func3.symm.trans hfn)).symm
      exact ⟨by kernel_rfl, fun j t ht => by
        have h3 : (Tryd.f3.params.toList.all fun t => !Tryd.prog.wantsStandIn t) = true := by kernel_rfl
        have := List.all_eq_true.1 h3 t (List.mem_of_getElem? (by simpa using ht))
        exact (by simpa using this : Tryd.prog.wantsStandIn t = false)⟩)
    (by kernel_rfl)
end Go.Proofs.YtdkkhfkplpopdaaDoor
