/- The law ActionLeads holds: whatever the input, it answers true, and the input reads as it did. The tables of the bits are tied to the program's text. No condition. -/
import Derived.Test.YtihbeoplchiikaaGreatDoorCards
import Derived.Test.YtihbeoplchiikaaGreatDoorTie
import Derived.Test.YtihbeoplchiikaaGreatDoorGE
import Derived.Test.YtihbeoplchiikaaGreatDoorH20
import Derived.SevenTiedAt
set_option linter.unusedSimpArgs false
set_option linter.unusedVariables false
namespace Go.Proofs.YtihbeoplchiikaaGreatDoor
open Go.RowKit Go.ChangeShapes Go.WideShapes Go.ChangeAt
theorem actionLeads_tys : tysOf Tryz.prog Tryz.f3.params.toList = some [.agg TyAc, .sl TyLd, .agg [.int .i64, .int .i64]] := by kernel_rfl
theorem actionLeads_in (us : List V) (h : OkVs [.agg TyAc, .sl TyLd, .agg [.int .i64, .int .i64]] us) : Gives Tryz.prog 3 us [] (.bool true) := by
  obtain ⟨c0, uc0, rfl, hc0, h⟩ := okVs_agg h
  obtain ⟨c1, uc1, rfl, ⟨_, hc1⟩, h⟩ := okVs_sl h
  obtain ⟨c2, uc2, rfl, hc2, h⟩ := okVs_agg h
  obtain rfl := okVs_nil h
  obtain ⟨a, rfl⟩ := okact hc0
  obtain ⟨l, rfl⟩ := oks_lds hc1
  obtain ⟨w, p, rfl, _, _⟩ := okfr hc2
  exact leads_law a l w p []
set_option maxRecDepth 100000 in
theorem actionLeads_lifted (os : Os) (started : os.Started) (H : Type) (enc : TypeId × Value → H) :
    ReturnsInHanded {} Tryz.checked os 3 .any (fun w args => (Rows.actionLeadsSpec.pre enc Tryz.prog Tryz.f3 [] false w args ∧ laidMetH Tryz.prog laidV w) ∧ sizedMet enc Tryz.prog Tryz.f3 (OpenSpec.ofChange Rows.actionLeadsSpec) false w args)
      (Rows.actionLeadsSpec.post enc Tryz.prog Tryz.f3 false true false false) := by
  refine returnsInHanded_of_change_and (C := Tryz.checked) (X := fun w _ => laidMetH Tryz.prog laidV w) (fun _ _ _ hh h => h.of_heap hh) own started (by kernel_rfl) Tryz.func3
    (ChangeSpec.witness_shaped (enc := enc) (C := Tryz.checked) (os := os) (X := fun w _ => laidMetH Tryz.prog laidV w) false (World.doorLaid Tryz.prog 400 os) #[.agg #[.int .i64 0, .slice none 0 0, .slice none 0 0, .slice none 0 0], .slice none 0 0, .agg #[.int .i64 0, .int .i64 0]] 8 rfl (World.shaped_of_RefB (by kernel_rfl) (by kernel_rfl)) (by kernel_rfl) (by kernel_rfl) (by kernel_rfl) (door_met os _)) ?_
  intro W base args ds gs before hval hW _ _ hL _
  exact law_calls (P := Tryz.prog) (fn := Tryz.f3) laidOut rfl rfl (fun ds h => match ds, h with | [d1, d2, d3], _ => rfl) (by kernel_rfl) actionLeads_tys (by kernel_rfl) Tryz.underlying4 actionLeads_in (glob_ok hL) hval hW
theorem actionLeads_over : Rows.actionLeadsRow.holds Tryz.pinned (OpenSpec.ofChange Rows.actionLeadsSpec) :=
  OpenClaim.holds_of_wide 3 Tryz.f3 rfl rfl rfl rfl rfl rfl rfl ⟨rfl, rfl, rfl, rfl, rfl⟩ rfl rfl rfl rfl rfl (by kernel_rfl) Tryz.func3 (by kernel_rfl)
    (of_decide_eq_true (by kernel_rfl)) (by unfold Func.isWrapper; first | (rw [if_pos (by decide +kernel)]; kernel_rfl) | (rw [if_neg (by decide +kernel)]; exact ⟨rfl, rfl⟩))
    (fun os started H enc _ => actionLeads_lifted os started H enc)
theorem actionLeads_card : Rows.ActionLeadsCardSaid :=
  Claim7.holds_tied_plain_at .later [] [.data, .data] true (true, "7f796b641c4b9e95234d2e6e30e470a7e4428c40c8e60965d58bda1986c4fc1c") false
    actionLeads_over (fun _ h => by cases h) (by kernel_rfl) (fun _ h => by cases h) actionLeads_row_tie rfl ⟨rfl, rfl⟩ (by kernel_rfl) rfl
    (fun f fn hf hfn => by
      obtain rfl : f = 3 := Option.some.inj ((show Tryz.prog.funcNamed "agraffe/agraffelaw04.ActionLeads" = some 3 by kernel_rfl).symm.trans hf) |>.symm
      obtain rfl : fn = Tryz.f3 := (Option.some.inj (Tryz.func3.symm.trans hfn)).symm
      exact ⟨by kernel_rfl, fun j t ht => by
        have h3 : (Tryz.f3.params.toList.all fun t => !Tryz.prog.wantsStandIn t) = true := by kernel_rfl
        have := List.all_eq_true.1 h3 t (List.mem_of_getElem? (by simpa using ht))
        exact (by simpa using this : Tryz.prog.wantsStandIn t = false)⟩)
    (by kernel_rfl)
end Go.Proofs.YtihbeoplchiikaaGreatDoor
