/- The law TopNothingGreater holds: whatever the input, it answers true, and the input reads as it did. The variable of the bases is tied to the program's text. No condition. -/
import Derived.Test.YtdkkhfkplpopdaaDoorCards
import Derived.Test.YtdkkhfkplpopdaaDoorTie
import Derived.Test.YtdkkhfkplpopdaaDoorE8
import Derived.Test.YtdkkhfkplpopdaaDoorK10
import Derived.SevenTiedAt
set_option linter.unusedSimpArgs false
set_option linter.unusedVariables false
namespace Go.Proofs.YtdkkhfkplpopdaaDoor
open Go.RowKit Go.ChangeShapes Go.WideShapes Go.ChangeAt
theorem topNothingGreater_tys : tysOf Tryd.prog Tryd.f4.params.toList = some [.sl (.agg [.int .i64, .int .i64, .int .i64]), .sl (.int .i64), .sl (.int .i64)] := by kernel_rfl
theorem oks_nss {es : List (List V)} (h : ∀ x ∈ es, Okc (.int .i64) x) : ∃ l : List Int, es = nsV l := by
  have key : ∀ x, Okc (.int .i64) x → ∃ a : Int, x = [V.int .i64 a] ∧ True := fun x hx => by
    obtain ⟨n, rfl, _, _⟩ := hx
    exact ⟨n, rfl, trivial⟩
  obtain ⟨l, h1, _⟩ := oks_map key h
  exact ⟨l, h1⟩
theorem oks_bis {es : List (List V)} (h : ∀ x ∈ es, Okc (.agg [.int .i64, .int .i64, .int .i64]) x) : ∃ l : List BI, es = biV l := by
  have key : ∀ x, Okc (.agg [.int .i64, .int .i64, .int .i64]) x → ∃ b : BI, x = [V.int .i64 b.f, .int .i64 b.t, .int .i64 b.m] ∧ True := fun x hx => by
    obtain ⟨a, _, rfl, _, g1⟩ := okcL_int (show OkcL _ x from hx)
    obtain ⟨b, _, rfl, _, g2⟩ := okcL_int g1
    obtain ⟨c, _, rfl, _, g3⟩ := okcL_int g2
    obtain rfl := okcL_nil g3
    exact ⟨⟨a, b, c⟩, rfl, trivial⟩
  obtain ⟨l, h1, _⟩ := oks_map key h
  exact ⟨l, h1⟩
theorem topNothingGreater_in (us : List V) (h : OkVs [.sl (.agg [.int .i64, .int .i64, .int .i64]), .sl (.int .i64), .sl (.int .i64)] us) : Gives Tryd.prog 4 us [] (.bool true) := by
  obtain ⟨e1, u1, rfl, h1, h⟩ := okVs_sl h
  obtain ⟨e2, u2, rfl, h2, h⟩ := okVs_sl h
  obtain ⟨e3, u3, rfl, h3, h⟩ := okVs_sl h
  obtain rfl := okVs_nil h
  obtain ⟨l, rfl⟩ := oks_bis h1.2
  obtain ⟨x, rfl⟩ := oks_nss h2.2
  obtain ⟨c, rfl⟩ := oks_nss h3.2
  exact nothing_law l x c []
set_option maxRecDepth 100000 in
theorem topNothingGreater_lifted (os : Os) (started : os.Started) (H : Type) (enc : TypeId × Value → H) :
    ReturnsInHanded {} Tryd.checked os 4 .any (fun w args => (Rows.topNothingGreaterSpec.pre enc Tryd.prog Tryd.f4 [] false w args ∧ laidMetH Tryd.prog laidV w) ∧ sizedMet enc Tryd.prog Tryd.f4 (OpenSpec.ofChange Rows.topNothingGreaterSpec) false w args)
      (Rows.topNothingGreaterSpec.post enc Tryd.prog Tryd.f4 false true false false) := by
  refine returnsInHanded_of_change_and (C := Tryd.checked) (X := fun w _ => laidMetH Tryd.prog laidV w) (fun _ _ _ hh h => h.of_heap hh) own started (by kernel_rfl) Tryd.func4
    (ChangeSpec.witness_shaped (enc := enc) (C := Tryd.checked) (os := os) (X := fun w _ => laidMetH Tryd.prog laidV w) false (World.doorLaid Tryd.prog 400 os) #[.slice none 0 0, .slice none 0 0, .slice none 0 0] 8 rfl (World.shaped_of_RefB (by kernel_rfl) (by kernel_rfl)) (by kernel_rfl) (by kernel_rfl) (by kernel_rfl) (door_met os _)) ?_
  intro W base args ds gs before hval hW _ _ hL _
  exact law_calls (P := Tryd.prog) (fn := Tryd.f4) laidOut rfl rfl (fun ds h => match ds, h with | [d1, d2, d3], _ => rfl) (by kernel_rfl) topNothingGreater_tys (by kernel_rfl) Tryd.underlying4 topNothingGreater_in (glob_ok hL) hval hW
theorem topNothingGreater_over : Rows.topNothingGreaterRow.holds Tryd.pinned (OpenSpec.ofChange Rows.topNothingGreaterSpec) :=
  OpenClaim.holds_of_wide 4 Tryd.f4 rfl rfl rfl rfl rfl rfl rfl ⟨rfl, rfl, rfl, rfl, rfl⟩ rfl rfl rfl rfl rfl (by kernel_rfl) Tryd.func4 (by kernel_rfl)
    (of_decide_eq_true (by kernel_rfl)) (by unfold Func.isWrapper; first | (rw [if_pos (by decide +kernel)]; kernel_rfl) | (rw [if_neg (by decide +kernel)]; exact ⟨rfl, rfl⟩))
    (fun os started H enc _ => topNothingGreater_lifted os started H enc)
theorem topNothingGreater_card : Rows.TopNothingGreaterCardSaid :=
  Claim7.holds_tied_plain_at .later [] [.data] true (true, "94b2e0ca56f420515d184683ee13b36fdf5b189cfe1cac75bb22973e28f74003") false
    topNothingGreater_over (fun _ h => by cases h) (by kernel_rfl) (fun _ h => by cases h) topNothingGreater_row_tie rfl ⟨rfl, rfl⟩ (by kernel_rfl) rfl
    (fun f fn hf hfn => by
      obtain rfl : f = 4 := Option.some.inj ((show Tryd.prog.funcNamed "agraffe/agraffetop.TopNothingGreater" = some 4 by kernel_rfl).symm.trans hf) |>.symm
      obtain rfl : fn = Tryd.f4 := (Option.some.inj (Tryd.func4.symm.trans hfn)).symm
      exact ⟨by kernel_rfl, fun j t ht => by
        have h3 : (Tryd.f4.params.toList.all fun t => !Tryd.prog.wantsStandIn t) = true := by kernel_rfl
        have := List.all_eq_true.1 h3 t (List.mem_of_getElem? (by simpa using ht))
        exact (by simpa using this : Tryd.prog.wantsStandIn t = false)⟩)
    (by kernel_rfl)
end Go.Proofs.YtdkkhfkplpopdaaDoor
