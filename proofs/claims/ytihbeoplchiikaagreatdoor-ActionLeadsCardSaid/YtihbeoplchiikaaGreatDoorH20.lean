/- the law ActionLeads, over contracts -/
import Derived.Test.YtihbeoplchiikaaGreatDoorC67
import Derived.Test.YtihbeoplchiikaaGreatDoorGI
set_option linter.unusedSimpArgs false
set_option linter.unusedVariables false
namespace Go.Proofs.YtihbeoplchiikaaGreatDoor
open Go.RowKit
attribute [local irreducible] WA WOs WDs WAn qThen qBlock tput
set_option maxHeartbeats 1000000
set_option maxRecDepth 20000
set_option linter.unusedSimpArgs false
set_option linter.unusedVariables false
set_option maxHeartbeats 8000000
attribute [local irreducible] smB cut sm
theorem chL_len (a : ActR) (holes : List (Int × Int)) (dn up : Int) (h5 : holes.length ≤ 5 ∨ 8 < holes.length) : (chL a holes dn up).1.length ≤ 5 := by
  unfold chL
  split
  · exact Nat.zero_le _
  · split
    · exact Nat.zero_le _
    · split
      · exact Nat.zero_le _
      · split
        · exact Nat.zero_le _
        · rename_i h _ _
          have h8 : holes.length ≤ 5 := by
            rcases h5 with q | q
            · exact q
            · exact absurd (show ldsErr holes ≠ 0 by unfold ldsErr; rw [if_pos q]; decide) h
          cases hb : bstL (accB a holes dn up) (2 ^ holes.length) with
          | none => exact Nat.zero_le _
          | some l =>
            have := (ord_ok h8).lt l ((bst_inv _ (ord_ok h8) _ (Nat.le_refl _)).2 l hb).2.1
            show l.length ≤ 5
            omega
theorem uH20_3_5 {N : Nat} {l : List Oper} {t : List (Nat × V)} {m : Mem} {Q : Exit → List (Nat × V) → Mem → Prop} (h : RgN Tryz.prog N l t m Q (fun i => if i == 6 then .w else if i == 4 then .f else if i == 1 || i == 2 then .a else if i == 0 || i == 5 then .q else .p) [.one 0, .one 3, .one 5, .grp true [1] [2], .one 4, .one 6, .one 7, .one 8, .one 9, .one 10, .one 11]) : WA Tryz.prog N (.region 5 l.toArray true) t m Q := d_rgN h
theorem leads_out (a : ActR) (holes : List (Int × Int)) (dn up : Int) (hout : ¬ (light a ∧ (holes.length ≤ 5 ∨ 8 < holes.length) ∧ holes.length ≤ 12)) (m : Mem) : Gives Tryz.prog 3 [.agg (actV a), .lst (ldsV holes), .agg [.int .i64 dn, .int .i64 up]] m (.bool true) := by
  have hlg := fun m => llight_c a m
  have hll := ldsV_length (l := holes)
  unfold actV at *
  refine Gives_in Tryz.func3 rfl Tryz.ntmps3 Tryz.results3 (by kernel_rfl) (by simp) rfl fun Q hQ => ?_
  (have FX := hll; repeat' (first | (refine sx ?_ ?_ <;> intro h <;> first | (exfalso; omega) | skip) | (refine g_op ?_; refine g_call ?_; refine g_args ?_; (first | refine s_fn (lawake_c _) ?_ | refine s_fn (hlg _) ?_) <;> try first | omega | assumption) | refine ny ?_ | refine WA_block ?_ | (refine uH20_3_5 ?_; refine ⟨by kernel_rfl, ?_⟩) | ((first | refine grp_cons (fun _ => lawake_c _) ?_ | refine grp_cons (fun _ => hlg _) ?_) <;> try first | omega | assumption) | (refine g_d ?_; refine d_args ?_; (first | refine d_fn (lawake_c _) ?_ | refine d_fn (hlg _) ?_ | refine d_fnQ (fun _ => lawake_c _) ?_ | refine d_fnQ (fun _ => hlg _) ?_) <;> try first | omega | assumption) | (refine g_d ?_; (first | refine d_fnY (lawake_c _) ?_ | refine d_fnY (hlg _) ?_) <;> try first | omega | assumption)))
  all_goals (try (exfalso; first | exact hout ⟨by assumption, by omega, by omega⟩ | omega))
  all_goals (refine r_es hQ ?_; try with_reducible rfl)
theorem leads_law (a : ActR) (holes : List (Int × Int)) (dn up : Int) (m : Mem) : Gives Tryz.prog 3 [.agg (actV a), .lst (ldsV holes), .agg [.int .i64 dn, .int .i64 up]] m (.bool true) := by
  by_cases hg : light a ∧ (holes.length ≤ 5 ∨ 8 < holes.length) ∧ holes.length ≤ 12
  case neg => exact leads_out a holes dn up hg m
  obtain ⟨hL, h5, h12⟩ := hg
  have hlt := light_lt hL
  have hll := ldsV_length (l := holes)
  have hlg := fun m => llight_c a m
  rw [decide_eq_true hL] at hlg
  have hcp := fun m => lcopied_l a hL m
  have hac := fun m => rcheckaction_c a hlt m
  have hch := fun m => achoose_c a hlt holes h5 (by omega) dn up m
  have hlen := chL_len a holes dn up h5
  have hin := fun m => bints_c (chL a holes dn up).1 (by omega) m
  have hnl := nlV_length (l := (chL a holes dn up).1)
  have hal : ∀ n, n = 2 → (ldsV holes).all (fun e => e.length == n) = true := fun n h => ldsV_l2 h
  have htk : (ldsV holes).take holes.length = ldsV holes := List.take_of_length_le (by rw [hll]; exact Nat.le_refl _)
  have hfz : (∀ n, n = 2 → (ldsV holes).all (fun e => e.length == n) = true) ∧ (ldsV holes).take holes.length = ldsV holes := ⟨hal, htk⟩
  have hrc := fun (q : acErr a = 0) m => rChooseLeads_c a hlt q holes h5 (by omega) dn up m
  have hz : acErr a ≠ 0 → (chL a holes dn up).1 = [] ∧ (chL a holes dn up).2 = acErr a := fun q => by
    unfold chL
    rw [if_pos q]
    exact ⟨rfl, rfl⟩
  unfold chV at hch hrc
  generalize chL a holes dn up = p at *
  obtain ⟨l, e⟩ := p
  dsimp only at *
  unfold actV at *
  by_cases h0 : acErr a = 0
  · have hrc := hrc h0
    rw [h0] at hac
    clear hz
    refine Gives_in Tryz.func3 rfl Tryz.ntmps3 Tryz.results3 (by kernel_rfl) (by simp) rfl fun Q hQ => ?_
    (have FX := And.intro hll (And.intro hfz hnl); repeat' first | (first | (refine sx ?_ ?_ <;> intro h <;> first | (exfalso; omega) | skip) | (refine g_op ?_; refine g_call ?_; refine g_args ?_; (first | refine s_fn (lawake_c _) ?_ | refine s_fn (hlg _) ?_ | refine s_fn (hcp _) ?_ | refine s_fn (hac _) ?_ | refine s_fn (hrc _) ?_ | refine s_fn (hin _) ?_) <;> try first | omega | assumption) | refine ny ?_ | refine WA_block ?_ | (refine uH20_3_5 ?_; refine ⟨by kernel_rfl, ?_⟩) | ((first | refine grp_cons (fun _ => lawake_c _) ?_ | refine grp_cons (fun _ => hlg _) ?_ | refine grp_cons (fun _ => hcp _) ?_ | refine grp_cons (fun _ => hac _) ?_ | refine grp_cons (fun _ => hrc _) ?_ | refine grp_cons (fun _ => hin _) ?_) <;> try first | omega | assumption) | (refine g_d ?_; refine d_args ?_; (first | refine d_fn (lawake_c _) ?_ | refine d_fn (hlg _) ?_ | refine d_fn (hcp _) ?_ | refine d_fn (hac _) ?_ | refine d_fn (hrc _) ?_ | refine d_fn (hin _) ?_ | refine d_fnQ (fun _ => lawake_c _) ?_ | refine d_fnQ (fun _ => hlg _) ?_ | refine d_fnQ (fun _ => hcp _) ?_ | refine d_fnQ (fun _ => hac _) ?_ | refine d_fnQ (fun _ => hrc _) ?_ | refine d_fnQ (fun _ => hin _) ?_) <;> try first | omega | assumption) | (refine g_d ?_; (first | refine d_fnY (lawake_c _) ?_ | refine d_fnY (hlg _) ?_ | refine d_fnY (hcp _) ?_ | refine d_fnY (hac _) ?_ | refine d_fnY (hrc _) ?_ | refine d_fnY (hin _) ?_) <;> try first | omega | assumption)) | refine d_alt ?_ | refine wg_0 ?_ | refine wg_b ?_ | refine wg_c ?_ ?_ | refine wg_n ?_ | refine wm_cons ?_ ?_ | exact wm_nil | refine wg_op ?_)
    all_goals (try (exfalso; omega))
    all_goals (refine d_args ?_; first
      | (refine d_fzE (B := lend m) (es := ldsV holes) (n := holes.length) 4 1 (hch _) ?_ (hn := hll))
      | (refine d_fzE (B := lend m) (es := ldsV holes) (n := holes.length) 3 1 (hch _) ?_ (hn := hll))
      | (refine d_fzE (B := lend m) (es := ldsV holes) (n := holes.length) 5 1 (hch _) ?_ (hn := hll))
      | trace_state)
    all_goals (have FX := And.intro hll (And.intro hfz hnl); repeat' (first | (refine sx ?_ ?_ <;> intro h <;> first | (exfalso; omega) | skip) | (refine g_op ?_; refine g_call ?_; refine g_args ?_; (first | refine s_fn (lawake_c _) ?_ | refine s_fn (hlg _) ?_ | refine s_fn (hcp _) ?_ | refine s_fn (hac _) ?_ | refine s_fn (hrc _) ?_ | refine s_fn (hin _) ?_) <;> try first | omega | assumption) | refine ny ?_ | refine WA_block ?_ | (refine uH20_3_5 ?_; refine ⟨by kernel_rfl, ?_⟩) | ((first | refine grp_cons (fun _ => lawake_c _) ?_ | refine grp_cons (fun _ => hlg _) ?_ | refine grp_cons (fun _ => hcp _) ?_ | refine grp_cons (fun _ => hac _) ?_ | refine grp_cons (fun _ => hrc _) ?_ | refine grp_cons (fun _ => hin _) ?_) <;> try first | omega | assumption) | (refine g_d ?_; refine d_args ?_; (first | refine d_fn (lawake_c _) ?_ | refine d_fn (hlg _) ?_ | refine d_fn (hcp _) ?_ | refine d_fn (hac _) ?_ | refine d_fn (hrc _) ?_ | refine d_fn (hin _) ?_ | refine d_fnQ (fun _ => lawake_c _) ?_ | refine d_fnQ (fun _ => hlg _) ?_ | refine d_fnQ (fun _ => hcp _) ?_ | refine d_fnQ (fun _ => hac _) ?_ | refine d_fnQ (fun _ => hrc _) ?_ | refine d_fnQ (fun _ => hin _) ?_) <;> try first | omega | assumption) | (refine g_d ?_; (first | refine d_fnY (lawake_c _) ?_ | refine d_fnY (hlg _) ?_ | refine d_fnY (hcp _) ?_ | refine d_fnY (hac _) ?_ | refine d_fnY (hrc _) ?_ | refine d_fnY (hin _) ?_) <;> try first | omega | assumption)))
    all_goals (try (exfalso; omega))
    all_goals (refine r_es hQ ?_; try with_reducible rfl)
  · obtain ⟨rfl, rfl⟩ := hz h0
    have hrc := hll
    have hin := hll
    generalize acErr a = ae at *
    refine Gives_in Tryz.func3 rfl Tryz.ntmps3 Tryz.results3 (by kernel_rfl) (by simp) rfl fun Q hQ => ?_
    (have FX := And.intro hll (And.intro hfz hnl); repeat' first | (first | (refine sx ?_ ?_ <;> intro h <;> first | (exfalso; omega) | skip) | (refine g_op ?_; refine g_call ?_; refine g_args ?_; (first | refine s_fn (lawake_c _) ?_ | refine s_fn (hlg _) ?_ | refine s_fn (hcp _) ?_ | refine s_fn (hac _) ?_ | refine s_fn (hrc _) ?_ | refine s_fn (hin _) ?_) <;> try first | omega | assumption) | refine ny ?_ | refine WA_block ?_ | (refine uH20_3_5 ?_; refine ⟨by kernel_rfl, ?_⟩) | ((first | refine grp_cons (fun _ => lawake_c _) ?_ | refine grp_cons (fun _ => hlg _) ?_ | refine grp_cons (fun _ => hcp _) ?_ | refine grp_cons (fun _ => hac _) ?_ | refine grp_cons (fun _ => hrc _) ?_ | refine grp_cons (fun _ => hin _) ?_) <;> try first | omega | assumption) | (refine g_d ?_; refine d_args ?_; (first | refine d_fn (lawake_c _) ?_ | refine d_fn (hlg _) ?_ | refine d_fn (hcp _) ?_ | refine d_fn (hac _) ?_ | refine d_fn (hrc _) ?_ | refine d_fn (hin _) ?_ | refine d_fnQ (fun _ => lawake_c _) ?_ | refine d_fnQ (fun _ => hlg _) ?_ | refine d_fnQ (fun _ => hcp _) ?_ | refine d_fnQ (fun _ => hac _) ?_ | refine d_fnQ (fun _ => hrc _) ?_ | refine d_fnQ (fun _ => hin _) ?_) <;> try first | omega | assumption) | (refine g_d ?_; (first | refine d_fnY (lawake_c _) ?_ | refine d_fnY (hlg _) ?_ | refine d_fnY (hcp _) ?_ | refine d_fnY (hac _) ?_ | refine d_fnY (hrc _) ?_ | refine d_fnY (hin _) ?_) <;> try first | omega | assumption)) | refine d_alt ?_ | refine wg_0 ?_ | refine wg_b ?_ | refine wg_c ?_ ?_ | refine wg_n ?_ | refine wm_cons ?_ ?_ | exact wm_nil | refine wg_op ?_)
    all_goals (try (exfalso; omega))
    all_goals (refine d_args ?_; first
      | (refine d_fzE (B := lend m) (es := ldsV holes) (n := holes.length) 4 1 (hch _) ?_ (hn := hll))
      | (refine d_fzE (B := lend m) (es := ldsV holes) (n := holes.length) 3 1 (hch _) ?_ (hn := hll))
      | (refine d_fzE (B := lend m) (es := ldsV holes) (n := holes.length) 5 1 (hch _) ?_ (hn := hll))
      | trace_state)
    all_goals (have FX := And.intro hll (And.intro hfz hnl); repeat' (first | (refine sx ?_ ?_ <;> intro h <;> first | (exfalso; omega) | skip) | (refine g_op ?_; refine g_call ?_; refine g_args ?_; (first | refine s_fn (lawake_c _) ?_ | refine s_fn (hlg _) ?_ | refine s_fn (hcp _) ?_ | refine s_fn (hac _) ?_ | refine s_fn (hrc _) ?_ | refine s_fn (hin _) ?_) <;> try first | omega | assumption) | refine ny ?_ | refine WA_block ?_ | (refine uH20_3_5 ?_; refine ⟨by kernel_rfl, ?_⟩) | ((first | refine grp_cons (fun _ => lawake_c _) ?_ | refine grp_cons (fun _ => hlg _) ?_ | refine grp_cons (fun _ => hcp _) ?_ | refine grp_cons (fun _ => hac _) ?_ | refine grp_cons (fun _ => hrc _) ?_ | refine grp_cons (fun _ => hin _) ?_) <;> try first | omega | assumption) | (refine g_d ?_; refine d_args ?_; (first | refine d_fn (lawake_c _) ?_ | refine d_fn (hlg _) ?_ | refine d_fn (hcp _) ?_ | refine d_fn (hac _) ?_ | refine d_fn (hrc _) ?_ | refine d_fn (hin _) ?_ | refine d_fnQ (fun _ => lawake_c _) ?_ | refine d_fnQ (fun _ => hlg _) ?_ | refine d_fnQ (fun _ => hcp _) ?_ | refine d_fnQ (fun _ => hac _) ?_ | refine d_fnQ (fun _ => hrc _) ?_ | refine d_fnQ (fun _ => hin _) ?_) <;> try first | omega | assumption) | (refine g_d ?_; (first | refine d_fnY (lawake_c _) ?_ | refine d_fnY (hlg _) ?_ | refine d_fnY (hcp _) ?_ | refine d_fnY (hac _) ?_ | refine d_fnY (hrc _) ?_ | refine d_fnY (hin _) ?_) <;> try first | omega | assumption)))
    all_goals (try (exfalso; omega))
    all_goals (refine r_es hQ ?_; try with_reducible rfl)
end Go.Proofs.YtihbeoplchiikaaGreatDoor
