/- the law ActionBegins, over contracts -/
import Derived.Test.YtmigenmibohnkaaC46
import Derived.Test.YtmigenmibohnkaaC47
set_option linter.unusedSimpArgs false
set_option linter.unusedVariables false
namespace Go.Proofs.Ytmigenmibohnkaa
open Go.RowKit
attribute [local irreducible] WA WOs WDs WAn qThen qBlock tput
set_option maxHeartbeats 1000000
set_option maxRecDepth 20000
set_option linter.unusedSimpArgs false
set_option linter.unusedVariables false
attribute [local irreducible] smB cut sm
theorem hdV_form (a : ActR) (n d : Int) : ∃ z e, hdV a n d = .tup [.lst z, .int .i64 e] ∧ (chkDip a n d ≠ 0 → e ≠ 0) := by
  unfold hdV
  split
  · exact ⟨_, _, rfl, id⟩
  · rename_i h
    split
    · exact ⟨_, _, rfl, fun h2 => absurd h2 h⟩
    · exact ⟨_, _, rfl, fun h2 => absurd h2 h⟩
theorem ordV_form (a : ActR) : ∃ z e, ordV a = .tup [.lst z, .int .i64 e] := by
  unfold ordV
  split
  · exact ⟨_, _, rfl⟩
  · split
    · exact ⟨_, _, rfl⟩
    · exact ⟨_, _, rfl⟩
theorem uH8_7_5 {N : Nat} {l : List Oper} {t : List (Nat × V)} {m : Mem} {Q : Exit → List (Nat × V) → Mem → Prop} (h : RgN Try.prog N l t m Q (fun i => if i == 1 || i == 3 then .a else if i == 0 || i == 2 then .q else .p) [.one 0, .one 2, .one 1, .one 3, .one 4, .one 5, .one 6, .one 7, .one 8]) : WA Try.prog N (.region 5 l.toArray true) t m Q := d_rgN h
theorem uH8_7_6 {N : Nat} {l : List Oper} {t : List (Nat × V)} {m : Mem} {Q : Exit → List (Nat × V) → Mem → Prop} (h : RgN Try.prog N l t m Q (fun i => if i == 1 || i == 3 then .a else if i == 0 || i == 2 then .q else .p) [.one 0, .one 2, .one 1, .one 3, .one 4, .one 5, .one 6, .one 7, .one 8]) : WA Try.prog N (.region 6 l.toArray true) t m Q := d_rgN h
theorem begins_out (a : ActR) (w p n d : Int) (hout : ¬ (light a ∧ sane w p ∧ sane n d)) (m : Mem) : Gives Try.prog 7 [.agg (actV a), .agg [.int .i64 w, .int .i64 p], .agg [.int .i64 n, .int .i64 d]] m (.bool true) := by
  have hlg := fun m => llight_c a m
  unfold actV at hlg ⊢
  refine Gives_in Try.func7 rfl Try.ntmps7 Try.results7 (by kernel_rfl) (by simp) rfl fun Q hQ => ?_
  (repeat' (first | (refine sx ?_ ?_ <;> intro h <;> first | (exfalso; omega) | skip) | (refine g_op ?_; refine g_call ?_; refine g_args ?_; (first | refine s_fn (lawake_c _) ?_ | refine s_fn (hlg _) ?_ | refine s_fn (lsane_d _ _ _) ?_) <;> try first | omega | assumption) | refine ny ?_ | refine WA_block ?_ | (refine uH8_7_5 ?_; refine ⟨by kernel_rfl, ?_⟩) | (refine uH8_7_6 ?_; refine ⟨by kernel_rfl, ?_⟩) | ((first | refine grp_cons (fun _ => lawake_c _) ?_ | refine grp_cons (fun _ => hlg _) ?_ | refine grp_cons (fun _ => lsane_d _ _ _) ?_) <;> try first | omega | assumption) | (refine g_d ?_; refine d_args ?_; (first | refine d_fn (lawake_c _) ?_ | refine d_fn (hlg _) ?_ | refine d_fn (lsane_d _ _ _) ?_ | refine d_fnQ (fun _ => lawake_c _) ?_ | refine d_fnQ (fun _ => hlg _) ?_ | refine d_fnQ (fun _ => lsane_d _ _ _) ?_) <;> try first | omega | assumption) | (refine g_d ?_; (first | refine d_fnY (lawake_c _) ?_ | refine d_fnY (hlg _) ?_ | refine d_fnY (lsane_d _ _ _) ?_) <;> try first | omega | assumption)))
  all_goals (try (exfalso; first | exact hout ⟨by assumption, by assumption, by assumption⟩ | omega))
  all_goals (refine r_es hQ ?_; try with_reducible rfl)
theorem txV_one {o : Nms} {n : Nat} (h : n = 1) : (txV o).all (fun e => e.length == n) = true := by subst h; simp [txV]
theorem nat_sub0 (n : Nat) : ((n : Int) - ((0 : Nat) : Int)).toNat = n := by omega
theorem begins_in (a : ActR) (w p n d : Int) (hl : light a) (hsa : sane w p) (hsb : sane n d) (m : Mem) : Gives Try.prog 7 [.agg (actV a), .agg [.int .i64 w, .int .i64 p], .agg [.int .i64 n, .int .i64 d]] m (.bool true) := by
  have hal := And.intro (fun (o : Nms) n h => txV_one (o := o) (n := n) h) nat_sub0
  have hlt := light_lt hl
  have hev := fun h => Nat.le_trans (light_few hl h).1 (by decide : 6 ≤ 12)
  obtain ⟨b1, b2⟩ := sane_b hsa
  obtain ⟨b3, b4⟩ := sane_b hsb
  have hlg := fun m => llight_c a m
  rw [decide_eq_true hl] at hlg
  have hs1 := fun m => lsane_d w p m
  rw [decide_eq_true hsa] at hs1
  have hs2 := fun m => lsane_d n d m
  rw [decide_eq_true hsb] at hs2
  have hcp := fun m => lcopied_l a hl m
  have hx := fun m => ahappened_c a hlt hev w p b1 b2 m
  have hy := fun m => ahappened_c a hlt hev n d b3 b4 m
  have ho := fun m => aorder_c a hlt hev m
  by_cases hc : chkDip a w p = 0 ∧ chkDip a n d = 0
  · obtain ⟨hcx, hcy⟩ := hc
    unfold hdV at hx hy
    unfold ordV at ho
    obtain ⟨hac, q1, hq1, s1, rfl, rfl⟩ := chkDip_ok hcx
    obtain ⟨_, q2, hq2, s2, rfl, rfl⟩ := chkDip_ok hcy
    rw [if_neg (by omega), hq1] at hx
    rw [if_neg (by omega), hq2] at hy
    rw [if_neg (by omega)] at ho
    have hcm := fun m => bcmp_c q1 q2 s1 s2 m
    cases hS : hapS a with
    | none =>
      rw [hS] at hx hy ho
      dsimp only at hx hy ho
      have hx0 := hac
      have hlx := hac
      have hly := hac
      have hlo := hac
      have htx := hac
      have hty := hac
      unfold actV at hlg hcp hx hy ho ⊢
      refine Gives_in Try.func7 rfl Try.ntmps7 Try.results7 (by kernel_rfl) (by simp) rfl fun Q hQ => ?_
      (have FX := And.intro hx0 (And.intro hlx (And.intro hly (And.intro hlo (And.intro htx (And.intro hty hal))))); repeat' (first | (refine sx ?_ ?_ <;> intro h <;> first | (exfalso; omega) | skip) | (refine g_op ?_; refine g_call ?_; refine g_args ?_; (first | refine s_fn (lawake_c _) ?_ | refine s_fn (hlg _) ?_ | refine s_fn (hs1 _) ?_ | refine s_fn (hs2 _) ?_ | refine s_fn (hcp _) ?_ | refine s_fn (hx _) ?_ | refine s_fn (hy _) ?_ | refine s_fn (ho _) ?_) <;> try first | omega | assumption) | refine ny ?_ | refine WA_block ?_ | (refine uH8_7_5 ?_; refine ⟨by kernel_rfl, ?_⟩) | (refine uH8_7_6 ?_; refine ⟨by kernel_rfl, ?_⟩) | ((first | refine grp_cons (fun _ => lawake_c _) ?_ | refine grp_cons (fun _ => hlg _) ?_ | refine grp_cons (fun _ => hs1 _) ?_ | refine grp_cons (fun _ => hs2 _) ?_ | refine grp_cons (fun _ => hcp _) ?_ | refine grp_cons (fun _ => hx _) ?_ | refine grp_cons (fun _ => hy _) ?_ | refine grp_cons (fun _ => ho _) ?_) <;> try first | omega | assumption) | (refine g_d ?_; refine d_args ?_; (first | refine d_fn (lawake_c _) ?_ | refine d_fn (hlg _) ?_ | refine d_fn (hs1 _) ?_ | refine d_fn (hs2 _) ?_ | refine d_fn (hcp _) ?_ | refine d_fn (hx _) ?_ | refine d_fn (hy _) ?_ | refine d_fn (ho _) ?_ | refine d_fnQ (fun _ => lawake_c _) ?_ | refine d_fnQ (fun _ => hlg _) ?_ | refine d_fnQ (fun _ => hs1 _) ?_ | refine d_fnQ (fun _ => hs2 _) ?_ | refine d_fnQ (fun _ => hcp _) ?_ | refine d_fnQ (fun _ => hx _) ?_ | refine d_fnQ (fun _ => hy _) ?_ | refine d_fnQ (fun _ => ho _) ?_) <;> try first | omega | assumption) | (refine g_d ?_; (first | refine d_fnY (lawake_c _) ?_ | refine d_fnY (hlg _) ?_ | refine d_fnY (hs1 _) ?_ | refine d_fnY (hs2 _) ?_ | refine d_fnY (hcp _) ?_ | refine d_fnY (hx _) ?_ | refine d_fnY (hy _) ?_ | refine d_fnY (ho _) ?_) <;> try first | omega | assumption)))
      all_goals (try (exfalso; omega))
      all_goals (refine r_es hQ ?_; try with_reducible rfl)
    | some l =>
      rw [hS] at hx hy ho
      dsimp only at hx hy ho
      obtain ⟨hsr, hln⟩ := hapS_srt hS
      have hfw := (light_few hl hac).1
      have hx0 := hac
      have c1 := cmpQ_le (p := q1) (q := q2)
      have hlo := txV_length (o := hapN a l)
      have hol := hapN_len a l
      rcases Rat.le_total (a := q1) (b := q2) with hq | hq
      · obtain ⟨e1, e2⟩ := hapD_begin hsr a hq
        obtain ⟨e3, e4⟩ := hapD_all hsr a q2
        have hcle := c1.2 hq
        have e5 := hapN_len a (hapD l q1)
        have e6 := hapN_len a (hapD l q2)
        rw [← e5] at e1 e2
        rw [← e6] at e2 e3 e4
        rw [← hol] at e4
        generalize hapN a (hapD l q1) = X at *
        generalize hapN a (hapD l q2) = Y at *
        generalize hapN a l = O at *
        have hlx := txV_length (o := X)
        have hly := txV_length (o := Y)
        have htx : (txV Y).take X.length = txV X := by unfold txV; rw [← List.map_take, ← e1]
        have hty : (txV O).take Y.length = txV Y := by unfold txV; rw [← List.map_take, ← e3]
        have hbx := fun m => btexts_c X X (by omega) m
        have hby := fun m => btexts_c Y Y (by omega) m
        rw [decide_eq_true rfl] at hbx hby
        unfold actV at hlg hcp hx hy ho ⊢
        refine Gives_in Try.func7 rfl Try.ntmps7 Try.results7 (by kernel_rfl) (by simp) rfl fun Q hQ => ?_
        (have FX := And.intro hx0 (And.intro hlx (And.intro hly (And.intro hlo (And.intro htx (And.intro hty hal))))); repeat' (first | (refine sx ?_ ?_ <;> intro h <;> first | (exfalso; omega) | skip) | (refine g_op ?_; refine g_call ?_; refine g_args ?_; (first | refine s_fn (lawake_c _) ?_ | refine s_fn (hlg _) ?_ | refine s_fn (hs1 _) ?_ | refine s_fn (hs2 _) ?_ | refine s_fn (hcp _) ?_ | refine s_fn (hx _) ?_ | refine s_fn (hy _) ?_ | refine s_fn (ho _) ?_ | refine s_fn (hcm _) ?_ | refine s_fn (hbx _) ?_ | refine s_fn (hby _) ?_) <;> try first | omega | assumption) | refine ny ?_ | refine WA_block ?_ | (refine uH8_7_5 ?_; refine ⟨by kernel_rfl, ?_⟩) | (refine uH8_7_6 ?_; refine ⟨by kernel_rfl, ?_⟩) | ((first | refine grp_cons (fun _ => lawake_c _) ?_ | refine grp_cons (fun _ => hlg _) ?_ | refine grp_cons (fun _ => hs1 _) ?_ | refine grp_cons (fun _ => hs2 _) ?_ | refine grp_cons (fun _ => hcp _) ?_ | refine grp_cons (fun _ => hx _) ?_ | refine grp_cons (fun _ => hy _) ?_ | refine grp_cons (fun _ => ho _) ?_ | refine grp_cons (fun _ => hcm _) ?_ | refine grp_cons (fun _ => hbx _) ?_ | refine grp_cons (fun _ => hby _) ?_) <;> try first | omega | assumption) | (refine g_d ?_; refine d_args ?_; (first | refine d_fn (lawake_c _) ?_ | refine d_fn (hlg _) ?_ | refine d_fn (hs1 _) ?_ | refine d_fn (hs2 _) ?_ | refine d_fn (hcp _) ?_ | refine d_fn (hx _) ?_ | refine d_fn (hy _) ?_ | refine d_fn (ho _) ?_ | refine d_fn (hcm _) ?_ | refine d_fn (hbx _) ?_ | refine d_fn (hby _) ?_ | refine d_fnQ (fun _ => lawake_c _) ?_ | refine d_fnQ (fun _ => hlg _) ?_ | refine d_fnQ (fun _ => hs1 _) ?_ | refine d_fnQ (fun _ => hs2 _) ?_ | refine d_fnQ (fun _ => hcp _) ?_ | refine d_fnQ (fun _ => hx _) ?_ | refine d_fnQ (fun _ => hy _) ?_ | refine d_fnQ (fun _ => ho _) ?_ | refine d_fnQ (fun _ => hcm _) ?_ | refine d_fnQ (fun _ => hbx _) ?_ | refine d_fnQ (fun _ => hby _) ?_) <;> try first | omega | assumption) | (refine g_d ?_; (first | refine d_fnY (lawake_c _) ?_ | refine d_fnY (hlg _) ?_ | refine d_fnY (hs1 _) ?_ | refine d_fnY (hs2 _) ?_ | refine d_fnY (hcp _) ?_ | refine d_fnY (hx _) ?_ | refine d_fnY (hy _) ?_ | refine d_fnY (ho _) ?_ | refine d_fnY (hcm _) ?_ | refine d_fnY (hbx _) ?_ | refine d_fnY (hby _) ?_) <;> try first | omega | assumption)))
        all_goals (try (exfalso; omega))
        all_goals (refine r_es hQ ?_; try with_reducible rfl)
      · obtain ⟨e1, e2⟩ := hapD_begin hsr a hq
        obtain ⟨e3, e4⟩ := hapD_all hsr a q1
        have e5 := hapN_len a (hapD l q1)
        have e6 := hapN_len a (hapD l q2)
        rw [← e6] at e1 e2
        rw [← e5] at e2 e3 e4
        rw [← hol] at e4
        have hqq : q1 ≤ q2 → hapN a (hapD l q1) = hapN a (hapD l q2) := fun h => by rw [Rat.le_antisymm h hq]
        by_cases hqe : q1 ≤ q2
        · have hcle := c1.2 hqe
          have e7 := hqq hqe
          rw [e7] at e1 e2 e3 e4 hx
          generalize hapN a (hapD l q2) = Y at *
          generalize hapN a l = O at *
          have hlx := txV_length (o := Y)
          have hly := hlx
          have htx : (txV Y).take Y.length = txV Y := by unfold txV; rw [← List.map_take, ← e1]
          have hty : (txV O).take Y.length = txV Y := by unfold txV; rw [← List.map_take, ← e3]
          have hbx := fun m => btexts_c Y Y (by omega) m
          have hby := hbx
          rw [decide_eq_true rfl] at hbx hby
          unfold actV at hlg hcp hx hy ho ⊢
          refine Gives_in Try.func7 rfl Try.ntmps7 Try.results7 (by kernel_rfl) (by simp) rfl fun Q hQ => ?_
          (have FX := And.intro hx0 (And.intro hlx (And.intro hly (And.intro hlo (And.intro htx (And.intro hty hal))))); repeat' (first | (refine sx ?_ ?_ <;> intro h <;> first | (exfalso; omega) | skip) | (refine g_op ?_; refine g_call ?_; refine g_args ?_; (first | refine s_fn (lawake_c _) ?_ | refine s_fn (hlg _) ?_ | refine s_fn (hs1 _) ?_ | refine s_fn (hs2 _) ?_ | refine s_fn (hcp _) ?_ | refine s_fn (hx _) ?_ | refine s_fn (hy _) ?_ | refine s_fn (ho _) ?_ | refine s_fn (hcm _) ?_ | refine s_fn (hbx _) ?_ | refine s_fn (hby _) ?_) <;> try first | omega | assumption) | refine ny ?_ | refine WA_block ?_ | (refine uH8_7_5 ?_; refine ⟨by kernel_rfl, ?_⟩) | (refine uH8_7_6 ?_; refine ⟨by kernel_rfl, ?_⟩) | ((first | refine grp_cons (fun _ => lawake_c _) ?_ | refine grp_cons (fun _ => hlg _) ?_ | refine grp_cons (fun _ => hs1 _) ?_ | refine grp_cons (fun _ => hs2 _) ?_ | refine grp_cons (fun _ => hcp _) ?_ | refine grp_cons (fun _ => hx _) ?_ | refine grp_cons (fun _ => hy _) ?_ | refine grp_cons (fun _ => ho _) ?_ | refine grp_cons (fun _ => hcm _) ?_ | refine grp_cons (fun _ => hbx _) ?_ | refine grp_cons (fun _ => hby _) ?_) <;> try first | omega | assumption) | (refine g_d ?_; refine d_args ?_; (first | refine d_fn (lawake_c _) ?_ | refine d_fn (hlg _) ?_ | refine d_fn (hs1 _) ?_ | refine d_fn (hs2 _) ?_ | refine d_fn (hcp _) ?_ | refine d_fn (hx _) ?_ | refine d_fn (hy _) ?_ | refine d_fn (ho _) ?_ | refine d_fn (hcm _) ?_ | refine d_fn (hbx _) ?_ | refine d_fn (hby _) ?_ | refine d_fnQ (fun _ => lawake_c _) ?_ | refine d_fnQ (fun _ => hlg _) ?_ | refine d_fnQ (fun _ => hs1 _) ?_ | refine d_fnQ (fun _ => hs2 _) ?_ | refine d_fnQ (fun _ => hcp _) ?_ | refine d_fnQ (fun _ => hx _) ?_ | refine d_fnQ (fun _ => hy _) ?_ | refine d_fnQ (fun _ => ho _) ?_ | refine d_fnQ (fun _ => hcm _) ?_ | refine d_fnQ (fun _ => hbx _) ?_ | refine d_fnQ (fun _ => hby _) ?_) <;> try first | omega | assumption) | (refine g_d ?_; (first | refine d_fnY (lawake_c _) ?_ | refine d_fnY (hlg _) ?_ | refine d_fnY (hs1 _) ?_ | refine d_fnY (hs2 _) ?_ | refine d_fnY (hcp _) ?_ | refine d_fnY (hx _) ?_ | refine d_fnY (hy _) ?_ | refine d_fnY (ho _) ?_ | refine d_fnY (hcm _) ?_ | refine d_fnY (hbx _) ?_ | refine d_fnY (hby _) ?_) <;> try first | omega | assumption)))
          all_goals (try (exfalso; omega))
          all_goals (refine r_es hQ ?_; try with_reducible rfl)
        · have hcgt : ¬ cmpQ q1 q2 ≤ 0 := fun h => hqe (c1.1 h)
          generalize hapN a (hapD l q2) = X at *
          generalize hapN a (hapD l q1) = Y at *
          generalize hapN a l = O at *
          have hlx := txV_length (o := X)
          have hly := txV_length (o := Y)
          have htx : (txV Y).take X.length = txV X := by unfold txV; rw [← List.map_take, ← e1]
          have hty : (txV O).take Y.length = txV Y := by unfold txV; rw [← List.map_take, ← e3]
          have hbx := fun m => btexts_c X X (by omega) m
          have hby := fun m => btexts_c Y Y (by omega) m
          rw [decide_eq_true rfl] at hbx hby
          unfold actV at hlg hcp hx hy ho ⊢
          refine Gives_in Try.func7 rfl Try.ntmps7 Try.results7 (by kernel_rfl) (by simp) rfl fun Q hQ => ?_
          (have FX := And.intro hx0 (And.intro hlx (And.intro hly (And.intro hlo (And.intro htx (And.intro hty hal))))); repeat' (first | (refine sx ?_ ?_ <;> intro h <;> first | (exfalso; omega) | skip) | (refine g_op ?_; refine g_call ?_; refine g_args ?_; (first | refine s_fn (lawake_c _) ?_ | refine s_fn (hlg _) ?_ | refine s_fn (hs1 _) ?_ | refine s_fn (hs2 _) ?_ | refine s_fn (hcp _) ?_ | refine s_fn (hx _) ?_ | refine s_fn (hy _) ?_ | refine s_fn (ho _) ?_ | refine s_fn (hcm _) ?_ | refine s_fn (hbx _) ?_ | refine s_fn (hby _) ?_) <;> try first | omega | assumption) | refine ny ?_ | refine WA_block ?_ | (refine uH8_7_5 ?_; refine ⟨by kernel_rfl, ?_⟩) | (refine uH8_7_6 ?_; refine ⟨by kernel_rfl, ?_⟩) | ((first | refine grp_cons (fun _ => lawake_c _) ?_ | refine grp_cons (fun _ => hlg _) ?_ | refine grp_cons (fun _ => hs1 _) ?_ | refine grp_cons (fun _ => hs2 _) ?_ | refine grp_cons (fun _ => hcp _) ?_ | refine grp_cons (fun _ => hx _) ?_ | refine grp_cons (fun _ => hy _) ?_ | refine grp_cons (fun _ => ho _) ?_ | refine grp_cons (fun _ => hcm _) ?_ | refine grp_cons (fun _ => hbx _) ?_ | refine grp_cons (fun _ => hby _) ?_) <;> try first | omega | assumption) | (refine g_d ?_; refine d_args ?_; (first | refine d_fn (lawake_c _) ?_ | refine d_fn (hlg _) ?_ | refine d_fn (hs1 _) ?_ | refine d_fn (hs2 _) ?_ | refine d_fn (hcp _) ?_ | refine d_fn (hx _) ?_ | refine d_fn (hy _) ?_ | refine d_fn (ho _) ?_ | refine d_fn (hcm _) ?_ | refine d_fn (hbx _) ?_ | refine d_fn (hby _) ?_ | refine d_fnQ (fun _ => lawake_c _) ?_ | refine d_fnQ (fun _ => hlg _) ?_ | refine d_fnQ (fun _ => hs1 _) ?_ | refine d_fnQ (fun _ => hs2 _) ?_ | refine d_fnQ (fun _ => hcp _) ?_ | refine d_fnQ (fun _ => hx _) ?_ | refine d_fnQ (fun _ => hy _) ?_ | refine d_fnQ (fun _ => ho _) ?_ | refine d_fnQ (fun _ => hcm _) ?_ | refine d_fnQ (fun _ => hbx _) ?_ | refine d_fnQ (fun _ => hby _) ?_) <;> try first | omega | assumption) | (refine g_d ?_; (first | refine d_fnY (lawake_c _) ?_ | refine d_fnY (hlg _) ?_ | refine d_fnY (hs1 _) ?_ | refine d_fnY (hs2 _) ?_ | refine d_fnY (hcp _) ?_ | refine d_fnY (hx _) ?_ | refine d_fnY (hy _) ?_ | refine d_fnY (ho _) ?_ | refine d_fnY (hcm _) ?_ | refine d_fnY (hbx _) ?_ | refine d_fnY (hby _) ?_) <;> try first | omega | assumption)))
          all_goals (try (exfalso; omega))
          all_goals (refine r_es hQ ?_; try with_reducible rfl)
  · obtain ⟨z1, e1, h1, h2⟩ := hdV_form a w p
    obtain ⟨z2, e2, h3, h4⟩ := hdV_form a n d
    obtain ⟨z3, e3, h5⟩ := ordV_form a
    rw [h1] at hx
    rw [h3] at hy
    rw [h5] at ho
    have hx0 : e1 ≠ 0 ∨ e2 ≠ 0 := by
      by_cases h : chkDip a w p = 0
      · exact .inr (h4 fun h6 => hc ⟨h, h6⟩)
      · exact .inl (h2 h)
    have hlx := hlt
    have hly := hlt
    have hlo := hlt
    have htx := hlt
    have hty := hlt
    unfold actV at hlg hcp hx hy ho ⊢
    refine Gives_in Try.func7 rfl Try.ntmps7 Try.results7 (by kernel_rfl) (by simp) rfl fun Q hQ => ?_
    (have FX := And.intro hx0 (And.intro hlx (And.intro hly (And.intro hlo (And.intro htx (And.intro hty hal))))); repeat' (first | (refine sx ?_ ?_ <;> intro h <;> first | (exfalso; omega) | skip) | (refine g_op ?_; refine g_call ?_; refine g_args ?_; (first | refine s_fn (lawake_c _) ?_ | refine s_fn (hlg _) ?_ | refine s_fn (hs1 _) ?_ | refine s_fn (hs2 _) ?_ | refine s_fn (hcp _) ?_ | refine s_fn (hx _) ?_ | refine s_fn (hy _) ?_ | refine s_fn (ho _) ?_) <;> try first | omega | assumption) | refine ny ?_ | refine WA_block ?_ | (refine uH8_7_5 ?_; refine ⟨by kernel_rfl, ?_⟩) | (refine uH8_7_6 ?_; refine ⟨by kernel_rfl, ?_⟩) | ((first | refine grp_cons (fun _ => lawake_c _) ?_ | refine grp_cons (fun _ => hlg _) ?_ | refine grp_cons (fun _ => hs1 _) ?_ | refine grp_cons (fun _ => hs2 _) ?_ | refine grp_cons (fun _ => hcp _) ?_ | refine grp_cons (fun _ => hx _) ?_ | refine grp_cons (fun _ => hy _) ?_ | refine grp_cons (fun _ => ho _) ?_) <;> try first | omega | assumption) | (refine g_d ?_; refine d_args ?_; (first | refine d_fn (lawake_c _) ?_ | refine d_fn (hlg _) ?_ | refine d_fn (hs1 _) ?_ | refine d_fn (hs2 _) ?_ | refine d_fn (hcp _) ?_ | refine d_fn (hx _) ?_ | refine d_fn (hy _) ?_ | refine d_fn (ho _) ?_ | refine d_fnQ (fun _ => lawake_c _) ?_ | refine d_fnQ (fun _ => hlg _) ?_ | refine d_fnQ (fun _ => hs1 _) ?_ | refine d_fnQ (fun _ => hs2 _) ?_ | refine d_fnQ (fun _ => hcp _) ?_ | refine d_fnQ (fun _ => hx _) ?_ | refine d_fnQ (fun _ => hy _) ?_ | refine d_fnQ (fun _ => ho _) ?_) <;> try first | omega | assumption) | (refine g_d ?_; (first | refine d_fnY (lawake_c _) ?_ | refine d_fnY (hlg _) ?_ | refine d_fnY (hs1 _) ?_ | refine d_fnY (hs2 _) ?_ | refine d_fnY (hcp _) ?_ | refine d_fnY (hx _) ?_ | refine d_fnY (hy _) ?_ | refine d_fnY (ho _) ?_) <;> try first | omega | assumption)))
    all_goals (try (exfalso; omega))
    all_goals (refine r_es hQ ?_; try with_reducible rfl)
theorem begins_law (a : ActR) (w p n d : Int) (m : Mem) : Gives Try.prog 7 [.agg (actV a), .agg [.int .i64 w, .int .i64 p], .agg [.int .i64 n, .int .i64 d]] m (.bool true) := by
  by_cases h : light a ∧ sane w p ∧ sane n d
  · exact begins_in a w p n d h.1 h.2.1 h.2.2 m
  · exact begins_out a w p n d h m
end Go.Proofs.Ytmigenmibohnkaa
