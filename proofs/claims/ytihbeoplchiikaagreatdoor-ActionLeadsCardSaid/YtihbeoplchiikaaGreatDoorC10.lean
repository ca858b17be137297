/- contracts: values and slopes in the reference -/
import Derived.Test.YtihbeoplchiikaaGreatDoorC6
import Derived.Test.YtihbeoplchiikaaGreatDoorGC
set_option linter.unusedSimpArgs false
set_option linter.unusedVariables false
namespace Go.Proofs.YtihbeoplchiikaaGreatDoor
open Go.RowKit
attribute [local irreducible] WA WOs WDs WAn qThen qBlock tput
set_option maxHeartbeats 1000000
set_option maxRecDepth 20000
set_option linter.unusedSimpArgs false
set_option linter.unusedVariables false
attribute [local irreducible] smB cut sm

theorem rwhole_c (n : Int) (m : Mem) : Gives Tryz.prog 13 [.int .i64 n] m (.agg [.int .i64 n, .int .i64 1]) := by
  refine Gives_in Tryz.func13 rfl Tryz.ntmps13 Tryz.results13 (by kernel_rfl) (by simp) rfl fun Q hQ => ?_
  (repeat' (first | (refine sx ?_ ?_ <;> intro h <;> first | (exfalso; omega) | skip) | refine ny ?_ | refine WA_block ?_))
  all_goals (refine r_es hQ ?_; try with_reducible rfl)
theorem rslope_ok {a b : Pt} (a1 : sm a.1) (a2 : sm a.2) (b1 : sm b.1) (b2 : sm b.2) (hlt : a.1 < b.1) (hs : slOk a b) (m : Mem) : Gives Tryz.prog 102 [.agg (ptV a), .agg (ptV b)] m (.tup [.agg [.int .i64 (Rat.num (sl a b)), .int .i64 ((Rat.den (sl a b) : Nat) : Int)], .bool true]) := by
  have h := rslope_c a b a1 a2 b1 b2 hlt m
  rw [if_pos ⟨hs.1, hs.2.1⟩, smB_of hs.2.2] at h
  exact h
theorem uC10_88_4 {N : Nat} {l : List Oper} {t : List (Nat × V)} {m : Mem} {Q : Exit → List (Nat × V) → Mem → Prop} (h : RgN Tryz.prog N l t m Q (fun i => if i == 16 then .f else if i == 15 then .a else if i == 1 || i == 4 || i == 6 || i == 10 || i == 11 then .q else .p) [.one 0, .one 1, .one 2, .one 3, .one 4, .one 5, .one 6, .one 7, .one 8, .one 9, .one 10, .one 11, .one 12, .one 13, .one 14, .one 15, .one 16, .one 17]) : WA Tryz.prog N (.region 4 l.toArray true) t m Q := d_rgN h
theorem rslopeat_c (c : List Pt) (x : Rat) (hv : Valid c) (hx : sm x) (m : Mem) : Gives Tryz.prog 88 [.agg [.lst (ptsV c)], .agg [.int .i64 (Rat.num (x)), .int .i64 ((Rat.den (x) : Nat) : Int)]] m (.agg [.int .i64 (Rat.num (slopeE c x)), .int .i64 ((Rat.den (slopeE c x) : Nat) : Int)]) := by
  have hlen := ptsV_length (c := c)
  have hfew := hv.few
  have hp := hv.pos
  have hn := cnt_le c x
  have ht0 := hlen
  have hcz := hlen
  unfold slopeE
  simp only
  by_cases hz : cnt c x = 0 ∨ cnt c x = c.length
  · rw [if_pos hz]
    refine Gives_in Tryz.func88 rfl Tryz.ntmps88 Tryz.results88 (by kernel_rfl) (by simp) rfl fun Q hQ => ?_
    (have FX := fx3 hlen ht0 hcz; repeat' (first | (refine sx ?_ ?_ <;> intro h <;> first | (exfalso; omega) | skip) | (refine na ?_; (first | refine nb (rat_c c x hv hx) ?_ | refine nb (rwhole_c _) ?_) <;> try first | omega | assumption) | refine ny ?_ | refine WA_block ?_ | (refine uC10_88_4 ?_; refine ⟨by kernel_rfl, ?_⟩) | (refine g_d ?_; (first | refine d_fnY (rat_c c x hv hx _) ?_ | refine d_fnY (rwhole_c _ _) ?_) <;> try first | omega | assumption)))
    all_goals (try (exfalso; omega))
    all_goals (refine r_es hQ ?_; try with_reducible rfl)
    all_goals rfl
  · rw [if_neg hz]
    obtain ⟨i, hi⟩ : ∃ i, cnt c x = i + 1 := ⟨cnt c x - 1, by omega⟩
    have hgl := ptsV_get (c := c) (i := i) (by omega)
    have hgm := ptsV_get (c := c) (i := i + 1) (by omega)
    have s1 := hv.sm i (by omega)
    have s2 := hv.sm (i + 1) (by omega)
    have hsl := hv.sl i (by omega)
    have hup := hv.up i (by omega)
    unfold slN
    rw [hi, Nat.add_sub_cancel]
    obtain ⟨⟨u, v⟩, hu⟩ : ∃ p, at' c i = p := ⟨_, rfl⟩
    obtain ⟨⟨u2, v2⟩, hu2⟩ : ∃ p, at' c (i + 1) = p := ⟨_, rfl⟩
    rw [hu] at hgl s1 hsl hup ⊢
    rw [hu2] at hgm s2 hsl hup ⊢
    unfold ptV at hgl hgm
    dsimp only at hgl hgm s1 s2
    have e0 : (cnt c x : Int) - 1 = (i : Int) := by omega
    have ht0 := And.intro e0 (And.intro (Int.toNat_natCast i) (show ((i : Int) + 1).toNat = i + 1 by omega))
    have hcz := And.intro hgl hgm
    refine Gives_in Tryz.func88 rfl Tryz.ntmps88 Tryz.results88 (by kernel_rfl) (by simp) rfl fun Q hQ => ?_
    (have FX := fx3 hlen ht0 hcz; repeat' (first | (refine sx ?_ ?_ <;> intro h <;> first | (exfalso; omega) | skip) | (refine na ?_; (first | refine nb (rat_c c x hv hx) ?_ | refine nb (rwhole_c _) ?_ | refine nb (rslope_ok (a := (u, v)) (b := (u2, v2)) s1.1 s1.2 s2.1 s2.2 hup hsl) ?_) <;> try first | omega | assumption) | refine ny ?_ | refine WA_block ?_ | (refine uC10_88_4 ?_; refine ⟨by kernel_rfl, ?_⟩) | (refine g_d ?_; (first | refine d_fnY (rat_c c x hv hx _) ?_ | refine d_fnY (rwhole_c _ _) ?_ | refine d_fnY (rslope_ok (a := (u, v)) (b := (u2, v2)) s1.1 s1.2 s2.1 s2.2 hup hsl _) ?_) <;> try first | omega | assumption)))
    all_goals (try (exfalso; omega))
    all_goals (refine r_es hQ ?_; try with_reducible rfl)
theorem uC10_119_6 {N : Nat} {l : List Oper} {t : List (Nat × V)} {m : Mem} {Q : Exit → List (Nat × V) → Mem → Prop} (h : RgN Tryz.prog N l t m Q (fun i => if i == 16 then .f else if i == 15 then .a else if i == 1 || i == 4 || i == 6 || i == 10 || i == 11 then .q else .p) [.one 0, .one 1, .one 2, .one 3, .one 4, .one 5, .one 6, .one 7, .one 8, .one 9, .one 10, .one 11, .one 12, .one 13, .one 14, .one 15, .one 16, .one 17]) : WA Tryz.prog N (.region 6 l.toArray true) t m Q := d_rgN h
theorem uC10_119_7 {N : Nat} {l : List Oper} {t : List (Nat × V)} {m : Mem} {Q : Exit → List (Nat × V) → Mem → Prop} (h : RgN Tryz.prog N l t m Q (fun i => if i == 12 then .f else if i == 11 then .a else if i == 0 || i == 2 || i == 6 || i == 7 then .q else .p) [.one 0, .one 1, .one 2, .one 3, .one 4, .one 5, .one 6, .one 7, .one 8, .one 9, .one 10, .one 11, .one 12, .one 13]) : WA Tryz.prog N (.region 7 l.toArray true) t m Q := d_rgN h
theorem uC10_119_13 {N : Nat} {l : List Oper} {t : List (Nat × V)} {m : Mem} {Q : Exit → List (Nat × V) → Mem → Prop} (h : RgN Tryz.prog N l t m Q (fun i => if i == 10 then .w else if i == 1 || i == 5 || i == 6 || i == 7 then .q else .p) [.one 0, .one 1, .one 2, .one 3, .one 4, .one 5, .one 6, .one 7, .one 8, .one 9, .one 10, .one 11]) : WA Tryz.prog N (.region 13 l.toArray true) t m Q := d_rgN h
theorem rvalue_ok (c : List Pt) (x : Rat) (hv : Valid c) (hx : sm x) (ho : valOk c x) (m : Mem) : Gives Tryz.prog 119 [.agg [.lst (ptsV c)], .agg [.int .i64 (Rat.num (x)), .int .i64 ((Rat.den (x) : Nat) : Int)]] m (.tup [.agg [.int .i64 (Rat.num (valE c x)), .int .i64 ((Rat.den (valE c x) : Nat) : Int)], .bool true]) := by
  have hlen := ptsV_length (c := c)
  have hfew := hv.few
  have hp := hv.pos
  have hn := cnt_le c x
  have hg0 := ptsV_get hp
  unfold ptV at hg0
  have ht0 := hlen
  have hcz := hlen
  unfold valOk at ho
  unfold valE
  simp only at ho ⊢
  by_cases hz : cnt c x = 0
  · rw [if_pos hz]
    refine Gives_in Tryz.func119 rfl Tryz.ntmps119 Tryz.results119 (by kernel_rfl) (by simp) rfl fun Q hQ => ?_
    (have FX := fx4 hlen hg0 ht0 hcz; repeat' (first | (refine sx ?_ ?_ <;> intro h <;> first | (exfalso; omega) | skip) | (refine na ?_; (first | refine nb (rat_c c x hv hx) ?_) <;> try first | omega | assumption) | refine ny ?_ | refine WA_block ?_ | (refine uC10_119_6 ?_; refine ⟨by kernel_rfl, ?_⟩) | (refine uC10_119_7 ?_; refine ⟨by kernel_rfl, ?_⟩) | (refine uC10_119_13 ?_; refine ⟨by kernel_rfl, ?_⟩) | (refine g_d ?_; (first | refine d_fnY (rat_c c x hv hx _) ?_) <;> try first | omega | assumption)))
    all_goals (try (exfalso; omega))
    all_goals (refine r_es hQ ?_; try with_reducible rfl)
  · rw [if_neg hz]
    by_cases hl : cnt c x = c.length
    · rw [if_pos hl, hl]
      have hgl := ptsV_get (c := c) (i := c.length - 1) (by omega)
      unfold ptV at hgl
      have ht0 : ((c.length : Int) - 1).toNat = c.length - 1 := by omega
      have hcz := And.intro hgl (congrArg (fun z : Nat => (z : Int)) hl)
      refine Gives_in Tryz.func119 rfl Tryz.ntmps119 Tryz.results119 (by kernel_rfl) (by simp) rfl fun Q hQ => ?_
      (have FX := fx4 hlen hg0 ht0 hcz; repeat' (first | (refine sx ?_ ?_ <;> intro h <;> first | (exfalso; omega) | skip) | (refine na ?_; (first | refine nb (rat_c c x hv hx) ?_) <;> try first | omega | assumption) | refine ny ?_ | refine WA_block ?_ | (refine uC10_119_6 ?_; refine ⟨by kernel_rfl, ?_⟩) | (refine uC10_119_7 ?_; refine ⟨by kernel_rfl, ?_⟩) | (refine uC10_119_13 ?_; refine ⟨by kernel_rfl, ?_⟩) | (refine g_d ?_; (first | refine d_fnY (rat_c c x hv hx _) ?_) <;> try first | omega | assumption)))
      all_goals (try (exfalso; omega))
      all_goals (refine r_es hQ ?_; try with_reducible rfl)
    · rw [if_neg hl]
      obtain ⟨h1, h2, h3⟩ := (ho.resolve_left hz).resolve_left hl
      obtain ⟨i, hi⟩ : ∃ i, cnt c x = i + 1 := ⟨cnt c x - 1, by omega⟩
      have hgl := ptsV_get (c := c) (i := i) (by omega)
      have hgm := ptsV_get (c := c) (i := i + 1) (by omega)
      have s1 := hv.sm i (by omega)
      have s2 := hv.sm (i + 1) (by omega)
      have hsl := hv.sl i (by omega)
      have hup := hv.up i (by omega)
      have hss := hsl.2.2
      unfold slN at h2 h3 ⊢
      rw [hi, Nat.add_sub_cancel] at h1 h2 h3 ⊢
      obtain ⟨⟨u, v⟩, hu⟩ : ∃ p, at' c i = p := ⟨_, rfl⟩
      obtain ⟨⟨u2, v2⟩, hu2⟩ : ∃ p, at' c (i + 1) = p := ⟨_, rfl⟩
      rw [hu] at hgl s1 hsl hup hss h1 h2 h3 ⊢
      rw [hu2] at hgm s2 hsl hup hss h2 h3 ⊢
      unfold ptV at hgl hgm
      dsimp only at hgl hgm s1 s2 h1 h2 h3 ⊢
      generalize hS : sl (u, v) (u2, v2) = S at hss h2 h3 ⊢
      have hrs := fun m => rslope_ok (a := (u, v)) (b := (u2, v2)) s1.1 s1.2 s2.1 s2.2 hup hsl m
      rw [hS] at hrs
      have e0 : (cnt c x : Int) - 1 = (i : Int) := by omega
      have ht0 := And.intro e0 (And.intro (Int.toNat_natCast i) (show ((i : Int) + 1).toNat = i + 1 by omega))
      have hcz := And.intro hgl (And.intro hgm (And.intro (smB_of h1) (smB_of h2)))
      have hq := smB_of h3
      rw [← hq]
      refine Gives_in Tryz.func119 rfl Tryz.ntmps119 Tryz.results119 (by kernel_rfl) (by simp) rfl fun Q hQ => ?_
      (have FX := fx4 hlen hg0 ht0 hcz; repeat' (first | (refine sx ?_ ?_ <;> intro h <;> first | (exfalso; omega) | skip) | (refine na ?_; (first | refine nb (rat_c c x hv hx) ?_ | refine nb hrs ?_ | refine nb (rsub_c x u hx s1.1) ?_ | refine nb (rmul_c _ _ h1 hss) ?_ | refine nb (radd_c _ _ s1.2 h2) ?_) <;> try first | omega | assumption) | refine ny ?_ | refine WA_block ?_ | (refine uC10_119_6 ?_; refine ⟨by kernel_rfl, ?_⟩) | (refine uC10_119_7 ?_; refine ⟨by kernel_rfl, ?_⟩) | (refine uC10_119_13 ?_; refine ⟨by kernel_rfl, ?_⟩) | (refine g_d ?_; (first | refine d_fnY (rat_c c x hv hx _) ?_ | refine d_fnY (hrs _) ?_ | refine d_fnY (rsub_c x u hx s1.1 _) ?_ | refine d_fnY (rmul_c _ _ h1 hss _) ?_ | refine d_fnY (radd_c _ _ s1.2 h2 _) ?_) <;> try first | omega | assumption)))
      all_goals (try (exfalso; omega))
      all_goals (refine r_es hQ ?_; try with_reducible rfl)
theorem rvalue_bad (c : List Pt) (x : Rat) (hv : Valid c) (hx : sm x) (ho : ¬ valOk c x) : ∃ a b : Int, ∀ m : Mem, Gives Tryz.prog 119 [.agg [.lst (ptsV c)], .agg [.int .i64 (Rat.num (x)), .int .i64 ((Rat.den (x) : Nat) : Int)]] m (.tup [.agg [.int .i64 a, .int .i64 b], .bool false]) := by
  have hlen := ptsV_length (c := c)
  have hfew := hv.few
  have hp := hv.pos
  have hn := cnt_le c x
  unfold valOk at ho
  simp only [not_or] at ho
  obtain ⟨hz, hl, ho⟩ := ho
  obtain ⟨i, hi⟩ : ∃ i, cnt c x = i + 1 := ⟨cnt c x - 1, by omega⟩
  have hgl := ptsV_get (c := c) (i := i) (by omega)
  have hgm := ptsV_get (c := c) (i := i + 1) (by omega)
  have s1 := hv.sm i (by omega)
  have s2 := hv.sm (i + 1) (by omega)
  have hsl := hv.sl i (by omega)
  have hup := hv.up i (by omega)
  have hss := hsl.2.2
  unfold slN at ho
  rw [hi, Nat.add_sub_cancel] at ho
  obtain ⟨⟨u, v⟩, hu⟩ : ∃ p, at' c i = p := ⟨_, rfl⟩
  obtain ⟨⟨u2, v2⟩, hu2⟩ : ∃ p, at' c (i + 1) = p := ⟨_, rfl⟩
  rw [hu] at hgl s1 hsl hup hss ho
  rw [hu2] at hgm s2 hsl hup hss ho
  unfold ptV at hgl hgm
  dsimp only at hgl hgm s1 s2 ho
  generalize hS : sl (u, v) (u2, v2) = S at hss ho
  have hrs := fun m => rslope_ok (a := (u, v)) (b := (u2, v2)) s1.1 s1.2 s2.1 s2.2 hup hsl m
  rw [hS] at hrs
  have e0 : (cnt c x : Int) - 1 = (i : Int) := by omega
  have ht0 := And.intro e0 (And.intro (Int.toNat_natCast i) (show ((i : Int) + 1).toNat = i + 1 by omega))
  by_cases h1 : sm (x - u)
  · by_cases h2 : sm ((x - u) * S)
    · have h3 : ¬ sm (v + (x - u) * S) := fun h => ho ⟨h1, h2, h⟩
      have hcz := And.intro hgl (And.intro hgm (And.intro (smB_of h1) (smB_of h2)))
      have hq := smB_no h3
      refine ⟨(v + (x - u) * S).num, ((v + (x - u) * S).den : Int), fun m => ?_⟩
      rw [← hq]
      refine Gives_in Tryz.func119 rfl Tryz.ntmps119 Tryz.results119 (by kernel_rfl) (by simp) rfl fun Q hQ => ?_
      (have FX := fx3 hlen ht0 hcz; repeat' (first | (refine sx ?_ ?_ <;> intro h <;> first | (exfalso; omega) | skip) | (refine na ?_; (first | refine nb (rat_c c x hv hx) ?_ | refine nb hrs ?_ | refine nb (rsub_c x u hx s1.1) ?_ | refine nb (rmul_c _ _ h1 hss) ?_ | refine nb (radd_c _ _ s1.2 h2) ?_) <;> try first | omega | assumption) | refine ny ?_ | refine WA_block ?_ | (refine uC10_119_6 ?_; refine ⟨by kernel_rfl, ?_⟩) | (refine uC10_119_7 ?_; refine ⟨by kernel_rfl, ?_⟩) | (refine uC10_119_13 ?_; refine ⟨by kernel_rfl, ?_⟩) | (refine g_d ?_; (first | refine d_fnY (rat_c c x hv hx _) ?_ | refine d_fnY (hrs _) ?_ | refine d_fnY (rsub_c x u hx s1.1 _) ?_ | refine d_fnY (rmul_c _ _ h1 hss _) ?_ | refine d_fnY (radd_c _ _ s1.2 h2 _) ?_) <;> try first | omega | assumption)))
      all_goals (try (exfalso; omega))
      all_goals (refine r_es hQ ?_; try with_reducible rfl)
    · have hcz := And.intro hgl (And.intro hgm (And.intro (smB_of h1) (smB_no h2)))
      refine ⟨0, 0, fun m => ?_⟩
      refine Gives_in Tryz.func119 rfl Tryz.ntmps119 Tryz.results119 (by kernel_rfl) (by simp) rfl fun Q hQ => ?_
      (have FX := fx3 hlen ht0 hcz; repeat' (first | (refine sx ?_ ?_ <;> intro h <;> first | (exfalso; omega) | skip) | (refine na ?_; (first | refine nb (rat_c c x hv hx) ?_ | refine nb hrs ?_ | refine nb (rsub_c x u hx s1.1) ?_ | refine nb (rmul_c _ _ h1 hss) ?_) <;> try first | omega | assumption) | refine ny ?_ | refine WA_block ?_ | (refine uC10_119_6 ?_; refine ⟨by kernel_rfl, ?_⟩) | (refine uC10_119_7 ?_; refine ⟨by kernel_rfl, ?_⟩) | (refine uC10_119_13 ?_; refine ⟨by kernel_rfl, ?_⟩) | (refine g_d ?_; (first | refine d_fnY (rat_c c x hv hx _) ?_ | refine d_fnY (hrs _) ?_ | refine d_fnY (rsub_c x u hx s1.1 _) ?_ | refine d_fnY (rmul_c _ _ h1 hss _) ?_) <;> try first | omega | assumption)))
      all_goals (try (exfalso; omega))
      all_goals (refine r_es hQ ?_; try with_reducible rfl)
  · have hcz := And.intro hgl (And.intro hgm (smB_no h1))
    refine ⟨0, 0, fun m => ?_⟩
    refine Gives_in Tryz.func119 rfl Tryz.ntmps119 Tryz.results119 (by kernel_rfl) (by simp) rfl fun Q hQ => ?_
    (have FX := fx3 hlen ht0 hcz; repeat' (first | (refine sx ?_ ?_ <;> intro h <;> first | (exfalso; omega) | skip) | (refine na ?_; (first | refine nb (rat_c c x hv hx) ?_ | refine nb hrs ?_ | refine nb (rsub_c x u hx s1.1) ?_) <;> try first | omega | assumption) | refine ny ?_ | refine WA_block ?_ | (refine uC10_119_6 ?_; refine ⟨by kernel_rfl, ?_⟩) | (refine uC10_119_7 ?_; refine ⟨by kernel_rfl, ?_⟩) | (refine uC10_119_13 ?_; refine ⟨by kernel_rfl, ?_⟩) | (refine g_d ?_; (first | refine d_fnY (rat_c c x hv hx _) ?_ | refine d_fnY (hrs _) ?_ | refine d_fnY (rsub_c x u hx s1.1 _) ?_) <;> try first | omega | assumption)))
    all_goals (try (exfalso; omega))
    all_goals (refine r_es hQ ?_; try with_reducible rfl)
end Go.Proofs.YtihbeoplchiikaaGreatDoor
