/- the law RegulationProves, over contracts -/
import Derived.Test.YtaoakololkcepaaB33
import Derived.Test.YtaoakololkcepaaB41
import Derived.Test.YtaoakololkcepaaB43
import Derived.Test.YtaoakololkcepaaB44
import Derived.Test.YtaoakololkcepaaB45
import Derived.Test.YtaoakololkcepaaB54
import Derived.Test.YtaoakololkcepaaB55
set_option linter.unusedSimpArgs false
set_option linter.unusedVariables false
namespace Go.Proofs.Ytaoakololkcepaa
open Go.RowKit
attribute [local irreducible] WA WOs WDs WAn qThen qBlock tput
set_option maxHeartbeats 1000000
set_option maxRecDepth 20000
set_option linter.unusedSimpArgs false
set_option linter.unusedVariables false
set_option maxHeartbeats 4000000
theorem uR5_12_14 {N : Nat} {l : List Oper} {t : List (Nat × V)} {m : Mem} {Q : Exit → List (Nat × V) → Mem → Prop} (h : RgN Try.prog N l t m Q (fun i => if i == 3 || i == 5 || i == 6 || i == 8 || i == 9 then .q else .p) [.one 0, .one 1, .one 2, .one 3, .one 4, .one 5, .one 6, .one 7, .one 8, .one 9]) : WA Try.prog N (.region 14 l.toArray true) t m Q := d_rgN h
theorem proves_out (b : BnR) (ws : List Int) (l : List (List StR)) (hout : ¬ (narrow b ∧ ¬ 20 < (ws.length : Int) ∧ brief l)) (m : Mem) : Gives Try.prog 12 [.agg (bnV b), .lst (nsV ws), .lst (plV l)] m (.bool true) := by
  have hlp := plV_length (l := l)
  have hlw := nsV_length (l := ws)
  unfold bnV
  refine Gives_in Try.func12 rfl Try.ntmps12 Try.results12 (by kernel_rfl) (by simp) rfl fun Q hQ => ?_
  (have FX := And.intro hlp hlw; repeat' (first | (refine sx ?_ ?_ <;> intro h <;> first | (exfalso; omega) | skip) | (refine g_op ?_; refine g_call ?_; refine g_args ?_; (first | refine s_fn (lawake_c _) ?_ | refine s_fn (lnarrow_c _ _) ?_ | refine s_fn (lbrief_c _ _) ?_) <;> try first | omega | assumption) | refine ny ?_ | refine WA_block ?_ | (refine uR5_12_14 ?_; refine ⟨by kernel_rfl, ?_⟩) | ((first | refine grp_cons (fun _ => lawake_c _) ?_ | refine grp_cons (fun _ => lnarrow_c _ _) ?_ | refine grp_cons (fun _ => lbrief_c _ _) ?_) <;> try first | omega | assumption) | (refine g_d ?_; refine d_args ?_; (first | refine d_fn (lawake_c _) ?_ | refine d_fn (lnarrow_c _ _) ?_ | refine d_fn (lbrief_c _ _) ?_ | refine d_fnQ (fun _ => lawake_c _) ?_ | refine d_fnQ (fun _ => lnarrow_c _ _) ?_ | refine d_fnQ (fun _ => lbrief_c _ _) ?_) <;> try first | omega | assumption) | (refine g_d ?_; (first | refine d_fnY (lawake_c _) ?_ | refine d_fnY (lnarrow_c _ _) ?_ | refine d_fnY (lbrief_c _ _) ?_) <;> try first | omega | assumption)))
  all_goals (try (exfalso; first | exact hout ⟨by assumption, by assumption, by assumption⟩ | omega))
  all_goals (refine r_es hQ ?_; try with_reducible rfl)
theorem proves_bad (b : BnR) (ws : List Int) (l : List (List StR)) (hN : narrow b) (hw : ¬ 20 < (ws.length : Int)) (hB : brief l) (h0 : bnErr b ≠ 0) (m : Mem) : Gives Try.prog 12 [.agg (bnV b), .lst (nsV ws), .lst (plV l)] m (.bool true) := by
  have hb := light_bl hN.1
  have hlp := plV_length (l := l)
  have hlw := nsV_length (l := ws)
  have hlo : (nsV ([] : List Int)).length = 0 := rfl
  have hna := fun m => lnarrow_c b m
  rw [decide_eq_true hN] at hna
  have hbf := fun m => lbrief_c l m
  rw [decide_eq_true hB] at hbf
  have hcp := fun m => rcopy_c b hb m
  have hci := fun m => bcopyints_c ws (by omega) m
  have hcr := fun m => gCheckRefusal_c b hb ws (by omega) m
  rw [if_pos h0] at hcr
  have hou := fun m => Gives_weak (v' := .tup [.lst (nsV []), .int .i64 (bnErr b)]) (gOut_bad b hb h0 m) (wk_tup ⟨wk_nil, WkV.refl _, trivial⟩)
  unfold bnV at hcr hou ⊢
  generalize bnErr b = c at *
  refine Gives_in Try.func12 rfl Try.ntmps12 Try.results12 (by kernel_rfl) (by simp) rfl fun Q hQ => ?_
  (have FX := And.intro hlp (And.intro hlw hlo); repeat' (first | (refine sx ?_ ?_ <;> intro h <;> first | (exfalso; omega) | skip) | (refine g_op ?_; refine g_call ?_; refine g_args ?_; (first | refine s_fn (lawake_c _) ?_ | refine s_fn (hna _) ?_ | refine s_fn (hbf _) ?_ | refine s_fn (hcp _) ?_ | refine s_fn (hci _) ?_ | refine s_fn (hcr _) ?_ | refine s_fn (hou _) ?_) <;> try first | omega | assumption) | refine ny ?_ | refine WA_block ?_ | (refine uR5_12_14 ?_; refine ⟨by kernel_rfl, ?_⟩) | ((first | refine grp_cons (fun _ => lawake_c _) ?_ | refine grp_cons (fun _ => hna _) ?_ | refine grp_cons (fun _ => hbf _) ?_ | refine grp_cons (fun _ => hcp _) ?_ | refine grp_cons (fun _ => hci _) ?_ | refine grp_cons (fun _ => hcr _) ?_ | refine grp_cons (fun _ => hou _) ?_) <;> try first | omega | assumption) | (refine g_d ?_; refine d_args ?_; (first | refine d_fn (lawake_c _) ?_ | refine d_fn (hna _) ?_ | refine d_fn (hbf _) ?_ | refine d_fn (hcp _) ?_ | refine d_fn (hci _) ?_ | refine d_fn (hcr _) ?_ | refine d_fn (hou _) ?_ | refine d_fnQ (fun _ => lawake_c _) ?_ | refine d_fnQ (fun _ => hna _) ?_ | refine d_fnQ (fun _ => hbf _) ?_ | refine d_fnQ (fun _ => hcp _) ?_ | refine d_fnQ (fun _ => hci _) ?_ | refine d_fnQ (fun _ => hcr _) ?_ | refine d_fnQ (fun _ => hou _) ?_) <;> try first | omega | assumption) | (refine g_d ?_; (first | refine d_fnY (lawake_c _) ?_ | refine d_fnY (hna _) ?_ | refine d_fnY (hbf _) ?_ | refine d_fnY (hcp _) ?_ | refine d_fnY (hci _) ?_ | refine d_fnY (hcr _) ?_ | refine d_fnY (hou _) ?_) <;> try first | omega | assumption)))
  all_goals (try (exfalso; omega))
  refine WA_rounds 1 ?_
  (have FX := And.intro hlp (And.intro hlw hlo); repeat' (first | (refine sx ?_ ?_ <;> intro h <;> first | (exfalso; omega) | skip) | (refine g_op ?_; refine g_call ?_; refine g_args ?_; (first | refine s_fn (lawake_c _) ?_ | refine s_fn (hna _) ?_ | refine s_fn (hbf _) ?_ | refine s_fn (hcp _) ?_ | refine s_fn (hci _) ?_ | refine s_fn (hcr _) ?_ | refine s_fn (hou _) ?_) <;> try first | omega | assumption) | refine ny ?_ | refine WA_block ?_ | (refine uR5_12_14 ?_; refine ⟨by kernel_rfl, ?_⟩) | ((first | refine grp_cons (fun _ => lawake_c _) ?_ | refine grp_cons (fun _ => hna _) ?_ | refine grp_cons (fun _ => hbf _) ?_ | refine grp_cons (fun _ => hcp _) ?_ | refine grp_cons (fun _ => hci _) ?_ | refine grp_cons (fun _ => hcr _) ?_ | refine grp_cons (fun _ => hou _) ?_) <;> try first | omega | assumption) | (refine g_d ?_; refine d_args ?_; (first | refine d_fn (lawake_c _) ?_ | refine d_fn (hna _) ?_ | refine d_fn (hbf _) ?_ | refine d_fn (hcp _) ?_ | refine d_fn (hci _) ?_ | refine d_fn (hcr _) ?_ | refine d_fn (hou _) ?_ | refine d_fnQ (fun _ => lawake_c _) ?_ | refine d_fnQ (fun _ => hna _) ?_ | refine d_fnQ (fun _ => hbf _) ?_ | refine d_fnQ (fun _ => hcp _) ?_ | refine d_fnQ (fun _ => hci _) ?_ | refine d_fnQ (fun _ => hcr _) ?_ | refine d_fnQ (fun _ => hou _) ?_) <;> try first | omega | assumption) | (refine g_d ?_; (first | refine d_fnY (lawake_c _) ?_ | refine d_fnY (hna _) ?_ | refine d_fnY (hbf _) ?_ | refine d_fnY (hcp _) ?_ | refine d_fnY (hci _) ?_ | refine d_fnY (hcr _) ?_ | refine d_fnY (hou _) ?_) <;> try first | omega | assumption)))
  all_goals (try (exfalso; omega))
  all_goals (refine r_es hQ ?_; try with_reducible rfl)
theorem proves_ok (b : BnR) (ws : List Int) (l : List (List StR)) (hN : narrow b) (hw : ¬ 20 < (ws.length : Int)) (hB : brief l) (h0 : bnErr b = 0) (m : Mem) : Gives Try.prog 12 [.agg (bnV b), .lst (nsV ws), .lst (plV l)] m (.bool true) := by
  have hb := light_bl hN.1
  have hbd := bnd_ok (bn_ok h0)
  have hl1 := hB.1
  have hlp := plV_length (l := l)
  have hlw := nsV_length (l := ws)
  have hlm := mssV_length (l := b.ms)
  have hfm := hbd.fm
  have hna := fun m => lnarrow_c b m
  rw [decide_eq_true hN] at hna
  have hbf := fun m => lbrief_c l m
  rw [decide_eq_true hB] at hbf
  have hcp := fun m => rcopy_c b hb m
  have hci := fun m => bcopyints_c ws (by omega) m
  have hcr := fun m => gCheckRefusal_c b hb ws (by omega) m
  rw [if_neg (by omega)] at hcr
  have hpl := fun m => lplan_c l (by omega) (fun i hi => by have := hB.2 i hi; omega) m
  have hck := fun m => gCheckPlan_ok b hb h0 l m
  have hou := fun m => gOut_ok b hb h0 m
  have hlo := nuV_length (l := outP b b.ms.length)
  have hole := outP_le b b.ms.length
  have hom : ∀ i, i < (outP b b.ms.length).length → (outP b b.ms.length).getD i 0 < b.ms.length ∧ outB b ((outP b b.ms.length).getD i 0) = true := fun i hi => by
    have h1 : (outP b b.ms.length).getD i 0 ∈ outP b b.ms.length := mem_at hi
    unfold outP at h1
    have h2 := List.mem_filter.1 h1
    exact ⟨List.mem_range.1 h2.1, h2.2⟩
  obtain ⟨fc, hfc, hfe⟩ : ∃ fc : Int, (fc = 12 ∨ fc = 8) ∧ (ckW b ws = 0 → ∀ m, Gives Try.prog 59 [.agg (bnV b)] m (.tup [.nilsl, .int .i64 0, .int .i64 fc])) := by
    have hgf := fun m => gfewest_ok b hb h0 m
    unfold fwV at hgf
    by_cases ht : 100000 < trK b.ads b.ads.length
    · rw [if_pos ht] at hgf
      exact ⟨8, .inr rfl, fun _ => hgf⟩
    · rw [if_neg ht] at hgf
      refine ⟨12, .inl rfl, fun hc => ?_⟩
      by_cases hf : (fwB b).f = true
      · obtain ⟨h1, h2, _⟩ := fwB_ok (b := b) (fun i hi => by have := hbd.le i hi; have := hbd.mo i hi; omega) hf
        exact absurd (good_meets h1 h2) (ckW_zero hc).2.2
      · rw [if_neg hf] at hgf
        exact hgf
  have hce : ckW b ws = 0 → cpE b l ≠ 0 := fun hc h => by
    unfold cpE at h
    by_cases hs : smE b l = 0
    · rw [if_neg (by omega)] at h
      by_cases hk : brkP b (smS b l) b.ms.length = []
      · exact (ckW_zero hc).2.2 (good_meets (smS_ok hbd hs) hk)
      · rw [if_pos hk] at h; omega
    · rw [if_pos hs] at h; omega
  have hal := fun i hi h => out_alone (b := b) hbd (i := i) hi h
  have hga := hlp
  have hrs := hlp
  have hsz := hlp
  have hca := hlp
  have hca0 : ∀ (o : Nat), o < b.ms.length → outB b o = true → ∀ (m : Mem) (k : Nat), (∃ st, m[k]? = some (.cells st 3 1 (nsV (alnL b.ms.length o)))) → Gives Try.prog 41 [.agg (bnV b), .sl k b.ms.length] m (.int .i64 0) := fun o ho h m k hk => hk.elim fun st hk => by
    have h2 := gCheckRefusal_s b hb (alnL b.ms.length o) (by rw [alnL_length]; omega) m k hk b.ms.length (alnL_length _ _).symm
    rw [if_neg (by omega), hal o ho h] at h2
    exact h2
  unfold bnV at hcr hck hou hfe hca0 ⊢
  generalize ckW b ws = e at *
  generalize cpE b l = ce at *
  generalize cpN b l = cn at *
  generalize outP b b.ms.length = out at *
  refine Gives_in Try.func12 rfl Try.ntmps12 Try.results12 (by kernel_rfl) (by simp) rfl fun Q hQ => ?_
  (have FX := And.intro hlp (And.intro hlw (And.intro hlo (And.intro hlm (And.intro hga (And.intro hrs hsz))))); repeat' (first | (refine sx ?_ ?_ <;> intro h <;> first | (exfalso; omega) | skip) | (refine g_op ?_; refine g_call ?_; refine g_args ?_; (first | refine s_fn (lawake_c _) ?_ | refine s_fn (hna _) ?_ | refine s_fn (hbf _) ?_ | refine s_fn (hcp _) ?_ | refine s_fn (hci _) ?_ | refine s_fn (hcr _) ?_ | refine s_fn (hfe (by assumption) _) ?_ | refine s_fn (hpl _) ?_ | refine s_fn (hck _) ?_ | refine s_fn (hou _) ?_ | refine s_fn (bwithin_c _ _ _ _) ?_ | refine s_fn (hca _ _ ?_) ?_) <;> try first | omega | assumption) | refine ny ?_ | refine WA_block ?_ | (refine uR5_12_14 ?_; refine ⟨by kernel_rfl, ?_⟩) | ((first | refine grp_cons (fun _ => lawake_c _) ?_ | refine grp_cons (fun _ => hna _) ?_ | refine grp_cons (fun _ => hbf _) ?_ | refine grp_cons (fun _ => hcp _) ?_ | refine grp_cons (fun _ => hci _) ?_ | refine grp_cons (fun _ => hcr _) ?_ | refine grp_cons (fun _ => hfe (by assumption) _) ?_ | refine grp_cons (fun _ => hpl _) ?_ | refine grp_cons (fun _ => hck _) ?_ | refine grp_cons (fun _ => hou _) ?_ | refine grp_cons (fun _ => bwithin_c _ _ _ _) ?_ | refine grp_cons (fun _ => hca _ _ ?_) ?_) <;> try first | omega | assumption) | (refine g_d ?_; refine d_args ?_; (first | refine d_fn (lawake_c _) ?_ | refine d_fn (hna _) ?_ | refine d_fn (hbf _) ?_ | refine d_fn (hcp _) ?_ | refine d_fn (hci _) ?_ | refine d_fn (hcr _) ?_ | refine d_fn (hfe (by assumption) _) ?_ | refine d_fn (hpl _) ?_ | refine d_fn (hck _) ?_ | refine d_fn (hou _) ?_ | refine d_fn (bwithin_c _ _ _ _) ?_ | refine d_fn (hca _ _ ?_) ?_ | refine d_fnQ (fun _ => lawake_c _) ?_ | refine d_fnQ (fun _ => hna _) ?_ | refine d_fnQ (fun _ => hbf _) ?_ | refine d_fnQ (fun _ => hcp _) ?_ | refine d_fnQ (fun _ => hci _) ?_ | refine d_fnQ (fun _ => hcr _) ?_ | refine d_fnQ (fun _ => hfe (by assumption) _) ?_ | refine d_fnQ (fun _ => hpl _) ?_ | refine d_fnQ (fun _ => hck _) ?_ | refine d_fnQ (fun _ => hou _) ?_ | refine d_fnQ (fun _ => bwithin_c _ _ _ _) ?_ | refine d_fnQ (fun _ => hca _ _ ?_) ?_) <;> try first | omega | assumption) | (refine g_d ?_; (first | refine d_fnY (lawake_c _) ?_ | refine d_fnY (hna _) ?_ | refine d_fnY (hbf _) ?_ | refine d_fnY (hcp _) ?_ | refine d_fnY (hci _) ?_ | refine d_fnY (hcr _) ?_ | refine d_fnY (hfe (by assumption) _) ?_ | refine d_fnY (hpl _) ?_ | refine d_fnY (hck _) ?_ | refine d_fnY (hou _) ?_ | refine d_fnY (bwithin_c _ _ _ _) ?_ | refine d_fnY (hca _ _ ?_) ?_) <;> try first | omega | assumption)))
  all_goals (try (exfalso; first | omega | contradiction))
  all_goals
    refine WA_whileK (σ := Nat) [3, 12, 13, 14] (fun i => [.ptr (lend m).length 0 0, .lst (nuV out), .int .i64 0, .int .i64 i]) (fun _ => [.cells .own 25 2 [[.lst (mssV b.ms), .lst (adsV b.ads)]]]) 1 (fun i => i ≤ out.length) (fun i => out.length - i) 0 (Nat.zero_le _) tv_ rfl (fun _ => rfl) (by intro s s' _ _; simp [conB, conS, V.keeps, V.plain, Blk.flat, flatL, plainL, V.flat]) (by intro s s' _ _; simp [conB, conS, V.keeps, V.plain, Blk.flat, flatL, plainL, V.flat]) ?_
    rintro i hi1 K hK
    simp only [zipT]
    clear FX hga hrs hsz hca hcr hfe hck hou
    have hcr := hlp
    have hfe := fun (_ : e = 0) => hlp
    have hck := hlp
    have hou := hlp
    rcases Nat.lt_or_ge i out.length with hi | hi
    · have hga := nuV_get hi
      obtain ⟨hom1, hom2⟩ := hom i hi
      have hca := fun m k h => hca0 _ hom1 hom2 m k h
      generalize out.getD i 0 = o at *
      have hrs : ∀ k, k = b.ms.length → List.replicate k [V.int .i64 0] = nsV (List.replicate b.ms.length 0) := fun k h => by rw [h]; simp [nsV]
      have hsz : (nsV (List.replicate b.ms.length 0)).set o [V.int .i64 1] = nsV (alnL b.ms.length o) ∧ (nsV (List.replicate b.ms.length 0)).length = b.ms.length ∧ (nsV (List.replicate b.ms.length 0))[o]? = some [V.int .i64 0] := ⟨by unfold alnL; rw [nsV_set], by simp [nsV], by simp [nsV, hom1]⟩
      (have FX := And.intro hlp (And.intro hlw (And.intro hlo (And.intro hlm (And.intro hga (And.intro hrs hsz))))); repeat' (first | (refine sx ?_ ?_ <;> intro h <;> first | (exfalso; omega) | skip) | (refine g_op ?_; refine g_call ?_; refine g_args ?_; (first | refine s_fn (lawake_c _) ?_ | refine s_fn (hna _) ?_ | refine s_fn (hbf _) ?_ | refine s_fn (hcp _) ?_ | refine s_fn (hci _) ?_ | refine s_fn (hcr _) ?_ | refine s_fn (hfe (by assumption) _) ?_ | refine s_fn (hpl _) ?_ | refine s_fn (hck _) ?_ | refine s_fn (hou _) ?_ | refine s_fn (bwithin_c _ _ _ _) ?_ | refine s_fn (hca _ _ ?_) ?_) <;> try first | omega | assumption) | refine ny ?_ | refine WA_block ?_ | (refine uR5_12_14 ?_; refine ⟨by kernel_rfl, ?_⟩) | ((first | refine grp_cons (fun _ => lawake_c _) ?_ | refine grp_cons (fun _ => hna _) ?_ | refine grp_cons (fun _ => hbf _) ?_ | refine grp_cons (fun _ => hcp _) ?_ | refine grp_cons (fun _ => hci _) ?_ | refine grp_cons (fun _ => hcr _) ?_ | refine grp_cons (fun _ => hfe (by assumption) _) ?_ | refine grp_cons (fun _ => hpl _) ?_ | refine grp_cons (fun _ => hck _) ?_ | refine grp_cons (fun _ => hou _) ?_ | refine grp_cons (fun _ => bwithin_c _ _ _ _) ?_ | refine grp_cons (fun _ => hca _ _ ?_) ?_) <;> try first | omega | assumption) | (refine g_d ?_; refine d_args ?_; (first | refine d_fn (lawake_c _) ?_ | refine d_fn (hna _) ?_ | refine d_fn (hbf _) ?_ | refine d_fn (hcp _) ?_ | refine d_fn (hci _) ?_ | refine d_fn (hcr _) ?_ | refine d_fn (hfe (by assumption) _) ?_ | refine d_fn (hpl _) ?_ | refine d_fn (hck _) ?_ | refine d_fn (hou _) ?_ | refine d_fn (bwithin_c _ _ _ _) ?_ | refine d_fn (hca _ _ ?_) ?_ | refine d_fnQ (fun _ => lawake_c _) ?_ | refine d_fnQ (fun _ => hna _) ?_ | refine d_fnQ (fun _ => hbf _) ?_ | refine d_fnQ (fun _ => hcp _) ?_ | refine d_fnQ (fun _ => hci _) ?_ | refine d_fnQ (fun _ => hcr _) ?_ | refine d_fnQ (fun _ => hfe (by assumption) _) ?_ | refine d_fnQ (fun _ => hpl _) ?_ | refine d_fnQ (fun _ => hck _) ?_ | refine d_fnQ (fun _ => hou _) ?_ | refine d_fnQ (fun _ => bwithin_c _ _ _ _) ?_ | refine d_fnQ (fun _ => hca _ _ ?_) ?_) <;> try first | omega | assumption) | (refine g_d ?_; (first | refine d_fnY (lawake_c _) ?_ | refine d_fnY (hna _) ?_ | refine d_fnY (hbf _) ?_ | refine d_fnY (hcp _) ?_ | refine d_fnY (hci _) ?_ | refine d_fnY (hcr _) ?_ | refine d_fnY (hfe (by assumption) _) ?_ | refine d_fnY (hpl _) ?_ | refine d_fnY (hck _) ?_ | refine d_fnY (hou _) ?_ | refine d_fnY (bwithin_c _ _ _ _) ?_ | refine d_fnY (hca _ _ ?_) ?_) <;> try first | omega | assumption)))
      all_goals (try (exfalso; first | omega | contradiction))
      all_goals try (exact ⟨_, ev_⟩)
      all_goals (refine nextL_ hK (i + 1) hi (by omega))
    · obtain rfl : i = out.length := by omega
      have hga := hlp
      have hrs := hlp
      have hsz := hlp
      have hca := hlp
      (have FX := And.intro hlp (And.intro hlw (And.intro hlo (And.intro hlm (And.intro hga (And.intro hrs hsz))))); repeat' (first | (refine sx ?_ ?_ <;> intro h <;> first | (exfalso; omega) | skip) | (refine g_op ?_; refine g_call ?_; refine g_args ?_; (first | refine s_fn (lawake_c _) ?_ | refine s_fn (hna _) ?_ | refine s_fn (hbf _) ?_ | refine s_fn (hcp _) ?_ | refine s_fn (hci _) ?_ | refine s_fn (hcr _) ?_ | refine s_fn (hfe (by assumption) _) ?_ | refine s_fn (hpl _) ?_ | refine s_fn (hck _) ?_ | refine s_fn (hou _) ?_ | refine s_fn (bwithin_c _ _ _ _) ?_ | refine s_fn (hca _ _ ?_) ?_) <;> try first | omega | assumption) | refine ny ?_ | refine WA_block ?_ | (refine uR5_12_14 ?_; refine ⟨by kernel_rfl, ?_⟩) | ((first | refine grp_cons (fun _ => lawake_c _) ?_ | refine grp_cons (fun _ => hna _) ?_ | refine grp_cons (fun _ => hbf _) ?_ | refine grp_cons (fun _ => hcp _) ?_ | refine grp_cons (fun _ => hci _) ?_ | refine grp_cons (fun _ => hcr _) ?_ | refine grp_cons (fun _ => hfe (by assumption) _) ?_ | refine grp_cons (fun _ => hpl _) ?_ | refine grp_cons (fun _ => hck _) ?_ | refine grp_cons (fun _ => hou _) ?_ | refine grp_cons (fun _ => bwithin_c _ _ _ _) ?_ | refine grp_cons (fun _ => hca _ _ ?_) ?_) <;> try first | omega | assumption) | (refine g_d ?_; refine d_args ?_; (first | refine d_fn (lawake_c _) ?_ | refine d_fn (hna _) ?_ | refine d_fn (hbf _) ?_ | refine d_fn (hcp _) ?_ | refine d_fn (hci _) ?_ | refine d_fn (hcr _) ?_ | refine d_fn (hfe (by assumption) _) ?_ | refine d_fn (hpl _) ?_ | refine d_fn (hck _) ?_ | refine d_fn (hou _) ?_ | refine d_fn (bwithin_c _ _ _ _) ?_ | refine d_fn (hca _ _ ?_) ?_ | refine d_fnQ (fun _ => lawake_c _) ?_ | refine d_fnQ (fun _ => hna _) ?_ | refine d_fnQ (fun _ => hbf _) ?_ | refine d_fnQ (fun _ => hcp _) ?_ | refine d_fnQ (fun _ => hci _) ?_ | refine d_fnQ (fun _ => hcr _) ?_ | refine d_fnQ (fun _ => hfe (by assumption) _) ?_ | refine d_fnQ (fun _ => hpl _) ?_ | refine d_fnQ (fun _ => hck _) ?_ | refine d_fnQ (fun _ => hou _) ?_ | refine d_fnQ (fun _ => bwithin_c _ _ _ _) ?_ | refine d_fnQ (fun _ => hca _ _ ?_) ?_) <;> try first | omega | assumption) | (refine g_d ?_; (first | refine d_fnY (lawake_c _) ?_ | refine d_fnY (hna _) ?_ | refine d_fnY (hbf _) ?_ | refine d_fnY (hcp _) ?_ | refine d_fnY (hci _) ?_ | refine d_fnY (hcr _) ?_ | refine d_fnY (hfe (by assumption) _) ?_ | refine d_fnY (hpl _) ?_ | refine d_fnY (hck _) ?_ | refine d_fnY (hou _) ?_ | refine d_fnY (bwithin_c _ _ _ _) ?_ | refine d_fnY (hca _ _ ?_) ?_) <;> try first | omega | assumption)))
      all_goals (try (exfalso; omega))
      all_goals (refine r_es hQ ?_; try with_reducible rfl)
theorem proves_law (b : BnR) (ws : List Int) (l : List (List StR)) (m : Mem) : Gives Try.prog 12 [.agg (bnV b), .lst (nsV ws), .lst (plV l)] m (.bool true) := by
  by_cases h : narrow b ∧ ¬ 20 < (ws.length : Int) ∧ brief l
  · by_cases h0 : bnErr b = 0
    · exact proves_ok b ws l h.1 h.2.1 h.2.2 h0 m
    · exact proves_bad b ws l h.1 h.2.1 h.2.2 h0 m
  · exact proves_out b ws l h m
end Go.Proofs.Ytaoakololkcepaa
