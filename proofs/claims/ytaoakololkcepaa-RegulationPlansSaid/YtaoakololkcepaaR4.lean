/- the law RegulationPlans, over contracts -/
import Derived.Test.YtaoakololkcepaaB33
import Derived.Test.YtaoakololkcepaaB42
import Derived.Test.YtaoakololkcepaaB43
import Derived.Test.YtaoakololkcepaaB44
set_option linter.unusedSimpArgs false
set_option linter.unusedVariables false
namespace Go.Proofs.Ytaoakololkcepaa
open Go.RowKit
attribute [local irreducible] WA WOs WDs WAn qThen qBlock tput
set_option maxHeartbeats 1000000
set_option maxRecDepth 20000
set_option linter.unusedSimpArgs false
set_option linter.unusedVariables false
set_option maxHeartbeats 4000000
theorem uR4_8_19 {N : Nat} {l : List Oper} {t : List (Nat × V)} {m : Mem} {Q : Exit → List (Nat × V) → Mem → Prop} (h : RgN Try.prog N l t m Q (fun i => if i == 7 then .w else if i == 1 || i == 2 || i == 8 then .a else if i == 0 || i == 6 then .q else .p) [.one 0, .one 3, .one 4, .one 5, .one 6, .grp true [1] [2], .one 7, .one 8, .one 9, .one 10, .one 11, .one 12, .one 13]) : WA Try.prog N (.region 19 l.toArray true) t m Q := d_rgN h
theorem uR4_8_20 {N : Nat} {l : List Oper} {t : List (Nat × V)} {m : Mem} {Q : Exit → List (Nat × V) → Mem → Prop} (h : RgN Try.prog N l t m Q (fun i => if i == 0 || i == 4 || i == 5 then .q else .p) [.one 0, .one 1, .one 2, .one 3, .one 4, .one 5, .one 6, .one 7, .one 8, .one 9, .one 10]) : WA Try.prog N (.region 20 l.toArray true) t m Q := d_rgN h
theorem plans_out (b : BnR) (l : List (List StR)) (hout : ¬ (light b ∧ brief l)) (m : Mem) : Gives Try.prog 8 [.agg (bnV b), .lst (plV l)] m (.bool true) := by
  have hlp := plV_length (l := l)
  unfold bnV
  refine Gives_in Try.func8 rfl Try.ntmps8 Try.results8 (by kernel_rfl) (by simp) rfl fun Q hQ => ?_
  (have FX := hlp; repeat' (first | (refine sx ?_ ?_ <;> intro h <;> first | (exfalso; omega) | skip) | (refine g_op ?_; refine g_call ?_; refine g_args ?_; (first | refine s_fn (lawake_c _) ?_ | refine s_fn (llight_c _ _) ?_ | refine s_fn (lbrief_c _ _) ?_) <;> try first | omega | assumption) | refine ny ?_ | refine WA_block ?_ | (refine uR4_8_19 ?_; refine ⟨by kernel_rfl, ?_⟩) | (refine uR4_8_20 ?_; refine ⟨by kernel_rfl, ?_⟩) | ((first | refine grp_cons (fun _ => lawake_c _) ?_ | refine grp_cons (fun _ => llight_c _ _) ?_ | refine grp_cons (fun _ => lbrief_c _ _) ?_) <;> try first | omega | assumption) | (refine g_d ?_; refine d_args ?_; (first | refine d_fn (lawake_c _) ?_ | refine d_fn (llight_c _ _) ?_ | refine d_fn (lbrief_c _ _) ?_ | refine d_fnQ (fun _ => lawake_c _) ?_ | refine d_fnQ (fun _ => llight_c _ _) ?_ | refine d_fnQ (fun _ => lbrief_c _ _) ?_) <;> try first | omega | assumption) | (refine g_d ?_; (first | refine d_fnY (lawake_c _) ?_ | refine d_fnY (llight_c _ _) ?_ | refine d_fnY (lbrief_c _ _) ?_) <;> try first | omega | assumption)))
  all_goals (try (exfalso; first | exact hout ⟨by assumption, by assumption⟩ | omega))
  all_goals (refine r_es hQ ?_; try with_reducible rfl)
/-- what Sums, CheckPlan return, of any bench -/
def suS (b : BnR) (l : List (List StR)) : List Int := if bnErr b ≠ 0 then [] else smS b l
def suN (b : BnR) (l : List (List StR)) : Int := if bnErr b ≠ 0 then 0 else smN b l
def suE (b : BnR) (l : List (List StR)) : Int := if bnErr b ≠ 0 then bnErr b else smE b l
def ckN (b : BnR) (l : List (List StR)) : Int := if bnErr b ≠ 0 then 0 else cpN b l
def ckE (b : BnR) (l : List (List StR)) : Int := if bnErr b ≠ 0 then bnErr b else cpE b l
theorem gSums_c (b : BnR) (hb : Bl b) (l : List (List StR)) (m : Mem) : Gives Try.prog 46 [.agg (bnV b), .lst (plV l)] m (.tup [.lst (nsV (suS b l)), .int .i64 (suN b l), .int .i64 (suE b l)]) := by
  unfold suS suN suE
  by_cases h : bnErr b = 0
  · rw [if_neg (by omega), if_neg (by omega), if_neg (by omega)]
    exact gSums_ok b hb h l m
  · rw [if_pos h, if_pos h, if_pos h]
    exact Gives_weak (gSums_bad b hb h l m) (wk_tup ⟨wk_nil, WkV.refl _, WkV.refl _, trivial⟩)
theorem gCheckPlan_c (b : BnR) (hb : Bl b) (l : List (List StR)) (m : Mem) : Gives Try.prog 48 [.agg (bnV b), .lst (plV l)] m (.tup [.int .i64 (ckN b l), .int .i64 (ckE b l)]) := by
  unfold ckN ckE
  by_cases h : bnErr b = 0
  · rw [if_neg (by omega), if_neg (by omega)]
    exact gCheckPlan_ok b hb h l m
  · rw [if_pos h, if_pos h]
    exact gCheckPlan_bad b hb h l m
theorem smS_len (b : BnR) (l : List (List StR)) : (smS b l).length = 0 ∨ (smS b l).length = b.ads.length := by
  rcases sm_cases b l with ⟨_, h, _⟩ | ⟨_, i, _, _, _, h, _⟩ | ⟨_, _, h, _⟩
  · rw [h]; exact .inl rfl
  · rw [h]; exact .inl rfl
  · rw [h, smK_length]; exact .inr rfl
theorem fz_stsV {k : Nat} {l : List StR} : frzV k (stsV l) (.sl k l.length) = .lst (stsV l) := by
  unfold frzV
  simp only []
  rw [if_pos ⟨trivial, by rw [stsV_length]; exact Nat.le_refl _⟩, List.take_of_length_le (by rw [stsV_length]; exact Nat.le_refl _)]
theorem gCheckPass_s (b : BnR) (hb : Bl b) (h0 : bnErr b = 0) (l : List StR) (m : Mem) (k : Nat) {st : Sta} (hk : m[k]? = some (.cells st 79 2 (stsV l))) (n : Nat) (hn : n = l.length) : Gives Try.prog 51 [.agg (bnV b), .sl k n] m (.tup [.int .i64 (psV b.ads l).1, .int .i64 (psV b.ads l).2]) := by
  subst hn
  refine Gives_fz hk (by simp [V.flat, flatL]) ?_
  have e : ([.agg (bnV b), .sl k l.length] : List V).map (frzV k (stsV l)) = [.agg (bnV b), .lst (stsV l)] := by
    simp only [List.map_cons, List.map_nil, fz_stsV]
    rfl
  rw [e]
  exact gCheckPass_ok b hb h0 l _
theorem plans_bad (b : BnR) (l : List (List StR)) (hL : light b) (hB : brief l) (h0 : bnErr b ≠ 0) (m : Mem) : Gives Try.prog 8 [.agg (bnV b), .lst (plV l)] m (.bool true) := by
  have hb := light_bl hL
  have hlp := plV_length (l := l)
  have hln : (nsV ([] : List Int)).length = 0 := rfl
  have hl1 := hB.1
  have hli := fun m => llight_c b m
  rw [decide_eq_true hL] at hli
  have hbf := fun m => lbrief_c l m
  rw [decide_eq_true hB] at hbf
  have hcp := fun m => rcopy_c b hb m
  have hpl := fun m => lplan_c l (by omega) (fun i hi => by have := hB.2 i hi; omega) m
  have hsu := fun m => gSums_c b hb l m
  have hck := fun m => gCheckPlan_c b hb l m
  have hcb := fun m => rcheckbench_c b hb m
  have hrs := hl1
  have hrk := hl1
  have hbi := hl1
  unfold suS suN suE at hsu
  unfold ckN ckE at hck
  rw [if_pos h0, if_pos h0, if_pos h0] at hsu
  rw [if_pos h0, if_pos h0] at hck
  unfold bnV at hsu hck ⊢
  generalize bnErr b = c at *
  refine Gives_in Try.func8 rfl Try.ntmps8 Try.results8 (by kernel_rfl) (by simp) rfl fun Q hQ => ?_
  (have FX := And.intro hlp hln; repeat' (first | (refine sx ?_ ?_ <;> intro h <;> first | (exfalso; omega) | skip) | (refine g_op ?_; refine g_call ?_; refine g_args ?_; (first | refine s_fn (lawake_c _) ?_ | refine s_fn (hli _) ?_ | refine s_fn (hbf _) ?_ | refine s_fn (hcp _) ?_ | refine s_fn (hpl _) ?_ | refine s_fn (hsu _) ?_ | refine s_fn (hck _) ?_ | refine s_fn (hcb _) ?_ | refine s_fn (hrs _) ?_ | refine s_fn (hrk _) ?_ | refine s_fn (hbi _) ?_) <;> try first | omega | assumption) | refine ny ?_ | refine WA_block ?_ | (refine uR4_8_19 ?_; refine ⟨by kernel_rfl, ?_⟩) | (refine uR4_8_20 ?_; refine ⟨by kernel_rfl, ?_⟩) | ((first | refine grp_cons (fun _ => lawake_c _) ?_ | refine grp_cons (fun _ => hli _) ?_ | refine grp_cons (fun _ => hbf _) ?_ | refine grp_cons (fun _ => hcp _) ?_ | refine grp_cons (fun _ => hpl _) ?_ | refine grp_cons (fun _ => hsu _) ?_ | refine grp_cons (fun _ => hck _) ?_ | refine grp_cons (fun _ => hcb _) ?_ | refine grp_cons (fun _ => hrs _) ?_ | refine grp_cons (fun _ => hrk _) ?_ | refine grp_cons (fun _ => hbi _) ?_) <;> try first | omega | assumption) | (refine g_d ?_; refine d_args ?_; (first | refine d_fn (lawake_c _) ?_ | refine d_fn (hli _) ?_ | refine d_fn (hbf _) ?_ | refine d_fn (hcp _) ?_ | refine d_fn (hpl _) ?_ | refine d_fn (hsu _) ?_ | refine d_fn (hck _) ?_ | refine d_fn (hcb _) ?_ | refine d_fn (hrs _) ?_ | refine d_fn (hrk _) ?_ | refine d_fn (hbi _) ?_ | refine d_fnQ (fun _ => lawake_c _) ?_ | refine d_fnQ (fun _ => hli _) ?_ | refine d_fnQ (fun _ => hbf _) ?_ | refine d_fnQ (fun _ => hcp _) ?_ | refine d_fnQ (fun _ => hpl _) ?_ | refine d_fnQ (fun _ => hsu _) ?_ | refine d_fnQ (fun _ => hck _) ?_ | refine d_fnQ (fun _ => hcb _) ?_ | refine d_fnQ (fun _ => hrs _) ?_ | refine d_fnQ (fun _ => hrk _) ?_ | refine d_fnQ (fun _ => hbi _) ?_) <;> try first | omega | assumption) | (refine g_d ?_; (first | refine d_fnY (lawake_c _) ?_ | refine d_fnY (hli _) ?_ | refine d_fnY (hbf _) ?_ | refine d_fnY (hcp _) ?_ | refine d_fnY (hpl _) ?_ | refine d_fnY (hsu _) ?_ | refine d_fnY (hck _) ?_ | refine d_fnY (hcb _) ?_ | refine d_fnY (hrs _) ?_ | refine d_fnY (hrk _) ?_ | refine d_fnY (hbi _) ?_) <;> try first | omega | assumption)))
  all_goals (try (exfalso; omega))
  all_goals (refine r_es hQ ?_; try with_reducible rfl)
theorem plans_ok (b : BnR) (l : List (List StR)) (hL : light b) (hB : brief l) (h0 : bnErr b = 0) (m : Mem) : Gives Try.prog 8 [.agg (bnV b), .lst (plV l)] m (.bool true) := by
  have hb := light_bl hL
  have hk := bn_ok h0
  have hbd := bnd_ok hk
  have hA := aln_of hk.fa hk.ae
  have hef : ∀ k, k < b.ads.length → (b.ads.getD k adz).effs.length ≤ 1000 := fun k hk2 => by have := (ad_ok (hk.ae k hk2)).fe; omega
  have hlp := plV_length (l := l)
  have hln := nsV_length (l := smS b l)
  have hl1 := hB.1
  have hli := fun m => llight_c b m
  rw [decide_eq_true hL] at hli
  have hbf := fun m => lbrief_c l m
  rw [decide_eq_true hB] at hbf
  have hcp := fun m => rcopy_c b hb m
  have hpl := fun m => lplan_c l (by omega) (fun i hi => by have := hB.2 i hi; omega) m
  have hsu := fun m => gSums_ok b hb h0 l m
  have hck := fun m => gCheckPlan_ok b hb h0 l m
  have hcb := fun m => rcheckbench_c b hb m
  rw [h0] at hcb
  have hrs := fun m => rsums_c b hbd hA l m
  have hrk := fun m => rcheckplan_c b hbd hA hef l m
  have hsl := smS_len b l
  have hfa := hbd.fa
  have hbi := fun m => bints_c (smS b l) (smS b l) (by omega) m
  simp only [decide_true] at hbi
  have hga := hlp
  have hls := hlp
  have hal := hlp
  have hps := hlp
  have hrp := hlp
  unfold bnV at hsu hck ⊢
  generalize smS b l = s at *
  generalize smN b l = n at *
  generalize smE b l = e at *
  generalize cpN b l = pn at *
  generalize cpE b l = pe at *
  refine Gives_in Try.func8 rfl Try.ntmps8 Try.results8 (by kernel_rfl) (by simp) rfl fun Q hQ => ?_
  (have FX := And.intro hlp (And.intro hln (And.intro hga (And.intro hls hal))); repeat' (first | (refine sx ?_ ?_ <;> intro h <;> first | (exfalso; omega) | skip) | (refine g_op ?_; refine g_call ?_; refine g_args ?_; (first | refine s_fn (lawake_c _) ?_ | refine s_fn (hli _) ?_ | refine s_fn (hbf _) ?_ | refine s_fn (hcp _) ?_ | refine s_fn (hpl _) ?_ | refine s_fn (hsu _) ?_ | refine s_fn (hck _) ?_ | refine s_fn (hcb _) ?_ | refine s_fn (hrs _) ?_ | refine s_fn (hrk _) ?_ | refine s_fn (hbi _) ?_ | refine s_fn (hps _ _ ?_) ?_ | refine s_fn (hrp _) ?_) <;> try first | omega | assumption) | refine ny ?_ | refine WA_block ?_ | (refine uR4_8_19 ?_; refine ⟨by kernel_rfl, ?_⟩) | (refine uR4_8_20 ?_; refine ⟨by kernel_rfl, ?_⟩) | ((first | refine grp_cons (fun _ => lawake_c _) ?_ | refine grp_cons (fun _ => hli _) ?_ | refine grp_cons (fun _ => hbf _) ?_ | refine grp_cons (fun _ => hcp _) ?_ | refine grp_cons (fun _ => hpl _) ?_ | refine grp_cons (fun _ => hsu _) ?_ | refine grp_cons (fun _ => hck _) ?_ | refine grp_cons (fun _ => hcb _) ?_ | refine grp_cons (fun _ => hrs _) ?_ | refine grp_cons (fun _ => hrk _) ?_ | refine grp_cons (fun _ => hbi _) ?_ | refine grp_cons (fun _ => hps _ _ ?_) ?_ | refine grp_cons (fun _ => hrp _) ?_) <;> try first | omega | assumption) | (refine g_d ?_; refine d_args ?_; (first | refine d_fn (lawake_c _) ?_ | refine d_fn (hli _) ?_ | refine d_fn (hbf _) ?_ | refine d_fn (hcp _) ?_ | refine d_fn (hpl _) ?_ | refine d_fn (hsu _) ?_ | refine d_fn (hck _) ?_ | refine d_fn (hcb _) ?_ | refine d_fn (hrs _) ?_ | refine d_fn (hrk _) ?_ | refine d_fn (hbi _) ?_ | refine d_fn (hps _ _ ?_) ?_ | refine d_fn (hrp _) ?_ | refine d_fnQ (fun _ => lawake_c _) ?_ | refine d_fnQ (fun _ => hli _) ?_ | refine d_fnQ (fun _ => hbf _) ?_ | refine d_fnQ (fun _ => hcp _) ?_ | refine d_fnQ (fun _ => hpl _) ?_ | refine d_fnQ (fun _ => hsu _) ?_ | refine d_fnQ (fun _ => hck _) ?_ | refine d_fnQ (fun _ => hcb _) ?_ | refine d_fnQ (fun _ => hrs _) ?_ | refine d_fnQ (fun _ => hrk _) ?_ | refine d_fnQ (fun _ => hbi _) ?_ | refine d_fnQ (fun _ => hps _ _ ?_) ?_ | refine d_fnQ (fun _ => hrp _) ?_) <;> try first | omega | assumption) | (refine g_d ?_; (first | refine d_fnY (lawake_c _) ?_ | refine d_fnY (hli _) ?_ | refine d_fnY (hbf _) ?_ | refine d_fnY (hcp _) ?_ | refine d_fnY (hpl _) ?_ | refine d_fnY (hsu _) ?_ | refine d_fnY (hck _) ?_ | refine d_fnY (hcb _) ?_ | refine d_fnY (hrs _) ?_ | refine d_fnY (hrk _) ?_ | refine d_fnY (hbi _) ?_ | refine d_fnY (hps _ _ ?_) ?_ | refine d_fnY (hrp _) ?_) <;> try first | omega | assumption)))
  all_goals (try (exfalso; first | omega | contradiction))
  refine WA_whileK (σ := Nat) [1, 2, 14] (fun i => [.lst (plV l), .ptr (lend m).length 0 0, .int .i64 i]) (fun _ => [.cells .own 25 2 [[.lst (mssV b.ms), .lst (adsV b.ads)]]]) 1 (fun i => i ≤ l.length) (fun i => l.length - i) 0 (Nat.zero_le _) tv_ rfl (fun _ => rfl) (by intro s s' _ _; simp [conB, conS, V.keeps, V.plain, Blk.flat, flatL, plainL, V.flat]) (by intro s s' _ _; simp [conB, conS, V.keeps, V.plain, Blk.flat, flatL, plainL, V.flat]) ?_
  rintro i hi1 K hK
  simp only [zipT]
  clear FX hga hls hal hps hrp
  rcases Nat.lt_or_ge i l.length with hi | hi
  · have hga := plV_get hi
    have hpi := hB.2 i hi
    have hrp := fun m => rcheckpass_c b hbd hA (l.getD i []) m
    have hps := fun (m : Mem) (k : Nat) (h : ∃ st, m[k]? = some (.cells st 79 2 (stsV (l.getD i [])))) => h.elim fun st h => gCheckPass_s b hb h0 (l.getD i []) m k h _ rfl
    generalize l.getD i [] = p at *
    have hls := stsV_length (l := p)
    have hal := fun n h => stsV_all (l := p) (n := n) h
    unfold bnV at hps
    generalize (psV b.ads p).1 = qn at *
    generalize (psV b.ads p).2 = qe at *
    (have FX := And.intro hlp (And.intro hln (And.intro hga (And.intro hls hal))); repeat' (first | (refine sx ?_ ?_ <;> intro h <;> first | (exfalso; omega) | skip) | (refine g_op ?_; refine g_call ?_; refine g_args ?_; (first | refine s_fn (lawake_c _) ?_ | refine s_fn (hli _) ?_ | refine s_fn (hbf _) ?_ | refine s_fn (hcp _) ?_ | refine s_fn (hpl _) ?_ | refine s_fn (hsu _) ?_ | refine s_fn (hck _) ?_ | refine s_fn (hcb _) ?_ | refine s_fn (hrs _) ?_ | refine s_fn (hrk _) ?_ | refine s_fn (hbi _) ?_ | refine s_fn (hps _ _ ?_) ?_ | refine s_fn (hrp _) ?_) <;> try first | omega | assumption) | refine ny ?_ | refine WA_block ?_ | (refine uR4_8_19 ?_; refine ⟨by kernel_rfl, ?_⟩) | (refine uR4_8_20 ?_; refine ⟨by kernel_rfl, ?_⟩) | ((first | refine grp_cons (fun _ => lawake_c _) ?_ | refine grp_cons (fun _ => hli _) ?_ | refine grp_cons (fun _ => hbf _) ?_ | refine grp_cons (fun _ => hcp _) ?_ | refine grp_cons (fun _ => hpl _) ?_ | refine grp_cons (fun _ => hsu _) ?_ | refine grp_cons (fun _ => hck _) ?_ | refine grp_cons (fun _ => hcb _) ?_ | refine grp_cons (fun _ => hrs _) ?_ | refine grp_cons (fun _ => hrk _) ?_ | refine grp_cons (fun _ => hbi _) ?_ | refine grp_cons (fun _ => hps _ _ ?_) ?_ | refine grp_cons (fun _ => hrp _) ?_) <;> try first | omega | assumption) | (refine g_d ?_; refine d_args ?_; (first | refine d_fn (lawake_c _) ?_ | refine d_fn (hli _) ?_ | refine d_fn (hbf _) ?_ | refine d_fn (hcp _) ?_ | refine d_fn (hpl _) ?_ | refine d_fn (hsu _) ?_ | refine d_fn (hck _) ?_ | refine d_fn (hcb _) ?_ | refine d_fn (hrs _) ?_ | refine d_fn (hrk _) ?_ | refine d_fn (hbi _) ?_ | refine d_fn (hps _ _ ?_) ?_ | refine d_fn (hrp _) ?_ | refine d_fnQ (fun _ => lawake_c _) ?_ | refine d_fnQ (fun _ => hli _) ?_ | refine d_fnQ (fun _ => hbf _) ?_ | refine d_fnQ (fun _ => hcp _) ?_ | refine d_fnQ (fun _ => hpl _) ?_ | refine d_fnQ (fun _ => hsu _) ?_ | refine d_fnQ (fun _ => hck _) ?_ | refine d_fnQ (fun _ => hcb _) ?_ | refine d_fnQ (fun _ => hrs _) ?_ | refine d_fnQ (fun _ => hrk _) ?_ | refine d_fnQ (fun _ => hbi _) ?_ | refine d_fnQ (fun _ => hps _ _ ?_) ?_ | refine d_fnQ (fun _ => hrp _) ?_) <;> try first | omega | assumption) | (refine g_d ?_; (first | refine d_fnY (lawake_c _) ?_ | refine d_fnY (hli _) ?_ | refine d_fnY (hbf _) ?_ | refine d_fnY (hcp _) ?_ | refine d_fnY (hpl _) ?_ | refine d_fnY (hsu _) ?_ | refine d_fnY (hck _) ?_ | refine d_fnY (hcb _) ?_ | refine d_fnY (hrs _) ?_ | refine d_fnY (hrk _) ?_ | refine d_fnY (hbi _) ?_ | refine d_fnY (hps _ _ ?_) ?_ | refine d_fnY (hrp _) ?_) <;> try first | omega | assumption)))
    all_goals (try (exfalso; first | omega | contradiction))
    all_goals try (exact ⟨_, ev_⟩)
    all_goals (refine nextL_ hK (i + 1) hi (by omega))
  · obtain rfl : i = l.length := by omega
    have hga := hlp
    have hls := hlp
    have hal := hlp
    have hps := hlp
    have hrp := hlp
    (have FX := And.intro hlp (And.intro hln (And.intro hga (And.intro hls hal))); repeat' (first | (refine sx ?_ ?_ <;> intro h <;> first | (exfalso; omega) | skip) | (refine g_op ?_; refine g_call ?_; refine g_args ?_; (first | refine s_fn (lawake_c _) ?_ | refine s_fn (hli _) ?_ | refine s_fn (hbf _) ?_ | refine s_fn (hcp _) ?_ | refine s_fn (hpl _) ?_ | refine s_fn (hsu _) ?_ | refine s_fn (hck _) ?_ | refine s_fn (hcb _) ?_ | refine s_fn (hrs _) ?_ | refine s_fn (hrk _) ?_ | refine s_fn (hbi _) ?_ | refine s_fn (hps _ _ ?_) ?_ | refine s_fn (hrp _) ?_) <;> try first | omega | assumption) | refine ny ?_ | refine WA_block ?_ | (refine uR4_8_19 ?_; refine ⟨by kernel_rfl, ?_⟩) | (refine uR4_8_20 ?_; refine ⟨by kernel_rfl, ?_⟩) | ((first | refine grp_cons (fun _ => lawake_c _) ?_ | refine grp_cons (fun _ => hli _) ?_ | refine grp_cons (fun _ => hbf _) ?_ | refine grp_cons (fun _ => hcp _) ?_ | refine grp_cons (fun _ => hpl _) ?_ | refine grp_cons (fun _ => hsu _) ?_ | refine grp_cons (fun _ => hck _) ?_ | refine grp_cons (fun _ => hcb _) ?_ | refine grp_cons (fun _ => hrs _) ?_ | refine grp_cons (fun _ => hrk _) ?_ | refine grp_cons (fun _ => hbi _) ?_ | refine grp_cons (fun _ => hps _ _ ?_) ?_ | refine grp_cons (fun _ => hrp _) ?_) <;> try first | omega | assumption) | (refine g_d ?_; refine d_args ?_; (first | refine d_fn (lawake_c _) ?_ | refine d_fn (hli _) ?_ | refine d_fn (hbf _) ?_ | refine d_fn (hcp _) ?_ | refine d_fn (hpl _) ?_ | refine d_fn (hsu _) ?_ | refine d_fn (hck _) ?_ | refine d_fn (hcb _) ?_ | refine d_fn (hrs _) ?_ | refine d_fn (hrk _) ?_ | refine d_fn (hbi _) ?_ | refine d_fn (hps _ _ ?_) ?_ | refine d_fn (hrp _) ?_ | refine d_fnQ (fun _ => lawake_c _) ?_ | refine d_fnQ (fun _ => hli _) ?_ | refine d_fnQ (fun _ => hbf _) ?_ | refine d_fnQ (fun _ => hcp _) ?_ | refine d_fnQ (fun _ => hpl _) ?_ | refine d_fnQ (fun _ => hsu _) ?_ | refine d_fnQ (fun _ => hck _) ?_ | refine d_fnQ (fun _ => hcb _) ?_ | refine d_fnQ (fun _ => hrs _) ?_ | refine d_fnQ (fun _ => hrk _) ?_ | refine d_fnQ (fun _ => hbi _) ?_ | refine d_fnQ (fun _ => hps _ _ ?_) ?_ | refine d_fnQ (fun _ => hrp _) ?_) <;> try first | omega | assumption) | (refine g_d ?_; (first | refine d_fnY (lawake_c _) ?_ | refine d_fnY (hli _) ?_ | refine d_fnY (hbf _) ?_ | refine d_fnY (hcp _) ?_ | refine d_fnY (hpl _) ?_ | refine d_fnY (hsu _) ?_ | refine d_fnY (hck _) ?_ | refine d_fnY (hcb _) ?_ | refine d_fnY (hrs _) ?_ | refine d_fnY (hrk _) ?_ | refine d_fnY (hbi _) ?_ | refine d_fnY (hps _ _ ?_) ?_ | refine d_fnY (hrp _) ?_) <;> try first | omega | assumption)))
    all_goals (try (exfalso; omega))
    all_goals (refine r_es hQ ?_; try with_reducible rfl)
theorem plans_law (b : BnR) (l : List (List StR)) (m : Mem) : Gives Try.prog 8 [.agg (bnV b), .lst (plV l)] m (.bool true) := by
  by_cases h : light b ∧ brief l
  · by_cases h0 : bnErr b = 0
    · exact plans_ok b l h.1 h.2 h0 m
    · exact plans_bad b l h.1 h.2 h0 m
  · exact plans_out b l h m
end Go.Proofs.Ytaoakololkcepaa
