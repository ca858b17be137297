/- contract: a curve of a curve, in the reference -/
import Derived.Test.YtihbeoplchiikaaGreatDoorGF
import Derived.Test.YtihbeoplchiikaaGreatDoorC48
import Derived.Test.YtihbeoplchiikaaGreatDoorC6
set_option linter.unusedSimpArgs false
set_option linter.unusedVariables false
namespace Go.Proofs.YtihbeoplchiikaaGreatDoor
open Go.RowKit
attribute [local irreducible] WA WOs WDs WAn qThen qBlock tput
set_option maxHeartbeats 1000000
set_option maxRecDepth 20000
set_option linter.unusedSimpArgs false
set_option linter.unusedVariables false
attribute [local irreducible] smB cut sm
/-- what the reference's Compose hands back -/
def rcpW (o c : List Pt) : V := if cmpG o c c.length = true then .tup [.agg [.nilsl], .bool false] else .tup [.agg [.lst (ptsV (cmpL o c c.length))], .bool (decide (cuErr ((cmpL o c c.length).map raw) = 0))]
def rcpV (o c : List Pt) : V := if cmpG o c c.length = true then .tup [.agg [.lst []], .bool false] else .tup [.agg [.lst (ptsV (cmpL o c c.length))], .bool (decide (cuErr ((cmpL o c c.length).map raw) = 0))]
theorem rcpW_V (o c : List Pt) : WkV (rcpW o c) (rcpV o c) := by
  unfold rcpW rcpV
  split
  · exact wk_tup ⟨wk_agg ⟨wk_nil, trivial⟩, WkV.refl _, trivial⟩
  · exact WkV.refl _
/-- an argument that is told more narrowly -/
theorem Gives_arg {P : Program} {f : FuncId} {vs vs' : List V} {m : Mem} {v : V} (hl : vs.length = vs'.length) (hw : ∀ (i : Nat) (u u' : V), vs[i]? = some u → vs'[i]? = some u' → WkV u u') (h : Gives P f vs' m v) : Gives P f vs m v := by
  refine ⟨h.1, fun w ρ xs hM hA => h.2 w ρ xs hM ⟨hl.symm.trans hA.1, fun i u' x h1 h2 => ?_⟩⟩
  have hi : i < vs.length := by rw [hl]; exact (List.getElem?_eq_some_iff.1 h1).1
  exact hw i _ u' (List.getElem?_eq_getElem hi) h1 _ _ _ _ (hA.2 i _ x (List.getElem?_eq_getElem hi) h2)
theorem rinsert_nil (k : Pt) (hk : sm k.1) (m : Mem) : Gives Tryz.prog 120 [.nilsl, .agg (ptV k)] m (.lst (ptsV [k])) := by
  have h := rinsert_c [] k (by simp) (fun p hp => by cases hp) hk m
  have e : kinP [] k = [k] := rfl
  rw [e] at h
  refine Gives_arg (vs' := [.lst (ptsV []), .agg (ptV k)]) rfl (fun i u u' h1 h2 => ?_) h
  match i, h1, h2 with
  | 0, h1, h2 => cases h1; cases h2; exact wk_nil
  | 1, h1, h2 => cases h1; cases h2; exact WkV.refl _
/-- .. into the list that there is, be it nil or not -/
theorem rinsert_o (l : List Pt) (k : Pt) (hl : l.length ≤ 10000) (hs : ∀ p ∈ l, sm p.1) (hk : sm k.1) (m : Mem) : Gives Tryz.prog 120 [oV (ptsV l), .agg (ptV k)] m (.lst (ptsV (kinP l k))) := by
  cases l with
  | nil => exact rinsert_nil k hk m
  | cons p r => exact rinsert_c (p :: r) k hl hs hk m
theorem oV_keeps (l : List Pt) (n : Nat) : (oV (ptsV l)).keeps n = true := by
  cases l with
  | nil => rfl
  | cons p r => exact ptsV_plain (p :: r)
theorem oV_ne {l : List Pt} (h : l ≠ []) : oV (ptsV l) = .lst (ptsV l) := by
  cases l with
  | nil => exact absurd rfl h
  | cons p r => rfl
theorem frz_lstb (m : Mem) (L : Nat) {es : List (List V)} {b : Bool} (h : plainLL es = true) : frz m L 4 (.tup [.agg [.lst es], .bool b]) = some (.tup [.agg [.lst es], .bool b]) := by
  have hl : V.plain (.lst es) = true := by simpa [V.plain] using h
  simp [frz, frzs, h, V.plain]
theorem fin_lstb {m0 D : Mem} {es : List (List V)} {b : Bool} {R : V → Option Mem → Prop} (h : plainLL es = true) (hR : R (.tup [.agg [.lst es], .bool b]) none) : Fin m0 R (.tup [.agg [.lst es], .bool b]) (lend m0 ++ D) :=
  .inr ⟨D, _, rfl, frz_lstb _ _ h, hR⟩
theorem rkB_raw {L : List Pt} (h : ∀ p ∈ L, sm p.1 ∧ sm p.2) : RkB (L.map raw) := by
  intro i hi
  rw [List.length_map] at hi
  rw [raw_getD hi]
  obtain ⟨h1, h2⟩ := h _ (mem_at hi)
  exact ⟨⟨B64_num h1, B64_den h1⟩, B64_num h2, B64_den h2⟩
theorem rcm_ne {o c : List Pt} {i n : Nat} : rcm o c i n ≠ [] := by unfold rcm; simp
theorem alAll_zero {o c : List Pt} {i : Nat} : alAll o c i 0 := by unfold alAll; rw [betwP_zero]; intro k hk; cases hk
theorem inR_up {v v2 x : Rat} (h : ¬ v2 < v) : inR v v2 x ↔ v < x ∧ x < v2 := by
  unfold inR
  constructor
  · intro h; grind
  · intro h; exact .inl h
theorem inR_dn {v v2 x : Rat} (h : v2 < v) : inR v v2 x ↔ v2 < x ∧ x < v := by
  unfold inR
  constructor
  · intro h; grind
  · intro h; exact .inr h
theorem uC49_100_12 {N : Nat} {l : List Oper} {t : List (Nat × V)} {m : Mem} {Q : Exit → List (Nat × V) → Mem → Prop} (h : RgN Tryz.prog N l t m Q (fun i => if i == 6 || i == 7 then .f else if i == 4 || i == 5 then .a else if i == 1 || i == 3 then .q else .p) [.one 0, .one 1, .one 2, .one 3, .grp true [] [4, 5], .one 6, .one 7]) : WA Tryz.prog N (.region 12 l.toArray true) t m Q := d_rgN h
theorem uC49_100_25 {N : Nat} {l : List Oper} {t : List (Nat × V)} {m : Mem} {Q : Exit → List (Nat × V) → Mem → Prop} (h : RgN Tryz.prog N l t m Q (fun i => if i == 4 then .w else if i == 0 || i == 1 || i == 2 then .q else .p) [.one 0, .one 1, .one 2, .one 3, .one 4, .one 5]) : WA Tryz.prog N (.region 25 l.toArray true) t m Q := d_rgN h
theorem rcompose_w (o c : List Pt) (ho : Valid o) (hc : Valid c) (m : Mem) : Gives Tryz.prog 100 [.agg [.lst (ptsV o)], .agg [.lst (ptsV c)]] m (rcpW o c) := by
  have hlo := ptsV_length (c := o)
  have hlc := ptsV_length (c := c)
  have hfo := ho.few
  have hfc := hc.few
  have hpc := hc.pos
  have hgc := hlc
  have hgb := hlc
  have hgo := hlc
  have hti := hlc
  have htj := hlc
  refine CallA_in Tryz.func100 rfl Tryz.ntmps100 Tryz.results100 (by kernel_rfl) (by simp) fun Q hQ => ?_
  (have FX := fx7 hlc hlo hgc hgb hgo hti htj; repeat' (first | (refine sx ?_ ?_ <;> intro h <;> first | (exfalso; omega) | skip) | refine ny ?_ | refine WA_block ?_ | (refine uC49_100_12 ?_; refine ⟨by kernel_rfl, ?_⟩) | (refine uC49_100_25 ?_; refine ⟨by kernel_rfl, ?_⟩)))
  refine WA_whileK (σ := Nat) [2, 3, 4, 5, 6, 7] (fun i => [.ptr (lend m).length 0 0, .ptr ((lend m).length + 1) 0 0, .ptr ((lend m).length + 2) 0 0, .bool false, oV (ptsV (cmpL o c i)), .int .i64 i]) (fun _ => [.cells .own 47 1 [[.lst (ptsV o)]], .cells .own 47 1 [[.lst (ptsV c)]], .cells .own 47 1 [[.nilsl]]]) 3 (fun i => i ≤ c.length ∧ cmpG o c i = false) (fun i => c.length - i) 0 ⟨Nat.zero_le _, rfl⟩ ?_ rfl (fun _ => rfl) (by intro s s' _ _; simp only [conS]; exact ⟨.inl trivial, .inl trivial, .inl trivial, .inl trivial, .inr (oV_keeps _ _), .inr rfl, trivial⟩) (by intro s s' _ _; simp [conB, conS, V.keeps, V.plain, Blk.flat, flatL, plainL, V.flat]) ?_
  · show _ = [_, _, _, _, V.nilsl, _]
    exact tv_
  rintro i ⟨hi1, hg⟩ K hK
  simp only [zipT]
  clear FX hgc hgb hgo hti htj
  rcases Nat.lt_or_ge i c.length with hi | hi
  · have hgc := ptsV_get hi
    have hsi := hc.sm i hi
    have hlen := cmpL_len (o := o) (c := c) (i := i)
    have hle : i * (o.length + 1) ≤ 60 * 61 := Nat.mul_le_mul (by omega) (by omega)
    have hins := fun m => rinsert_o (cmpL o c i) (valK o c i) (by omega) (fun p hp => (sm_cmpL ho hc (by omega) p hp).1) hsi.1 m
    have hti : ((i : Nat) : Int).toNat = i := by omega
    by_cases hv : valOk o (at' c i).2
    · have hval := fun m => rvalue_ok o (at' c i).2 ho hsi.2 hv m
      have hvk : valK o c i = ((at' c i).1, valE o (at' c i).2) := by unfold valK; rw [(vP_ok ho hv false).1]
      rw [val_ins ho hc hi hg, hvk] at hins
      have hgn := fun ha => cmpG_next ho hc hi hg hv ha
      by_cases hn : i + 1 < c.length
      · have hgb := ptsV_get hn
        have htj : ((i : Int) + 1).toNat = i + 1 := by omega
        have hsj := hc.sm (i + 1) hn
        have hno := fun n (hn' : n < o.length) h => rcm_no (o := o) (c := c) (i := i) hn' h
        have han := fun n (hn' : n < o.length) h ha => alAll_no (o := o) (c := c) (i := i) hn' h ha
        have hye := fun n (hn' : n < o.length) h ha hk => rcm_yes ho hc hn hg hn' h ha hk
        have hay := fun n (hn' : n < o.length) h ha hk => alAll_yes (o := o) (c := c) (i := i) hn' h ha hk
        have hbd := fun n (hn' : n < o.length) h hk => cmpG_badA (o := o) hc hn hn' h hk
        have hup := hc.up i hn
        have hsl := hc.sl i hn
        have hal1 : ∀ (y : Rat), sm y → sl (at' c i) (at' c (i + 1)) ≠ 0 → alOk (at' c i) (at' c (i + 1)) y → ∀ m, Gives Tryz.prog 121 [.agg (ptV (at' c i)), .agg (ptV (at' c (i + 1))), .agg [.int .i64 (Rat.num (y)), .int .i64 ((Rat.den (y) : Nat) : Int)]] m (.tup [.agg [.int .i64 (Rat.num (alE (at' c i) (at' c (i + 1)) y)), .int .i64 ((Rat.den (alE (at' c i) (at' c (i + 1)) y) : Nat) : Int)], .bool true]) := fun y hy h0 ho m => ralong_ok (y := y) hsi.1 hsi.2 hsj.1 hsj.2 hup hsl h0 hy ho m
        have hal0 : ∀ (y : Rat), sm y → sl (at' c i) (at' c (i + 1)) ≠ 0 → ¬ alOk (at' c i) (at' c (i + 1)) y → ∃ u v : Int, ∀ m, Gives Tryz.prog 121 [.agg (ptV (at' c i)), .agg (ptV (at' c (i + 1))), .agg [.int .i64 (Rat.num (y)), .int .i64 ((Rat.den (y) : Nat) : Int)]] m (.tup [.agg [.int .i64 u, .int .i64 v], .bool false]) := fun y hy h0 ho => ralong_bad (y := y) hsi.1 hsi.2 hsj.1 hsj.2 hup hsl h0 hy ho
        have hs0 := fun h => sl_ne hup h
        have hnx := hK (i + 1)
        rw [← rcm_all hn, oV_ne rcm_ne] at hnx
        have hny := fun (_ : Unit) => hnx
        have hcm := fun m => bcmp_c (at' c i).2 (at' c (i + 1)).2 hsi.2 hsj.2 m
        have c1 := cmpQ_gt (p := (at' c i).2) (q := (at' c (i + 1)).2)
        unfold ptV at hgc hgb hins
        dsimp only at hins
        have hgo := hti
        clear hnx hK hvk
        by_cases hsw : (at' c (i + 1)).2 < (at' c i).2
        · have hcg := c1.2 hsw
          have hio0 := fun x => inR_dn (x := x) hsw
          have hs1 := hsj.2
          have hs2 := hsi.2
          (have FX := fx7 hlc hlo hgc hgb hgo hti htj; repeat' (first | (refine sx ?_ ?_ <;> intro h <;> first | (exfalso; omega) | skip) | (refine na ?_; (first | refine nb hval ?_ | refine nb hins ?_ | refine nb hcm ?_) <;> try first | omega | assumption) | refine ny ?_ | refine WA_block ?_ | (refine uC49_100_12 ?_; refine ⟨by kernel_rfl, ?_⟩) | (refine uC49_100_25 ?_; refine ⟨by kernel_rfl, ?_⟩) | (refine g_d ?_; (first | refine d_fnY (hval _) ?_ | refine d_fnY (hins _) ?_ | refine d_fnY (hcm _) ?_) <;> try first | omega | assumption)))
          all_goals (try (exfalso; omega))
          refine WA_whileK (σ := Nat) [2, 3, 4, 5, 6, 7, 8, 11, 12, 13, 14] (fun n => [.ptr (lend m).length 0 0, .ptr ((lend m).length + 1) 0 0, .ptr ((lend m).length + 2) 0 0, .bool false, .lst (ptsV (rcm o c i n)), .int .i64 i, .ptr ((lend m).length + 3) 0 0, .ptr ((lend m).length + 5) 0 0, .ptr ((lend m).length + 8) 0 0, .ptr ((lend m).length + 9) 0 0, .int .i64 n]) (fun _ => [.cells .own 47 1 [[.lst (ptsV o)]], .cells .own 47 1 [[.lst (ptsV c)]], .cells .own 47 1 [[.nilsl]], .cells .own 92 4 [[.int .i64 (at' c i).1.num, .int .i64 ((at' c i).1.den : Int), .int .i64 (at' c i).2.num, .int .i64 ((at' c i).2.den : Int)]], .cells .own 42 2 [[.int .i64 (valE o (at' c i).2).num, .int .i64 ((valE o (at' c i).2).den : Int)]], .cells .own 92 4 [[.int .i64 (at' c (i + 1)).1.num, .int .i64 ((at' c (i + 1)).1.den : Int), .int .i64 (at' c (i + 1)).2.num, .int .i64 ((at' c (i + 1)).2.den : Int)]], .dead, .dead, .cells .own 42 2 [[.int .i64 ((at' c (i + 1)).2).num, .int .i64 (((at' c (i + 1)).2).den : Int)]], .cells .own 42 2 [[.int .i64 ((at' c i).2).num, .int .i64 (((at' c i).2).den : Int)]]]) 10 (fun n => n ≤ o.length ∧ alAll o c i n) (fun n => o.length - n) 0 ⟨Nat.zero_le _, alAll_zero⟩ tv_ rfl (fun _ => rfl) (by intro s s' _ _; simp [conS, V.keeps, V.plain, ptsV_plain]) (by intro s s' _ _; simp [conB, conS, V.keeps, V.plain, Blk.flat, flatL, plainL, V.flat]) ?_
          rintro n ⟨hn1, han1⟩ K2 hK2
          simp only [zipT]
          clear FX hgo
          rcases Nat.lt_or_ge n o.length with hn2 | hn2
          · have hgo := ptsV_get hn2
            have htn : ((n : Nat) : Int).toNat = n := by omega
            have hso := ho.sm n hn2
            have hcl := fun m => bcmp_c (at' o n).1 ((at' c (i + 1)).2) hso.1 (by assumption) m
            have hch := fun m => bcmp_c (at' o n).1 ((at' c i).2) hso.1 (by assumption) m
            have f1 := cmpQ_gt (p := (at' o n).1) (q := (at' c (i + 1)).2)
            have f2 := cmpQ_lt (p := (at' o n).1) (q := (at' c i).2)
            have hgx := And.intro hgo htn
            by_cases hin : inR (at' c i).2 (at' c (i + 1)).2 (at' o n).1
            · have hio := (hio0 _).1 hin
              have f3 := f1.2 hio.1
              have f4 := f2.2 hio.2
              have hsz := hs0 (inR_ne hin)
              by_cases hk : alOk (at' c i) (at' c (i + 1)) (at' o n).1
              · have hal := fun m => hal1 (at' o n).1 hso.1 hsz hk m
                have hin2 := fun m => rinsert_c (rcm o c i n) (alE (at' c i) (at' c (i + 1)) (at' o n).1, (at' o n).2) (by have := rcm_len (o := o) (c := c) (i := i) (n := n); omega) (fun p hp => (rcm_sm ho hc hi p hp).1) hk.2.2 m
                rw [hye n hn2 hin han1 hk] at hin2
                have hne := hay n hn2 hin han1 hk
                unfold ptV at hal hin2 hgx
                dsimp only at hal hin2
                (have FX := fx5 hlc hlo hgx f3 f4; repeat' (first | (refine sx ?_ ?_ <;> intro h <;> first | (exfalso; omega) | skip) | (refine na ?_; (first | refine nb hcl ?_ | refine nb hch ?_ | refine nb hal ?_ | refine nb hin2 ?_) <;> try first | omega | assumption) | refine ny ?_ | refine WA_block ?_ | (refine uC49_100_12 ?_; refine ⟨by kernel_rfl, ?_⟩) | (refine uC49_100_25 ?_; refine ⟨by kernel_rfl, ?_⟩) | (refine g_d ?_; (first | refine d_fnY (hcl _) ?_ | refine d_fnY (hch _) ?_ | refine d_fnY (hal _) ?_ | refine d_fnY (hin2 _) ?_) <;> try first | omega | assumption)))
                all_goals (try (exfalso; omega))
                all_goals (refine nextL_ hK2 (n + 1) ⟨hn2, hne⟩ (by omega))
              · obtain ⟨x, y, hal⟩ := hal0 (at' o n).1 hso.1 hsz hk
                have hbg := hbd n hn2 hin hk
                unfold rcpW at hQ
                rw [if_pos hbg] at hQ
                unfold ptV at hal hgx
                (have FX := fx5 hlc hlo hgx f3 f4; repeat' (first | (refine sx ?_ ?_ <;> intro h <;> first | (exfalso; omega) | skip) | (refine na ?_; (first | refine nb hcl ?_ | refine nb hch ?_ | refine nb hal ?_) <;> try first | omega | assumption) | refine ny ?_ | refine WA_block ?_ | (refine uC49_100_12 ?_; refine ⟨by kernel_rfl, ?_⟩) | (refine uC49_100_25 ?_; refine ⟨by kernel_rfl, ?_⟩) | (refine g_d ?_; (first | refine d_fnY (hcl _) ?_ | refine d_fnY (hch _) ?_ | refine d_fnY (hal _) ?_) <;> try first | omega | assumption)))
                all_goals (try (exfalso; omega))
                all_goals (refine r_esA hQ (.inl ⟨rfl, rfl, rfl⟩))
            · have hio : ¬ (0 < cmpQ (at' o n).1 ((at' c (i + 1)).2) ∧ cmpQ (at' o n).1 ((at' c i).2) < 0) := fun h => hin ((hio0 _).2 ⟨f1.1 h.1, f2.1 h.2⟩)
              have hnx2 := hK2 (n + 1)
              rw [hno n hn2 hin] at hnx2
              have hny2 := fun (_ : Unit) => hnx2
              have hne := han n hn2 hin han1
              unfold ptV at hgx
              (have FX := fx3 hlc hlo hgx; repeat' (first | (refine sx ?_ ?_ <;> intro h <;> first | (exfalso; omega) | skip) | (refine na ?_; (first | refine nb hcl ?_ | refine nb hch ?_) <;> try first | omega | assumption) | refine ny ?_ | refine WA_block ?_ | (refine uC49_100_12 ?_; refine ⟨by kernel_rfl, ?_⟩) | (refine uC49_100_25 ?_; refine ⟨by kernel_rfl, ?_⟩) | (refine g_d ?_; (first | refine d_fnY (hcl _) ?_ | refine d_fnY (hch _) ?_) <;> try first | omega | assumption)))
              all_goals (try (exfalso; omega))
              all_goals (refine nextL_ hny2 () ⟨hn2, hne⟩ (by omega))
          · have hne : n = o.length := by omega
            subst hne
            (have FX := And.intro hlc hlo; repeat' (first | (refine sx ?_ ?_ <;> intro h <;> first | (exfalso; omega) | skip) | refine ny ?_ | refine WA_block ?_ | (refine uC49_100_12 ?_; refine ⟨by kernel_rfl, ?_⟩) | (refine uC49_100_25 ?_; refine ⟨by kernel_rfl, ?_⟩)))
            all_goals (try (exfalso; omega))
            all_goals (refine nextL_ hny () ⟨by omega, hgn fun _ => han1⟩ (by omega))
        · have hcg : ¬ 0 < cmpQ (at' c i).2 (at' c (i + 1)).2 := fun h => hsw (c1.1 h)
          have hio0 := fun x => inR_up (x := x) hsw
          have hs1 := hsj.2
          have hs2 := hsi.2
          (have FX := fx7 hlc hlo hgc hgb hgo hti htj; repeat' (first | (refine sx ?_ ?_ <;> intro h <;> first | (exfalso; omega) | skip) | (refine na ?_; (first | refine nb hval ?_ | refine nb hins ?_ | refine nb hcm ?_) <;> try first | omega | assumption) | refine ny ?_ | refine WA_block ?_ | (refine uC49_100_12 ?_; refine ⟨by kernel_rfl, ?_⟩) | (refine uC49_100_25 ?_; refine ⟨by kernel_rfl, ?_⟩) | (refine g_d ?_; (first | refine d_fnY (hval _) ?_ | refine d_fnY (hins _) ?_ | refine d_fnY (hcm _) ?_) <;> try first | omega | assumption)))
          all_goals (try (exfalso; omega))
          refine WA_whileK (σ := Nat) [2, 3, 4, 5, 6, 7, 8, 11, 12, 13, 14] (fun n => [.ptr (lend m).length 0 0, .ptr ((lend m).length + 1) 0 0, .ptr ((lend m).length + 2) 0 0, .bool false, .lst (ptsV (rcm o c i n)), .int .i64 i, .ptr ((lend m).length + 3) 0 0, .ptr ((lend m).length + 5) 0 0, .ptr ((lend m).length + 8) 0 0, .ptr ((lend m).length + 9) 0 0, .int .i64 n]) (fun _ => [.cells .own 47 1 [[.lst (ptsV o)]], .cells .own 47 1 [[.lst (ptsV c)]], .cells .own 47 1 [[.nilsl]], .cells .own 92 4 [[.int .i64 (at' c i).1.num, .int .i64 ((at' c i).1.den : Int), .int .i64 (at' c i).2.num, .int .i64 ((at' c i).2.den : Int)]], .cells .own 42 2 [[.int .i64 (valE o (at' c i).2).num, .int .i64 ((valE o (at' c i).2).den : Int)]], .cells .own 92 4 [[.int .i64 (at' c (i + 1)).1.num, .int .i64 ((at' c (i + 1)).1.den : Int), .int .i64 (at' c (i + 1)).2.num, .int .i64 ((at' c (i + 1)).2.den : Int)]], .dead, .dead, .cells .own 42 2 [[.int .i64 ((at' c i).2).num, .int .i64 (((at' c i).2).den : Int)]], .cells .own 42 2 [[.int .i64 ((at' c (i + 1)).2).num, .int .i64 (((at' c (i + 1)).2).den : Int)]]]) 10 (fun n => n ≤ o.length ∧ alAll o c i n) (fun n => o.length - n) 0 ⟨Nat.zero_le _, alAll_zero⟩ tv_ rfl (fun _ => rfl) (by intro s s' _ _; simp [conS, V.keeps, V.plain, ptsV_plain]) (by intro s s' _ _; simp [conB, conS, V.keeps, V.plain, Blk.flat, flatL, plainL, V.flat]) ?_
          rintro n ⟨hn1, han1⟩ K2 hK2
          simp only [zipT]
          clear FX hgo
          rcases Nat.lt_or_ge n o.length with hn2 | hn2
          · have hgo := ptsV_get hn2
            have htn : ((n : Nat) : Int).toNat = n := by omega
            have hso := ho.sm n hn2
            have hcl := fun m => bcmp_c (at' o n).1 ((at' c i).2) hso.1 (by assumption) m
            have hch := fun m => bcmp_c (at' o n).1 ((at' c (i + 1)).2) hso.1 (by assumption) m
            have f1 := cmpQ_gt (p := (at' o n).1) (q := (at' c i).2)
            have f2 := cmpQ_lt (p := (at' o n).1) (q := (at' c (i + 1)).2)
            have hgx := And.intro hgo htn
            by_cases hin : inR (at' c i).2 (at' c (i + 1)).2 (at' o n).1
            · have hio := (hio0 _).1 hin
              have f3 := f1.2 hio.1
              have f4 := f2.2 hio.2
              have hsz := hs0 (inR_ne hin)
              by_cases hk : alOk (at' c i) (at' c (i + 1)) (at' o n).1
              · have hal := fun m => hal1 (at' o n).1 hso.1 hsz hk m
                have hin2 := fun m => rinsert_c (rcm o c i n) (alE (at' c i) (at' c (i + 1)) (at' o n).1, (at' o n).2) (by have := rcm_len (o := o) (c := c) (i := i) (n := n); omega) (fun p hp => (rcm_sm ho hc hi p hp).1) hk.2.2 m
                rw [hye n hn2 hin han1 hk] at hin2
                have hne := hay n hn2 hin han1 hk
                unfold ptV at hal hin2 hgx
                dsimp only at hal hin2
                (have FX := fx5 hlc hlo hgx f3 f4; repeat' (first | (refine sx ?_ ?_ <;> intro h <;> first | (exfalso; omega) | skip) | (refine na ?_; (first | refine nb hcl ?_ | refine nb hch ?_ | refine nb hal ?_ | refine nb hin2 ?_) <;> try first | omega | assumption) | refine ny ?_ | refine WA_block ?_ | (refine uC49_100_12 ?_; refine ⟨by kernel_rfl, ?_⟩) | (refine uC49_100_25 ?_; refine ⟨by kernel_rfl, ?_⟩) | (refine g_d ?_; (first | refine d_fnY (hcl _) ?_ | refine d_fnY (hch _) ?_ | refine d_fnY (hal _) ?_ | refine d_fnY (hin2 _) ?_) <;> try first | omega | assumption)))
                all_goals (try (exfalso; omega))
                all_goals (refine nextL_ hK2 (n + 1) ⟨hn2, hne⟩ (by omega))
              · obtain ⟨x, y, hal⟩ := hal0 (at' o n).1 hso.1 hsz hk
                have hbg := hbd n hn2 hin hk
                unfold rcpW at hQ
                rw [if_pos hbg] at hQ
                unfold ptV at hal hgx
                (have FX := fx5 hlc hlo hgx f3 f4; repeat' (first | (refine sx ?_ ?_ <;> intro h <;> first | (exfalso; omega) | skip) | (refine na ?_; (first | refine nb hcl ?_ | refine nb hch ?_ | refine nb hal ?_) <;> try first | omega | assumption) | refine ny ?_ | refine WA_block ?_ | (refine uC49_100_12 ?_; refine ⟨by kernel_rfl, ?_⟩) | (refine uC49_100_25 ?_; refine ⟨by kernel_rfl, ?_⟩) | (refine g_d ?_; (first | refine d_fnY (hcl _) ?_ | refine d_fnY (hch _) ?_ | refine d_fnY (hal _) ?_) <;> try first | omega | assumption)))
                all_goals (try (exfalso; omega))
                all_goals (refine r_esA hQ (.inl ⟨rfl, rfl, rfl⟩))
            · have hio : ¬ (0 < cmpQ (at' o n).1 ((at' c i).2) ∧ cmpQ (at' o n).1 ((at' c (i + 1)).2) < 0) := fun h => hin ((hio0 _).2 ⟨f1.1 h.1, f2.1 h.2⟩)
              have hnx2 := hK2 (n + 1)
              rw [hno n hn2 hin] at hnx2
              have hny2 := fun (_ : Unit) => hnx2
              have hne := han n hn2 hin han1
              unfold ptV at hgx
              (have FX := fx3 hlc hlo hgx; repeat' (first | (refine sx ?_ ?_ <;> intro h <;> first | (exfalso; omega) | skip) | (refine na ?_; (first | refine nb hcl ?_ | refine nb hch ?_) <;> try first | omega | assumption) | refine ny ?_ | refine WA_block ?_ | (refine uC49_100_12 ?_; refine ⟨by kernel_rfl, ?_⟩) | (refine uC49_100_25 ?_; refine ⟨by kernel_rfl, ?_⟩) | (refine g_d ?_; (first | refine d_fnY (hcl _) ?_ | refine d_fnY (hch _) ?_) <;> try first | omega | assumption)))
              all_goals (try (exfalso; omega))
              all_goals (refine nextL_ hny2 () ⟨hn2, hne⟩ (by omega))
          · have hne : n = o.length := by omega
            subst hne
            (have FX := And.intro hlc hlo; repeat' (first | (refine sx ?_ ?_ <;> intro h <;> first | (exfalso; omega) | skip) | refine ny ?_ | refine WA_block ?_ | (refine uC49_100_12 ?_; refine ⟨by kernel_rfl, ?_⟩) | (refine uC49_100_25 ?_; refine ⟨by kernel_rfl, ?_⟩)))
            all_goals (try (exfalso; omega))
            all_goals (refine nextL_ hny () ⟨by omega, hgn fun _ => han1⟩ (by omega))
      · have hnx := hK (i + 1)
        rw [← rcm_last hn, oV_ne rcm_ne] at hnx
        have hny := fun (_ : Unit) => hnx
        have hgb := hlc
        have hgo := hlc
        have htj := hlc
        unfold ptV at hgc hins
        dsimp only at hins
        clear hnx hK hvk
        (have FX := fx7 hlc hlo hgc hgb hgo hti htj; repeat' (first | (refine sx ?_ ?_ <;> intro h <;> first | (exfalso; omega) | skip) | (refine na ?_; (first | refine nb hval ?_ | refine nb hins ?_) <;> try first | omega | assumption) | refine ny ?_ | refine WA_block ?_ | (refine uC49_100_12 ?_; refine ⟨by kernel_rfl, ?_⟩) | (refine uC49_100_25 ?_; refine ⟨by kernel_rfl, ?_⟩) | (refine g_d ?_; (first | refine d_fnY (hval _) ?_ | refine d_fnY (hins _) ?_) <;> try first | omega | assumption)))
        all_goals (try (exfalso; omega))
        all_goals (refine nextL_ hny () ⟨by omega, hgn fun h => absurd h hn⟩ (by omega))
    · obtain ⟨x, y, hval⟩ := rvalue_bad o (at' c i).2 ho hsi.2 hv
      have hbg := cmpG_badV ho hi hv
      unfold rcpW at hQ
      rw [if_pos hbg] at hQ
      have hgb := hlc
      have hgo := hlc
      have htj := hlc
      unfold ptV at hgc
      (have FX := fx7 hlc hlo hgc hgb hgo hti htj; repeat' (first | (refine sx ?_ ?_ <;> intro h <;> first | (exfalso; omega) | skip) | (refine na ?_; (first | refine nb hval ?_) <;> try first | omega | assumption) | refine ny ?_ | refine WA_block ?_ | (refine uC49_100_12 ?_; refine ⟨by kernel_rfl, ?_⟩) | (refine uC49_100_25 ?_; refine ⟨by kernel_rfl, ?_⟩) | (refine g_d ?_; (first | refine d_fnY (hval _) ?_) <;> try first | omega | assumption)))
      all_goals (try (exfalso; omega))
      all_goals (refine r_esA hQ (.inl ⟨rfl, rfl, rfl⟩))
  · have hie : i = c.length := by omega
    subst hie
    have hne : cmpL o c c.length ≠ [] := by
      obtain ⟨k, hk⟩ : ∃ k, c.length = k + 1 := ⟨c.length - 1, by omega⟩
      rw [hk]
      simp [cmpL]
    rw [oV_ne hne]
    unfold rcpW at hQ
    rw [if_neg (by rw [hg]; decide)] at hQ
    have hsmL := sm_cmpL ho hc (Nat.le_refl c.length)
    generalize cmpL o c c.length = L at *
    have hB : RkB (L.map raw) := rkB_raw hsmL
    have hcc := fun m => rcheckcurve_c (L.map raw) hB m
    rw [← ptsV_raw] at hcc
    have hgc := hlc
    have hgb := hlc
    have hgo := hlc
    have hti := hlc
    have htj := hlc
    clear hK
    (have FX := fx7 hlc hlo hgc hgb hgo hti htj; repeat' (first | (refine sx ?_ ?_ <;> intro h <;> first | (exfalso; omega) | skip) | (refine na ?_; (first | refine nb hcc ?_) <;> try first | omega | assumption) | refine ny ?_ | refine WA_block ?_ | (refine uC49_100_12 ?_; refine ⟨by kernel_rfl, ?_⟩) | (refine uC49_100_25 ?_; refine ⟨by kernel_rfl, ?_⟩) | (refine g_d ?_; (first | refine d_fnY (hcc _) ?_) <;> try first | omega | assumption)))
    all_goals (try (exfalso; omega))
    all_goals (refine r_esA hQ (fin_lstb (ptsV_plain L) ⟨?_, rfl⟩))
    all_goals exact congrArg (fun b => V.tup [V.agg [V.lst (ptsV L)], V.bool b]) (by first | exact (decide_eq_true (by assumption)).symm | exact (decide_eq_false (by assumption)).symm)
end Go.Proofs.YtihbeoplchiikaaGreatDoor
