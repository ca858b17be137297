/- the law TopSweepsReach, over contracts -/
import Derived.Test.YtaoakololkcepaaB33
import Derived.Test.YtaoakololkcepaaB41
import Derived.Test.YtaoakololkcepaaB45
import Derived.Test.YtaoakololkcepaaB54
import Derived.Test.YtaoakololkcepaaB49
import Derived.Test.YtaoakololkcepaaB55
import Derived.Test.YtaoakololkcepaaBY
set_option linter.unusedSimpArgs false
set_option linter.unusedVariables false
namespace Go.Proofs.Ytaoakololkcepaa
open Go.RowKit
attribute [local irreducible] WA WOs WDs WAn qThen qBlock tput
set_option maxHeartbeats 1000000
set_option maxRecDepth 20000
set_option linter.unusedSimpArgs false
set_option linter.unusedVariables false
set_option maxHeartbeats 4000000

theorem tset_c (m : Mem) : Gives Try.prog 64 [] m (.bool true) := by
  have FX := exB_ok
  refine Gives_in Try.func64 rfl Try.ntmps64 Try.results64 (by kernel_rfl) (by simp) rfl fun Q hQ => ?_
  (repeat' (first | (refine sx ?_ ?_ <;> intro h <;> first | (exfalso; omega) | skip) | (refine g_op ?_; refine g_call ?_; refine g_args ?_; (first | refine s_fn (lbench_c _) ?_ | refine s_fn (ex_few _) ?_ | refine s_fn (bints_e [3, 0, 0] 3 rfl (by decide) _ _ .own ?_) ?_) <;> try first | omega | assumption) | refine ny ?_ | refine WA_block ?_))
  all_goals (try (exfalso; first | omega | contradiction))
  all_goals first
    | ((refine r_es hQ ?_; try with_reducible rfl)
       done)
    | (simp [nsV]
       done)

theorem reach_out (b : BnR) (ws : List Int) (hout : ¬ (narrow b ∧ ¬ 20 < (ws.length : Int) ∧ bnErr b = 0)) (m : Mem) : Gives Try.prog 14 [.agg (bnV b), .lst (nsV ws)] m (.bool true) := by
  have hlw := nsV_length (l := ws)
  have hcb := fun (h : narrow b) m => rcheckbench_c b (light_bl h.1) m
  unfold bnV
  refine Gives_in Try.func14 rfl Try.ntmps14 Try.results14 (by kernel_rfl) (by simp) rfl fun Q hQ => ?_
  (have FX := hlw; repeat' (first | (refine sx ?_ ?_ <;> intro h <;> first | (exfalso; omega) | skip) | (refine g_op ?_; refine g_call ?_; refine g_args ?_; (first | refine s_fn (tset_c _) ?_ | refine s_fn (lnarrow_c _ _) ?_ | refine s_fn (hcb (by assumption) _) ?_) <;> try first | omega | assumption) | refine ny ?_ | refine WA_block ?_))
  all_goals (try (exfalso; first | exact hout ⟨by assumption, by assumption, by omega⟩ | omega))
  all_goals (refine r_es hQ ?_; try with_reducible rfl)
theorem out_none {b : BnR} (hb : Bnd b) {l : List Int} (hl : stOk b.ads l) (hg : brkP b l b.ms.length = []) : outP b b.ms.length = [] := by
  refine List.filter_eq_nil_iff.2 fun i hi ho => ?_
  have hi := List.mem_range.1 hi
  exact (ckW_zero (out_alone hb hi ho)).2.2 (good_meets hl hg)
theorem reach_in (b : BnR) (ws : List Int) (hN : narrow b) (hw : ¬ 20 < (ws.length : Int)) (h0 : bnErr b = 0) (m : Mem) : Gives Try.prog 14 [.agg (bnV b), .lst (nsV ws)] m (.bool true) := by
  have hb := light_bl hN.1
  have hk := bn_ok h0
  have hbd := bnd_ok hk
  have hfa := hbd.fa
  have hwd : ∀ i, i < b.ads.length → (b.ads.getD i adz).least ≤ (b.ads.getD i adz).most := fun i hi => by have := hbd.le i hi; have := hbd.mo i hi; omega
  have hlw := nsV_length (l := ws)
  have hla := adsV_length (l := b.ads)
  have hga := hla
  have hna := fun m => lnarrow_c b m
  rw [decide_eq_true hN] at hna
  have hcb := fun m => rcheckbench_c b hb m
  rw [h0] at hcb
  have hcp := fun m => rcopy_c b hb m
  obtain ⟨L, e, hse, hgood, hL6⟩ : ∃ (L : List (List Int)) (e : Int), (∀ m, Gives Try.prog 21 [.agg (bnV b), .int .i64 6] m (.tup [.lst (rwV L), .int .i64 e])) ∧ (e = 0 → 0 < L.length → stOk b.ads (L.getD (L.length - 1) []) ∧ brkP b (L.getD (L.length - 1) []) b.ms.length = []) ∧ L.length ≤ 100 := by
    have h1 := fun m => gSettle_ok b hb h0 6 (by decide) m
    unfold setV at h1
    cases hs : stI b 6 with
    | none =>
      rw [hs] at h1
      exact ⟨[], 12, h1, fun h => by omega, by decide⟩
    | some k =>
      rw [hs] at h1
      have hkm := List.mem_of_find?_eq_some (show (List.range (6 + 1)).find? (stH b) = some k from hs)
      have hkp := List.find?_some (show (List.range (6 + 1)).find? (stH b) = some k from hs)
      have hk7 := List.mem_range.1 hkm
      refine ⟨stO b k, 0, h1, fun _ hl => ?_, by rw [stO_len]; omega⟩
      rw [stO_len] at hl ⊢
      have hg : (stO b k).getD (k - 1) [] = stK b k := by
        unfold stO
        rw [List.getD_eq_getElem?_getD, List.getElem?_map, List.getElem?_range (by omega)]
        show stK b (k - 1 + 1) = _
        rw [Nat.sub_add_cancel hl]
      rw [hg]
      exact ⟨stK_ok hbd k, of_decide_eq_true hkp⟩
  have hlr := rwV_length (l := L)
  have hgl := hla
  have hix1 := hla
  have hlp := hla
  have hlo := hla
  have hci := hla
  have hpl := hla
  have hck := hla
  have hou := hla
  have hgf := hla
  have hcw := hla
  have hcr := hla
  by_cases hs : e = 0 ∧ 0 < L.length
  · obtain ⟨hst, hgd⟩ := hgood hs.1 hs.2
    obtain ⟨n, hn⟩ : ∃ n, L.length = n + 1 := ⟨L.length - 1, by omega⟩
    have hgl := rwV_get (l := L) (i := n) (by omega)
    have hix1 : (L.length : Int) - 1 = (n : Int) := by omega
    have en : L.length - 1 = n := by omega
    rw [en] at hst hgd
    clear hgood
    generalize L.getD n [] = la at *
    have hci := fun m => bcopyints_c la (by have := hst.1; omega) m
    have hcw := fun m => bcopyints_c ws (by omega) m
    have hcr := fun m => gCheckRefusal_c b hb ws (by omega) m
    rw [if_neg (by omega)] at hcr
    have hcn : ckW b ws ≠ 0 := fun h => (ckW_zero h).2.2 (good_meets hst hgd)
    have hou := fun m => gOut_ok b hb h0 m
    rw [out_none hbd hst hgd] at hou
    have hlo : (nuV ([] : List Nat)).length = 0 := rfl
    have hbs : bsErr b la = 0 := by unfold bsErr; rw [if_neg (by omega)]; exact stErr_iff.2 hst
    have hmk : mkE b la = if 50 < pasK b.ads la b.ads.length then 8 else 0 := by unfold mkE; rw [if_neg (by omega)]
    have hmo : mkE b la = 0 ∨ mkE b la = 8 := by rw [hmk]; split <;> simp
    obtain ⟨P, hpl, hck, hpp⟩ : ∃ P : List (List StR), (∀ m, Gives Try.prog 54 [.agg (bnV b), .lst (nsV la)] m (.tup [.lst (plV P), .int .i64 (mkE b la)])) ∧ (∀ m, Gives Try.prog 48 [.agg (bnV b), .lst (plV P)] m (.tup [.int .i64 (cpN b P), .int .i64 (cpE b P)])) ∧ (mkE b la = 0 → cpE b P = 0 ∧ (P.length : Int) = pasK b.ads la b.ads.length) := by
      by_cases hm : mkE b la = 0
      · obtain ⟨_, _, _, hp1, hp2⟩ := mk_ok hm
        obtain ⟨e1, e2, e3⟩ := plO_ok hk hst (n := (pasK b.ads la b.ads.length).toNat) (by omega) (by omega)
        have hpl := fun m => gPlanOf_ok b hb la hm m
        have hlen := plO_length b la (pasK b.ads la b.ads.length).toNat
        generalize plO b la (pasK b.ads la b.ads.length).toNat = P at *
        refine ⟨P, fun m => by rw [hm]; exact hpl m, fun m => gCheckPlan_ok b hb h0 P m, fun _ => ⟨?_, by omega⟩⟩
        unfold cpE
        rw [if_neg (by omega), e1, hgd, if_neg (by simp)]
      · exact ⟨[], fun m => Gives_weak (gPlanOf_bad b hb la hm m) (wk_tup ⟨wk_nil, WkV.refl _, trivial⟩), fun m => gCheckPlan_ok b hb h0 [] m, fun h => absurd h hm⟩
    have hlp := plV_length (l := P)
    obtain ⟨l2, n2, k2, hgf, hk2⟩ : ∃ (l2 : List Int) (n2 k2 : Int), (∀ m, Gives Try.prog 59 [.agg (bnV b)] m (.tup [.lst (nsV l2), .int .i64 n2, .int .i64 k2])) ∧ (k2 = 8 ∨ k2 = 0 ∧ n2 ≤ pasK b.ads la b.ads.length) := by
      have h1 := fun m => gfewest_ok b hb h0 m
      unfold fwV at h1
      by_cases ht : 100000 < trK b.ads b.ads.length
      · rw [if_pos ht] at h1
        exact ⟨[], 0, 8, fun m => Gives_weak (h1 m) (wk_tup ⟨wk_nil, WkV.refl _, WkV.refl _, trivial⟩), .inl rfl⟩
      · rw [if_neg ht] at h1
        obtain ⟨g1, g2⟩ := fw_least hwd hst hgd
        rw [if_pos g1] at h1
        exact ⟨_, _, 0, h1, .inr ⟨rfl, g2⟩⟩
    clear hmk hbs
    unfold bnV at hse hpl hck hou hgf hcr ⊢
    generalize mkE b la = f at *
    generalize cpE b P = ce at *
    generalize cpN b P = cn at *
    generalize ckW b ws = cw at *
    generalize pasK b.ads la b.ads.length = pk at *
    refine Gives_in Try.func14 rfl Try.ntmps14 Try.results14 (by kernel_rfl) (by simp) rfl fun Q hQ => ?_
    (have FX := And.intro hlw (And.intro hla (And.intro hga (And.intro hlr (And.intro hgl (And.intro hix1 (And.intro hlp hlo)))))); repeat' (first | (refine sx ?_ ?_ <;> intro h <;> first | (exfalso; omega) | skip) | (refine g_op ?_; refine g_call ?_; refine g_args ?_; (first | refine s_fn (tset_c _) ?_ | refine s_fn (hna _) ?_ | refine s_fn (hcb _) ?_ | refine s_fn (hcp _) ?_ | refine s_fn (hse _) ?_ | refine s_fn (hci _) ?_ | refine s_fn (hpl _) ?_ | refine s_fn (hck _) ?_ | refine s_fn (hou _) ?_ | refine s_fn (hgf _) ?_ | refine s_fn (hcw _) ?_ | refine s_fn (hcr _) ?_) <;> try first | omega | assumption) | refine ny ?_ | refine WA_block ?_))
    all_goals (try (exfalso; omega))
    refine WA_whileK (σ := Nat) [1, 2, 5] (fun i => [.lst (nsV ws), .ptr (lend m).length 0 0, .int .i64 i]) (fun _ => [.cells .own 25 2 [[.lst (mssV b.ms), .lst (adsV b.ads)]]]) 1 (fun i => i ≤ b.ads.length) (fun i => b.ads.length - i) 0 (Nat.zero_le _) tv_ rfl (fun _ => rfl) (by intro s s' _ _; simp [conB, conS, V.keeps, V.plain, Blk.flat, flatL, plainL, V.flat]) (by intro s s' _ _; simp [conB, conS, V.keeps, V.plain, Blk.flat, flatL, plainL, V.flat]) ?_
    rintro i hi1 K hK
    simp only [zipT]
    clear FX hga
    rcases Nat.lt_or_ge i b.ads.length with hi | hi
    · have hga := adsV_get hi
      generalize b.ads.getD i adz = y at *
      unfold adV at hga
      (have FX := And.intro hlw (And.intro hla (And.intro hga (And.intro hlr (And.intro hgl (And.intro hix1 (And.intro hlp hlo)))))); repeat' (first | (refine sx ?_ ?_ <;> intro h <;> first | (exfalso; omega) | skip) | (refine g_op ?_; refine g_call ?_; refine g_args ?_; (first | refine s_fn (tset_c _) ?_ | refine s_fn (hna _) ?_ | refine s_fn (hcb _) ?_ | refine s_fn (hcp _) ?_ | refine s_fn (hse _) ?_ | refine s_fn (hci _) ?_ | refine s_fn (hpl _) ?_ | refine s_fn (hck _) ?_ | refine s_fn (hou _) ?_ | refine s_fn (hgf _) ?_ | refine s_fn (hcw _) ?_ | refine s_fn (hcr _) ?_) <;> try first | omega | assumption) | refine ny ?_ | refine WA_block ?_))
      all_goals (try (exfalso; omega))
      all_goals first
        | ((refine r_es hQ ?_; try with_reducible rfl)
           done)
        | (refine nextL_ hK (i + 1) hi (by omega)
           done)
    · obtain rfl : i = b.ads.length := by omega
      have hga := hla
      clear hK
      (have FX := And.intro hlw (And.intro hla (And.intro hga (And.intro hlr (And.intro hgl (And.intro hix1 (And.intro hlp hlo)))))); repeat' (first | (refine sx ?_ ?_ <;> intro h <;> first | (exfalso; omega) | skip) | (refine g_op ?_; refine g_call ?_; refine g_args ?_; (first | refine s_fn (tset_c _) ?_ | refine s_fn (hna _) ?_ | refine s_fn (hcb _) ?_ | refine s_fn (hcp _) ?_ | refine s_fn (hse _) ?_ | refine s_fn (hci _) ?_ | refine s_fn (hpl _) ?_ | refine s_fn (hck _) ?_ | refine s_fn (hou _) ?_ | refine s_fn (hgf _) ?_ | refine s_fn (hcw _) ?_ | refine s_fn (hcr _) ?_) <;> try first | omega | assumption) | refine ny ?_ | refine WA_block ?_))
      all_goals (try (exfalso; omega))
      all_goals (refine r_es hQ ?_; try with_reducible rfl)
      all_goals (exact congrArg V.bool (by first | rfl | (rw [decide_eq_true (by assumption)]; rfl) | (rw [decide_eq_false (by assumption)]; rfl) | exact (decide_eq_true (by assumption)).symm | exact (decide_eq_false (by assumption)).symm | exact (decide_eq_true (by omega)).symm | exact (decide_eq_false (by omega)).symm))
  · clear hgood
    unfold bnV at hse ⊢
    refine Gives_in Try.func14 rfl Try.ntmps14 Try.results14 (by kernel_rfl) (by simp) rfl fun Q hQ => ?_
    (have FX := And.intro hlw (And.intro hla (And.intro hga (And.intro hlr (And.intro hgl (And.intro hix1 (And.intro hlp hlo)))))); repeat' (first | (refine sx ?_ ?_ <;> intro h <;> first | (exfalso; omega) | skip) | (refine g_op ?_; refine g_call ?_; refine g_args ?_; (first | refine s_fn (tset_c _) ?_ | refine s_fn (hna _) ?_ | refine s_fn (hcb _) ?_ | refine s_fn (hcp _) ?_ | refine s_fn (hse _) ?_ | refine s_fn (hci _) ?_ | refine s_fn (hpl _) ?_ | refine s_fn (hck _) ?_ | refine s_fn (hou _) ?_ | refine s_fn (hgf _) ?_ | refine s_fn (hcw _) ?_ | refine s_fn (hcr _) ?_) <;> try first | omega | assumption) | refine ny ?_ | refine WA_block ?_))
    all_goals (try (exfalso; omega))
    refine WA_whileK (σ := Nat) [1, 2, 5] (fun i => [.lst (nsV ws), .ptr (lend m).length 0 0, .int .i64 i]) (fun _ => [.cells .own 25 2 [[.lst (mssV b.ms), .lst (adsV b.ads)]]]) 1 (fun i => i ≤ b.ads.length) (fun i => b.ads.length - i) 0 (Nat.zero_le _) tv_ rfl (fun _ => rfl) (by intro s s' _ _; simp [conB, conS, V.keeps, V.plain, Blk.flat, flatL, plainL, V.flat]) (by intro s s' _ _; simp [conB, conS, V.keeps, V.plain, Blk.flat, flatL, plainL, V.flat]) ?_
    rintro i hi1 K hK
    simp only [zipT]
    clear FX hga
    rcases Nat.lt_or_ge i b.ads.length with hi | hi
    · have hga := adsV_get hi
      generalize b.ads.getD i adz = y at *
      unfold adV at hga
      (have FX := And.intro hlw (And.intro hla (And.intro hga (And.intro hlr (And.intro hgl (And.intro hix1 (And.intro hlp hlo)))))); repeat' (first | (refine sx ?_ ?_ <;> intro h <;> first | (exfalso; omega) | skip) | (refine g_op ?_; refine g_call ?_; refine g_args ?_; (first | refine s_fn (tset_c _) ?_ | refine s_fn (hna _) ?_ | refine s_fn (hcb _) ?_ | refine s_fn (hcp _) ?_ | refine s_fn (hse _) ?_ | refine s_fn (hci _) ?_ | refine s_fn (hpl _) ?_ | refine s_fn (hck _) ?_ | refine s_fn (hou _) ?_ | refine s_fn (hgf _) ?_ | refine s_fn (hcw _) ?_ | refine s_fn (hcr _) ?_) <;> try first | omega | assumption) | refine ny ?_ | refine WA_block ?_))
      all_goals (try (exfalso; omega))
      all_goals first
        | ((refine r_es hQ ?_; try with_reducible rfl)
           done)
        | (refine nextL_ hK (i + 1) hi (by omega)
           done)
    · obtain rfl : i = b.ads.length := by omega
      have hga := hla
      clear hK
      (have FX := And.intro hlw (And.intro hla (And.intro hga (And.intro hlr (And.intro hgl (And.intro hix1 (And.intro hlp hlo)))))); repeat' (first | (refine sx ?_ ?_ <;> intro h <;> first | (exfalso; omega) | skip) | (refine g_op ?_; refine g_call ?_; refine g_args ?_; (first | refine s_fn (tset_c _) ?_ | refine s_fn (hna _) ?_ | refine s_fn (hcb _) ?_ | refine s_fn (hcp _) ?_ | refine s_fn (hse _) ?_ | refine s_fn (hci _) ?_ | refine s_fn (hpl _) ?_ | refine s_fn (hck _) ?_ | refine s_fn (hou _) ?_ | refine s_fn (hgf _) ?_ | refine s_fn (hcw _) ?_ | refine s_fn (hcr _) ?_) <;> try first | omega | assumption) | refine ny ?_ | refine WA_block ?_))
      all_goals (try (exfalso; omega))
      all_goals (refine r_es hQ ?_; try with_reducible rfl)
theorem reach_top (b : BnR) (ws : List Int) (m : Mem) : Gives Try.prog 14 [.agg (bnV b), .lst (nsV ws)] m (.bool true) := by
  by_cases h : narrow b ∧ ¬ 20 < (ws.length : Int) ∧ bnErr b = 0
  · exact reach_in b ws h.1 h.2.1 h.2.2 m
  · exact reach_out b ws h m
end Go.Proofs.Ytaoakololkcepaa
