/- contract: the law's names of events -/
import Derived.Test.YtbcjcbcakcdnfaaGreatC52
set_option linter.unusedSimpArgs false
set_option linter.unusedVariables false
namespace Go.Proofs.YtbcjcbcakcdnfaaGreat
open Go.RowKit
attribute [local irreducible] WA WOs WDs WAn qThen qBlock tput
set_option maxHeartbeats 1000000
set_option maxRecDepth 20000
set_option linter.unusedSimpArgs false
set_option linter.unusedVariables false
attribute [local irreducible] smB cut sm
theorem nusV_get {l : List Hp} {i : Nat} (h : i < l.length) : (nusV l)[i]? = some [V.int .i64 ((l.getD i hp0).1 : Int)] := by
  unfold nusV; rw [List.getElem?_map, list_get h]; rfl
def naS (l : List Hp) (o : Nms) (i : Nat) : List TV := [.v (.lst (nusV l)), .ptr 0 0 0, txSt 1 o, .v (.int .i64 i)]
theorem naS_ok {a : ActR} {l : List Hp} {o : Nms} {i : Nat} : (naS l o i).all (TV.okT (orE a o).length) = true := by
  unfold orE naS
  cases o with
  | nil => simp [TV.okT, txE, txSt]
  | cons p r => simp [TV.okT, txE, txSt]
theorem uC59_27_5 {N : Nat} {l : List Oper} {t : List (Nat × V)} {m : Mem} {Q : Exit → List (Nat × V) → Mem → Prop} (h : RgN Tryz.prog N l t m Q (fun i => if i == 11 then .w else if i == 10 then .a else if i == 2 || i == 6 || i == 9 then .q else .p) [.one 0, .one 1, .one 2, .one 3, .one 4, .one 5, .one 6, .one 7, .one 8, .one 9, .one 10, .one 11, .one 12]) : WA Tryz.prog N (.region 5 l.toArray true) t m Q := d_rgN h
theorem lnamed_c (a : ActR) (l : List Hp) (hl : l.length ≤ 1000) (hB : ∀ i, i < l.length → (l.getD i hp0).1 < a.evs.length) (m : Mem) : Gives Tryz.prog 27 [.agg (actV a), .lst (nusV l)] m (.lst (txV (hapN a l))) := by
  have hlen := evsV_length (l := a.evs)
  have hnl := nusV_length (l := l)
  have hga := hlen
  have hgb := hlen
  have hll := hlen
  have hlt := hlen
  suffices key : CallA Tryz.prog 27 [.agg (actV a), .lst (nusV l)] m (fun v' mo => v' = oV (txV (hapN a l)) ∧ mo = none) from Gives_weak key (wk_oV _)
  unfold actV
  refine CallA_in Tryz.func27 rfl Tryz.ntmps27 Tryz.results27 (by kernel_rfl) (by simp) fun Q hQ => ?_
  (have FX := And.intro hlen (And.intro hnl (And.intro hga (And.intro hgb (And.intro hll hlt)))); repeat' (first | (refine sx ?_ ?_ <;> intro h <;> first | (exfalso; omega) | skip) | refine ny ?_ | refine WA_block ?_ | (refine uC59_27_5 ?_; refine ⟨by kernel_rfl, ?_⟩)))
  refine WA_whileJ (σ := Nat) (L := lend m) [1, 2, 5, 6] (fun i => naS l (hapN a (l.take i)) i) (fun i => orE a (hapN a (l.take i))) (fun i => i ≤ l.length) (fun i => l.length - i) 0 [0] (Nat.zero_le _) ?_ rfl rfl (by decide) (by decide) (fun _ _ => naS_ok (a := a)) (fun _ _ => orE_ok) ?_
  · simp only [naS, hapN, List.take_zero, txSt, List.map_cons, List.map_nil, TV.inst, List.getD_cons_zero, List.getD_cons_succ]
    exact tv_
  rintro i hi1 B ⟨D, hB2⟩ K hK
  clear FX hga hgb hll hlt
  have hol : (hapN a (l.take i)).length = i := by rw [hapN_len, List.length_take]; omega
  rcases Nat.lt_or_ge i l.length with hi | hi
  · have hsu := hapN_succ (a := a) hi
    have hga := nusV_get hi
    have hgb := evsV_get (hB i hi)
    have hnx := hK (i + 1)
    rw [hsu] at hnx
    have hny := fun (_ : Unit) => hnx
    clear hnx hsu hK
    have hpn := hB i hi
    generalize (l.getD i hp0).1 = pn at *
    unfold evV at hgb
    generalize a.evs.getD pn e0 = ev at *
    generalize hapN a (l.take i) = o at *
    cases o with
    | nil =>
      have hll := hlen
      have hlt := hlen
      simp only [naS, orE, actT, txSt, txE]
      simp only [List.map_cons, List.map_nil, TB.inst, TV.inst, tv_map, zipT, List.cons_append, List.nil_append, Nat.add_zero]
      (have FX := And.intro hlen (And.intro hnl (And.intro hga (And.intro hgb (And.intro hll hlt)))); repeat' (first | (refine sx ?_ ?_ <;> intro h <;> first | (exfalso; omega) | skip) | refine ny ?_ | refine WA_block ?_ | (refine uC59_27_5 ?_; refine ⟨by kernel_rfl, ?_⟩)))
      all_goals (try (exfalso; omega))
      all_goals ((refine nextU_ hny (()) [0, 2] (hi) (by omega) ?_ (ht := ?_); (focus (simp only [orE, actT, txE, List.map_cons, List.map_nil, TB.inst, TV.inst, tv_map, List.cons_append, List.nil_append]; first | rfl | (simp [ptsV, ptV]; done) | (simp [hpsV, hpV]; done) | (simp [frsV, frV]; done) | (simp [txV]; done) | (simp [prtsV, prtV]; done))); (simp only [naS, txSt, List.length_nil, Nat.zero_add, List.map_cons, List.map_nil, TV.inst, List.getD_cons_zero, List.getD_cons_succ]; exact tv_)))
    | cons p r =>
      have hll : (txV (p :: r)).length = r.length + 1 := txV_length
      have hlt : (txV (p :: r)).take (r.length + 1) = txV (p :: r) := by rw [List.take_of_length_le (by rw [hll]; exact Nat.le_refl _)]
      simp only [List.length_cons] at hol
      simp only [naS, orE, actT, txSt, txE]
      simp only [List.map_cons, List.map_nil, TB.inst, TV.inst, tv_map, zipT, List.cons_append, List.nil_append, Nat.add_zero]
      (have FX := And.intro hlen (And.intro hnl (And.intro hga (And.intro hgb (And.intro hll hlt)))); repeat' (first | (refine sx ?_ ?_ <;> intro h <;> first | (exfalso; omega) | skip) | refine ny ?_ | refine WA_block ?_ | (refine uC59_27_5 ?_; refine ⟨by kernel_rfl, ?_⟩)))
      all_goals (try (exfalso; omega))
      all_goals ((refine nextU_ hny (()) [0, 3] (hi) (by omega) ?_ (ht := ?_); (focus (simp only [orE, actT, txE, List.map_cons, List.map_nil, TB.inst, TV.inst, tv_map, List.cons_append, List.nil_append]; first | rfl | (simp [ptsV, ptV]; done) | (simp [hpsV, hpV]; done) | (simp [frsV, frV]; done) | (simp [txV]; done) | (simp [prtsV, prtV]; done))); (simp only [naS, txSt, List.cons_append, List.length_append, List.length_cons, List.length_nil, Nat.zero_add, List.map_cons, List.map_nil, TV.inst, List.getD_cons_zero, List.getD_cons_succ]; exact tv_)))
  · have hie : i = l.length := by omega
    subst hie
    rw [List.take_of_length_le (Nat.le_refl _)]
    have hga := hlen
    have hgb := hlen
    have hll := hlen
    have hlt := hlen
    clear hK hol
    generalize hapN a l = o at *
    cases o with
    | nil =>
      have e0 : oV (txV []) = V.nilsl := rfl
      rw [e0] at hQ
      simp only [naS, orE, actT, txSt, txE]
      simp only [List.map_cons, List.map_nil, TB.inst, TV.inst, tv_map, zipT, List.cons_append, List.nil_append, Nat.add_zero]
      (have FX := And.intro hlen (And.intro hnl (And.intro hga (And.intro hgb (And.intro hll hlt)))); repeat' (first | (refine sx ?_ ?_ <;> intro h <;> first | (exfalso; omega) | skip) | refine ny ?_ | refine WA_block ?_ | (refine uC59_27_5 ?_; refine ⟨by kernel_rfl, ?_⟩)))
      all_goals (try (exfalso; omega))
      all_goals (refine r_esA hQ (.inl ⟨rfl, rfl, rfl⟩))
    | cons p r =>
      have hrl : (txV (p :: r)).length = r.length + 1 := txV_length
      have e0 : oV (txV (p :: r)) = .lst (txV (p :: r)) := rfl
      rw [e0] at hQ
      simp only [naS, orE, actT, txSt, txE]
      simp only [List.map_cons, List.map_nil, TB.inst, TV.inst, tv_map, zipT, List.cons_append, List.nil_append, Nat.add_zero]
      (have FX := And.intro hlen (And.intro hnl (And.intro hga (And.intro hgb (And.intro hll hlt)))); repeat' (first | (refine sx ?_ ?_ <;> intro h <;> first | (exfalso; omega) | skip) | refine ny ?_ | refine WA_block ?_ | (refine uC59_27_5 ?_; refine ⟨by kernel_rfl, ?_⟩)))
      all_goals (try (exfalso; omega))
      all_goals (refine r_esA hQ ?_)
      all_goals (refine fin_sl (D := D) (j := 1) hB2 rfl (by rw [hrl]; exact Nat.le_refl _) (by rw [List.take_of_length_le (by rw [hrl]; exact Nat.le_refl _)]; exact txV_plain _) ⟨?_, rfl⟩)
      all_goals (rw [List.take_of_length_le (by rw [hrl]; exact Nat.le_refl _)])
end Go.Proofs.YtbcjcbcakcdnfaaGreat
