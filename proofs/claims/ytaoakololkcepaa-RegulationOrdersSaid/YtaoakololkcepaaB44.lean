/- contracts: short plans; plans copied -/
import Derived.Test.YtaoakololkcepaaBP
import Derived.Test.YtaoakololkcepaaB26
set_option linter.unusedSimpArgs false
set_option linter.unusedVariables false
namespace Go.Proofs.Ytaoakololkcepaa
open Go.RowKit
attribute [local irreducible] WA WOs WDs WAn qThen qBlock tput
set_option maxHeartbeats 1000000
set_option maxRecDepth 20000
set_option linter.unusedSimpArgs false
set_option linter.unusedVariables false
set_option maxHeartbeats 4000000
theorem WA_stopB {P : Program} {N : Nat} {c : Code} {t : List (Nat × V)} {m : Mem} {i : Nat} {K1 : List (Nat × V) → Mem → Prop} {Q : Exit → List (Nat × V) → Mem → Prop} (h : ∀ K2 : List (Nat × V) → Mem → Prop, (∀ t m, K1 t m → K2 t m) → WA P N c t m (qBlock i (qThen K2 Q))) : WA P N c t m (qBlock i (qThen K1 Q)) := h K1 fun _ _ h => h
def plE (l : List (List StR)) : Nat → List TB
  | 0 => []
  | k + 1 => [.cells .own 75 1 ((plV (l.take (k + 1))).map (List.map TV.v))]
def plS (l : List (List StR)) (i : Nat) : List TV := [.v (.lst (plV l)), (match i with | 0 => .v .nilsl | k + 1 => .sl 0 (k + 1)), .v (.int .i64 i)]
theorem plE_ok {l : List (List StR)} {k : Nat} : (plE l k).all (TB.ok (plE l k).length) = true := by
  cases k with
  | zero => simp [plE]
  | succ k => simp only [plE, List.all_cons, TB.ok, TV.okT, List.all_nil, Bool.and_true, Bool.and_self, tvs_ok, List.length_cons, List.length_nil]
theorem plS_ok {l : List (List StR)} {k : Nat} : (plS l k).all (TV.okT (plE l k).length) = true := by
  cases k with
  | zero => simp [plS, plE, TV.okT]
  | succ k => simp [plS, plE, TV.okT]
theorem stsV_frz (b : Nat) (es : List (List V)) (l : List StR) : (stsV l).map (List.map (frzV b es)) = stsV l := by
  simp [stsV, stV, frzV]
theorem plV_frz (b : Nat) (es : List (List V)) (l : List (List StR)) : (plV l).map (List.map (frzV b es)) = plV l := by
  simp [plV, frzV]

theorem lplan_c (l : List (List StR)) (hl : l.length ≤ 1000) (hs : ∀ i, i < l.length → (l.getD i []).length ≤ 1000) (m : Mem) : Gives Try.prog 47 [.lst (plV l)] m (.lst (plV l)) := by
  have hlp := plV_length (l := l)
  have hga := hlp
  have hls := hlp
  have hal := hlp
  have hll := hlp
  have hlt := hlp
  suffices key : CallA Try.prog 47 [.lst (plV l)] m (fun v' mo => v' = oV (plV l) ∧ mo = none) from Gives_weak key (wk_oV _)
  refine CallA_in Try.func47 rfl Try.ntmps47 Try.results47 (by kernel_rfl) (by simp) fun Q hQ => ?_
  (have FX := And.intro hlp (And.intro hga (And.intro hls (And.intro hal (And.intro hll hlt)))); repeat' (first | (refine sx ?_ ?_ <;> intro h <;> first | (exfalso; omega) | skip) | refine ny ?_ | refine WA_block ?_))
  refine WA_whileJ (σ := Nat) (L := lend m) (X := []) [0, 3, 4] (fun i => plS l i) (fun i => plE l i) (fun i => i ≤ l.length) (fun i => l.length - i) 0 [] (Nat.zero_le _) ?_ rfl rfl (by decide) (by decide) (fun _ _ => plS_ok) (fun _ _ => plE_ok) ?_
  · exact tv_
  rintro i hi1 B ⟨D, hB⟩ K hK
  clear FX hga hls hal hll hlt
  rcases Nat.lt_or_ge i l.length with hi | hi
  · have hga := plV_get hi
    have hsi := hs i hi
    have hls := stsV_length (l := l.getD i [])
    have hal := fun n h => stsV_all (l := l.getD i []) (n := n) h
    have hsn : plV (l.take (i + 1)) = plV (l.take i) ++ [[V.lst (stsV (l.getD i []))]] := by
      rw [List.take_succ_eq_append_getElem hi]
      have : l.getD i [] = l[i] := by rw [List.getD_eq_getElem?_getD, List.getElem?_eq_getElem hi]; rfl
      rw [this, plV_snoc]
    generalize l.getD i [] = p at *
    have hne : ∀ (a c d : Nat), (a + c = a + d) = (c = d) := fun a c d => by simp
    have hn0 : ∀ (a d : Nat), (a = a + d) = (0 = d) := fun a d => by rw [eq_iff_iff]; omega
    have htp : (stsV p).take p.length = stsV p := List.take_of_length_le (by rw [hls]; exact Nat.le_refl _)
    have hnx := hK (i + 1)
    have hny := fun (_ : Unit) => hnx
    clear hnx hK
    cases i with
    | zero =>
      have hll := hlp
      have hlt := hlp
      simp only [plS, plE]
      simp only [List.map_cons, List.map_nil, TB.inst, TV.inst, tv_map, zipT, List.cons_append, List.nil_append, Nat.add_zero]
      (repeat' (first | (refine sx ?_ ?_ <;> intro h <;> first | (exfalso; omega) | skip) | refine ny ?_ | fail))
      all_goals (try (exfalso; omega))
      refine WA_block ?_
      refine WA_stopB fun K2 hK2 => ?_
      (have FX := And.intro hlp (And.intro hga (And.intro hls (And.intro hal (And.intro hll hlt)))); repeat' (first | (refine sx ?_ ?_ <;> intro h <;> first | (exfalso; omega) | skip) | refine ny ?_ | refine WA_block ?_))
      all_goals (try (exfalso; omega))
      refine hK2 _ _ ?_
      clear hK2
      refine WA_fzM (j := 1) rfl ?_
      simp (decide := true) only [List.map_cons, List.map_nil, List.map_append, frzV, frzC, List.set_cons_succ, List.set_cons_zero, hne, hn0, Nat.reduceEqDiff, false_and, true_and, if_false, if_true, hls, Nat.le_refl, htp, stsV_frz, plV_frz]
      clear FX
      (have FX := And.intro hlp (And.intro hga (And.intro hls (And.intro hal (And.intro hll hlt)))); repeat' (first | (refine sx ?_ ?_ <;> intro h <;> first | (exfalso; omega) | skip) | refine ny ?_ | refine WA_block ?_))
      (refine nextU_ hny (()) [3] (by omega) (by omega) ?_ (ht := ?_); (focus (simp only [plE, hsn, List.map_cons, List.map_nil, TB.inst, TV.inst, tv_map, List.cons_append, List.nil_append]; first | rfl | (simp [ptsV, ptV]; done) | (simp [hpsV, hpV]; done) | (simp [frsV, frV]; done) | (simp [txV]; done) | (simp [prtsV, prtV]; done))); (simp only [plS, List.map_cons, List.map_nil, TV.inst, List.getD_cons_zero, List.getD_cons_succ]; exact tv_))
    | succ i =>
      have hll : (plV (l.take (i + 1))).length = i + 1 := by rw [plV_length, List.length_take]; omega
      have hlt : (plV (l.take (i + 1))).take (i + 1) = plV (l.take (i + 1)) := by rw [List.take_of_length_le (by rw [hll]; exact Nat.le_refl _)]
      simp only [plS, plE]
      simp only [List.map_cons, List.map_nil, TB.inst, TV.inst, tv_map, zipT, List.cons_append, List.nil_append, Nat.add_zero]
      (repeat' (first | (refine sx ?_ ?_ <;> intro h <;> first | (exfalso; omega) | skip) | refine ny ?_ | fail))
      all_goals (try (exfalso; omega))
      refine WA_block ?_
      refine WA_stopB fun K2 hK2 => ?_
      (have FX := And.intro hlp (And.intro hga (And.intro hls (And.intro hal (And.intro hll hlt)))); repeat' (first | (refine sx ?_ ?_ <;> intro h <;> first | (exfalso; omega) | skip) | refine ny ?_ | refine WA_block ?_))
      all_goals (try (exfalso; omega))
      refine hK2 _ _ ?_
      clear hK2
      refine WA_fzM (j := 2) rfl ?_
      simp (decide := true) only [List.map_cons, List.map_nil, List.map_append, frzV, frzC, List.set_cons_succ, List.set_cons_zero, hne, hn0, Nat.reduceEqDiff, false_and, true_and, if_false, if_true, hls, Nat.le_refl, htp, stsV_frz, plV_frz]
      clear FX
      (have FX := And.intro hlp (And.intro hga (And.intro hls (And.intro hal (And.intro hll hlt)))); repeat' (first | (refine sx ?_ ?_ <;> intro h <;> first | (exfalso; omega) | skip) | refine ny ?_ | refine WA_block ?_))
      (refine nextU_ hny (()) [4] (by omega) (by omega) ?_ (ht := ?_); (focus (simp only [plE, hsn, List.map_cons, List.map_nil, TB.inst, TV.inst, tv_map, List.cons_append, List.nil_append]; first | rfl | (simp [ptsV, ptV]; done) | (simp [hpsV, hpV]; done) | (simp [frsV, frV]; done) | (simp [txV]; done) | (simp [prtsV, prtV]; done))); (simp only [plS, List.map_cons, List.map_nil, TV.inst, List.getD_cons_zero, List.getD_cons_succ]; exact tv_))
  · obtain rfl : i = l.length := by omega
    cases hk : l.length with
    | zero =>
      have hga := hlp
      have hls := hlp
      have hal := hlp
      have hll := hlp
      have hlt := hlp
      simp only [plS, plE]
      simp only [List.map_cons, List.map_nil, TB.inst, TV.inst, tv_map, zipT, List.cons_append, List.nil_append, Nat.add_zero]
      (have FX := And.intro hlp (And.intro hga (And.intro hls (And.intro hal (And.intro hll hlt)))); repeat' (first | (refine sx ?_ ?_ <;> intro h <;> first | (exfalso; omega) | skip) | refine ny ?_ | refine WA_block ?_))
      all_goals (try (exfalso; omega))
      have ha : l = [] := List.eq_nil_of_length_eq_zero hk
      have e0 : oV (plV l) = V.nilsl := by rw [ha]; rfl
      rw [e0] at hQ
      refine r_esA hQ (.inl ⟨rfl, rfl, rfl⟩)
    | succ k =>
      have hga := hlp
      have hls := hlp
      have hal := hlp
      have hll := hlp
      have hlt := hlp
      simp only [plS, plE]
      simp only [List.map_cons, List.map_nil, TB.inst, TV.inst, tv_map, zipT, List.cons_append, List.nil_append, Nat.add_zero]
      (have FX := And.intro hlp (And.intro hga (And.intro hls (And.intro hal (And.intro hll hlt)))); repeat' (first | (refine sx ?_ ?_ <;> intro h <;> first | (exfalso; omega) | skip) | refine ny ?_ | refine WA_block ?_))
      all_goals (try (exfalso; omega))
      have hl1 : (plV (l.take (k + 1))).length = k + 1 := by rw [plV_length, List.length_take]; omega
      have ht1 : (plV (l.take (k + 1))).take (k + 1) = plV l := by rw [List.take_of_length_le (by rw [hl1]; exact Nat.le_refl _), List.take_of_length_le (by omega)]
      have e0 : oV (plV l) = V.lst (plV l) := by
        cases l with
        | nil => simp at hk
        | cons p r => rfl
      rw [e0] at hQ
      refine r_esA hQ (fin_sl (j := 0) (k := k + 1) hB rfl (by rw [hl1]; exact Nat.le_refl _) (by rw [ht1]; exact plV_plain _) ⟨by rw [ht1], rfl⟩)
end Go.Proofs.Ytaoakololkcepaa
