/- contracts: values and what is broken, of the reference -/
import Derived.Test.YtaoakololkcepaaB27d
import Derived.Test.YtaoakololkcepaaB11
import Derived.Test.YtaoakololkcepaaB20
set_option linter.unusedSimpArgs false
set_option linter.unusedVariables false
namespace Go.Proofs.Ytaoakololkcepaa
open Go.RowKit
attribute [local irreducible] WA WOs WDs WAn qThen qBlock tput
set_option maxHeartbeats 1000000
set_option maxRecDepth 20000
set_option linter.unusedSimpArgs false
set_option linter.unusedVariables false
set_option maxHeartbeats 2000000
theorem uB27_39_9 {N : Nat} {l : List Oper} {t : List (Nat × V)} {m : Mem} {Q : Exit → List (Nat × V) → Mem → Prop} (h : RgN Try.prog N l t m Q (fun i => if i == 4 || i == 5 || i == 8 then .q else .p) [.one 0, .one 1, .one 2, .one 3, .one 4, .one 5, .one 6, .one 7, .one 8, .one 9, .one 10, .one 11]) : WA Try.prog N (.region 9 l.toArray true) t m Q := d_rgN h
theorem rvalues_c (b : BnR) (hb : Bnd b) (hef : ∀ k, k < b.ads.length → (b.ads.getD k adz).effs.length ≤ 1000) (l : List Int) (hl : l.length = b.ads.length) (hs : ∀ k, k < b.ads.length → -1000 ≤ l.getD k 0 ∧ l.getD k 0 ≤ 1000) (m : Mem) : Gives Try.prog 39 [.agg [.lst (mssV b.ms), .lst (adsV b.ads)], .lst (nsV l)] m (.lst (nsV (valsP b l b.ms.length))) := by
  have hlm := mssV_length (l := b.ms)
  have hln := nsV_length (l := l)
  have hla := adsV_length (l := b.ads)
  have hgm := hla
  have hgb := hla
  have hll := hla
  have hlt := hla
  have hby := hla
  have hfa := hb.fa
  have hfm := hb.fm
  suffices key : CallA Try.prog 39 [.agg [.lst (mssV b.ms), .lst (adsV b.ads)], .lst (nsV l)] m (fun v' mo => v' = oV (nsV (valsP b l b.ms.length)) ∧ mo = none) from Gives_weak key (wk_oV _)
  refine CallA_in Try.func39 rfl Try.ntmps39 Try.results39 (by kernel_rfl) (by simp) fun Q hQ => ?_
  (have FX := And.intro hlm (And.intro hln (And.intro hla (And.intro hgm (And.intro hgb (And.intro hll hlt))))); repeat' (first | (refine sx ?_ ?_ <;> intro h <;> first | (exfalso; omega) | skip) | (refine g_op ?_; refine g_call ?_; refine g_args ?_; (first | refine s_fn (hby _) ?_) <;> try first | omega | assumption) | refine ny ?_ | refine WA_block ?_ | (refine uB27_39_9 ?_; refine ⟨by kernel_rfl, ?_⟩) | ((first | refine grp_cons (fun _ => hby _) ?_) <;> try first | omega | assumption) | (refine g_d ?_; refine d_args ?_; (first | refine d_fn (hby _) ?_ | refine d_fnQ (fun _ => hby _) ?_) <;> try first | omega | assumption) | (refine g_d ?_; (first | refine d_fnY (hby _) ?_) <;> try first | omega | assumption)))
  refine WA_whileJ (σ := Nat) (L := lend m) (X := [.cells .own 25 2 [[.lst (mssV b.ms), .lst (adsV b.ads)]]]) [1, 2, 5, 6] (fun i => [.v (.lst (nsV l)), .ptr 0 0 0, niSt 1 (valsP b l i), .v (.int .i64 i)]) (fun i => rvE b (valsP b l i)) (fun i => i ≤ b.ms.length) (fun i => b.ms.length - i) 0 [0] (Nat.zero_le _) ?_ rfl rfl (by decide) (by decide) (fun s _ => rvS_ok (ls := [.int .i64 s])) (fun _ _ => rvE_ok) ?_
  · exact tv_
  rintro i hi1 B ⟨D, hB⟩ K hK
  clear FX hgm hgb hll hlt hby
  have hvl := valsP_length b l i
  rcases Nat.lt_or_ge i b.ms.length with hi | hi
  · have hgm := mssV_get hi
    have hvs := valsP_succ b l i
    have hva := (hb.va i hi).1
    have hv0 : valK b l i 0 = (b.ms.getD i msz).val := rfl
    have hvn : valP b l i = valK b l i b.ads.length := rfl
    have hvb := valP_bd hb hi hs
    have hnx := hK (i + 1)
    have hny := fun (_ : Unit) => hnx
    clear hnx hK
    rw [hvs] at hny
    generalize b.ms.getD i msz = y at hgm hva hv0
    obtain ⟨ynm, yva, ylo, yhi⟩ := y
    unfold msV at hgm
    dsimp only at hgm hva hv0
    generalize valsP b l i = out at *
    cases out with
    | nil =>
      have hll := hla
      have hlt := hla
      simp only [rvE, benT, niSt, niE]
      simp only [List.map_cons, List.map_nil, TB.inst, TV.inst, tv_map, zipT, List.cons_append, List.nil_append, Nat.add_zero]
      have hgb := hla
      have hby := hla
      (have FX := And.intro hlm (And.intro hln (And.intro hla (And.intro hgm (And.intro hgb (And.intro hll hlt))))); repeat' (first | (refine sx ?_ ?_ <;> intro h <;> first | (exfalso; omega) | skip) | (refine g_op ?_; refine g_call ?_; refine g_args ?_; (first | refine s_fn (hby _) ?_) <;> try first | omega | assumption) | refine ny ?_ | refine WA_block ?_ | (refine uB27_39_9 ?_; refine ⟨by kernel_rfl, ?_⟩) | ((first | refine grp_cons (fun _ => hby _) ?_) <;> try first | omega | assumption) | (refine g_d ?_; refine d_args ?_; (first | refine d_fn (hby _) ?_ | refine d_fnQ (fun _ => hby _) ?_) <;> try first | omega | assumption) | (refine g_d ?_; (first | refine d_fnY (hby _) ?_) <;> try first | omega | assumption)))
      all_goals (try (exfalso; omega))
      refine WA_while (σ := Nat) [1, 2, 5, 6, 7, 8] (fun k => [.lst (nsV l), .ptr B.length 0 0, .nilsl, .int .i64 i, .int .i64 (valK b l i k), .int .i64 k]) (fun _ => B ++ [.cells .own 25 2 [[.lst (mssV b.ms), .lst (adsV b.ads)]]]) (fun k => k ≤ b.ads.length) (fun k => b.ads.length - k) 0 (Nat.zero_le _) (by rw [hv0]; exact tv_) rfl ?_
      rintro k hk1 K2 hK2
      simp only [zipT]
      clear FX hgb hby
      have hbd := valK_bd hb hi hs k hk1
      rcases Nat.lt_or_ge k b.ads.length with hk | hk
      · have hgb := nsV_get (l := l) (i := k) (by omega)
        have hbx := hb.by_ k i
        have hsk := hs k hk
        have hmb := mul_bd (a := 1000) (c := 1000) (by decide) hsk hbx
        have hsu : valK b l i (k + 1) = valK b l i k + l.getD k 0 * byN b k i := rfl
        have hby := fun m => rby_c b k i hk hi (hef k hk) m
        generalize byN b k i = by' at *
        generalize l.getD k 0 = sk at *
        generalize hvk : valK b l i k = vk at *
        (have FX := And.intro hlm (And.intro hln (And.intro hla (And.intro hgm (And.intro hgb (And.intro hll hlt))))); repeat' (first | (refine sx ?_ ?_ <;> intro h <;> first | (exfalso; omega) | skip) | (refine g_op ?_; refine g_call ?_; refine g_args ?_; (first | refine s_fn (hby _) ?_) <;> try first | omega | assumption) | refine ny ?_ | refine WA_block ?_ | (refine uB27_39_9 ?_; refine ⟨by kernel_rfl, ?_⟩) | ((first | refine grp_cons (fun _ => hby _) ?_) <;> try first | omega | assumption) | (refine g_d ?_; refine d_args ?_; (first | refine d_fn (hby _) ?_ | refine d_fnQ (fun _ => hby _) ?_) <;> try first | omega | assumption) | (refine g_d ?_; (first | refine d_fnY (hby _) ?_) <;> try first | omega | assumption)))
        all_goals (try (exfalso; omega))
        all_goals (refine next_ hK2 (k + 1) hk (by omega) (by rw [hsu]; exact tv_))
      · obtain rfl : k = b.ads.length := by omega
        have hgb := hla
        have hby := hla
        rw [hvn] at hny
        generalize valK b l i b.ads.length = vv at *
        (have FX := And.intro hlm (And.intro hln (And.intro hla (And.intro hgm (And.intro hgb (And.intro hll hlt))))); repeat' (first | (refine sx ?_ ?_ <;> intro h <;> first | (exfalso; omega) | skip) | (refine g_op ?_; refine g_call ?_; refine g_args ?_; (first | refine s_fn (hby _) ?_) <;> try first | omega | assumption) | refine ny ?_ | refine WA_block ?_ | (refine uB27_39_9 ?_; refine ⟨by kernel_rfl, ?_⟩) | ((first | refine grp_cons (fun _ => hby _) ?_) <;> try first | omega | assumption) | (refine g_d ?_; refine d_args ?_; (first | refine d_fn (hby _) ?_ | refine d_fnQ (fun _ => hby _) ?_) <;> try first | omega | assumption) | (refine g_d ?_; (first | refine d_fnY (hby _) ?_) <;> try first | omega | assumption)))
        all_goals (try (exfalso; omega))
        all_goals ((refine nextU_ hny (()) [0, 2] (hi) (by omega) ?_ (ht := ?_); (focus (simp only [rvE, benT, niE, List.cons_append, List.nil_append, List.map_cons, List.map_nil, TB.inst, TV.inst, tv_map, List.cons_append, List.nil_append]; first | rfl | (simp [ptsV, ptV]; done) | (simp [hpsV, hpV]; done) | (simp [frsV, frV]; done) | (simp [txV]; done) | (simp [prtsV, prtV]; done))); (simp only [niSt, List.cons_append, List.nil_append, List.length_append, List.length_cons, List.length_nil, Nat.zero_add, List.map_cons, List.map_nil, TV.inst, List.getD_cons_zero, List.getD_cons_succ]; exact tv_)))
    | cons p r =>
      have hll : (nsV (p :: r)).length = r.length + 1 := nsV_length
      have hlt : (nsV (p :: r)).take (r.length + 1) = nsV (p :: r) := by rw [List.take_of_length_le (by rw [hll]; exact Nat.le_refl _)]
      have hrl : r.length + 1 = i := by simpa using hvl
      simp only [rvE, benT, niSt, niE]
      simp only [List.map_cons, List.map_nil, TB.inst, TV.inst, tv_map, zipT, List.cons_append, List.nil_append, Nat.add_zero]
      have hgb := hla
      have hby := hla
      (have FX := And.intro hlm (And.intro hln (And.intro hla (And.intro hgm (And.intro hgb (And.intro hll hlt))))); repeat' (first | (refine sx ?_ ?_ <;> intro h <;> first | (exfalso; omega) | skip) | (refine g_op ?_; refine g_call ?_; refine g_args ?_; (first | refine s_fn (hby _) ?_) <;> try first | omega | assumption) | refine ny ?_ | refine WA_block ?_ | (refine uB27_39_9 ?_; refine ⟨by kernel_rfl, ?_⟩) | ((first | refine grp_cons (fun _ => hby _) ?_) <;> try first | omega | assumption) | (refine g_d ?_; refine d_args ?_; (first | refine d_fn (hby _) ?_ | refine d_fnQ (fun _ => hby _) ?_) <;> try first | omega | assumption) | (refine g_d ?_; (first | refine d_fnY (hby _) ?_) <;> try first | omega | assumption)))
      all_goals (try (exfalso; omega))
      refine WA_while (σ := Nat) [1, 2, 5, 6, 7, 8] (fun k => [.lst (nsV l), .ptr B.length 0 0, (.sl (B.length + 1) (r.length + 1)), .int .i64 i, .int .i64 (valK b l i k), .int .i64 k]) (fun _ => B ++ [.cells .own 25 2 [[.lst (mssV b.ms), .lst (adsV b.ads)]], .cells .own 3 1 (nsV (p :: r))]) (fun k => k ≤ b.ads.length) (fun k => b.ads.length - k) 0 (Nat.zero_le _) (by rw [hv0]; exact tv_) rfl ?_
      rintro k hk1 K2 hK2
      simp only [zipT]
      clear FX hgb hby
      have hbd := valK_bd hb hi hs k hk1
      rcases Nat.lt_or_ge k b.ads.length with hk | hk
      · have hgb := nsV_get (l := l) (i := k) (by omega)
        have hbx := hb.by_ k i
        have hsk := hs k hk
        have hmb := mul_bd (a := 1000) (c := 1000) (by decide) hsk hbx
        have hsu : valK b l i (k + 1) = valK b l i k + l.getD k 0 * byN b k i := rfl
        have hby := fun m => rby_c b k i hk hi (hef k hk) m
        generalize byN b k i = by' at *
        generalize l.getD k 0 = sk at *
        generalize hvk : valK b l i k = vk at *
        (have FX := And.intro hlm (And.intro hln (And.intro hla (And.intro hgm (And.intro hgb (And.intro hll hlt))))); repeat' (first | (refine sx ?_ ?_ <;> intro h <;> first | (exfalso; omega) | skip) | (refine g_op ?_; refine g_call ?_; refine g_args ?_; (first | refine s_fn (hby _) ?_) <;> try first | omega | assumption) | refine ny ?_ | refine WA_block ?_ | (refine uB27_39_9 ?_; refine ⟨by kernel_rfl, ?_⟩) | ((first | refine grp_cons (fun _ => hby _) ?_) <;> try first | omega | assumption) | (refine g_d ?_; refine d_args ?_; (first | refine d_fn (hby _) ?_ | refine d_fnQ (fun _ => hby _) ?_) <;> try first | omega | assumption) | (refine g_d ?_; (first | refine d_fnY (hby _) ?_) <;> try first | omega | assumption)))
        all_goals (try (exfalso; omega))
        all_goals (refine next_ hK2 (k + 1) hk (by omega) (by rw [hsu]; exact tv_))
      · obtain rfl : k = b.ads.length := by omega
        have hgb := hla
        have hby := hla
        rw [hvn] at hny
        generalize valK b l i b.ads.length = vv at *
        have hsn : nsV (p :: (r ++ [vv])) = nsV (p :: r) ++ [[V.int .i64 vv]] := nsV_snoc (p :: r) vv
        (have FX := And.intro hlm (And.intro hln (And.intro hla (And.intro hgm (And.intro hgb (And.intro hll hlt))))); repeat' (first | (refine sx ?_ ?_ <;> intro h <;> first | (exfalso; omega) | skip) | (refine g_op ?_; refine g_call ?_; refine g_args ?_; (first | refine s_fn (hby _) ?_) <;> try first | omega | assumption) | refine ny ?_ | refine WA_block ?_ | (refine uB27_39_9 ?_; refine ⟨by kernel_rfl, ?_⟩) | ((first | refine grp_cons (fun _ => hby _) ?_) <;> try first | omega | assumption) | (refine g_d ?_; refine d_args ?_; (first | refine d_fn (hby _) ?_ | refine d_fnQ (fun _ => hby _) ?_) <;> try first | omega | assumption) | (refine g_d ?_; (first | refine d_fnY (hby _) ?_) <;> try first | omega | assumption)))
        all_goals (try (exfalso; omega))
        all_goals ((refine nextU_ hny (()) [0, 3] (hi) (by omega) ?_ (ht := ?_); (focus (simp only [rvE, benT, niE, hsn, List.cons_append, List.nil_append, List.map_cons, List.map_nil, TB.inst, TV.inst, tv_map, List.cons_append, List.nil_append]; first | rfl | (simp [ptsV, ptV]; done) | (simp [hpsV, hpV]; done) | (simp [frsV, frV]; done) | (simp [txV]; done) | (simp [prtsV, prtV]; done))); (simp only [niSt, List.cons_append, List.nil_append, List.length_append, List.length_cons, List.length_nil, Nat.zero_add, List.map_cons, List.map_nil, TV.inst, List.getD_cons_zero, List.getD_cons_succ]; exact tv_)))
  · obtain rfl : i = b.ms.length := by omega
    have hgm := hla
    have hgb := hla
    have hby := hla
    clear hK
    generalize valsP b l b.ms.length = out at *
    cases out with
    | nil =>
      have hll := hla
      have hlt := hla
      have e0 : oV (nsV []) = V.nilsl := rfl
      rw [e0] at hQ
      simp only [rvE, benT, niSt, niE]
      simp only [List.map_cons, List.map_nil, TB.inst, TV.inst, tv_map, zipT, List.cons_append, List.nil_append, Nat.add_zero]
      (have FX := And.intro hlm (And.intro hln (And.intro hla (And.intro hgm (And.intro hgb (And.intro hll hlt))))); repeat' (first | (refine sx ?_ ?_ <;> intro h <;> first | (exfalso; omega) | skip) | (refine g_op ?_; refine g_call ?_; refine g_args ?_; (first | refine s_fn (hby _) ?_) <;> try first | omega | assumption) | refine ny ?_ | refine WA_block ?_ | (refine uB27_39_9 ?_; refine ⟨by kernel_rfl, ?_⟩) | ((first | refine grp_cons (fun _ => hby _) ?_) <;> try first | omega | assumption) | (refine g_d ?_; refine d_args ?_; (first | refine d_fn (hby _) ?_ | refine d_fnQ (fun _ => hby _) ?_) <;> try first | omega | assumption) | (refine g_d ?_; (first | refine d_fnY (hby _) ?_) <;> try first | omega | assumption)))
      all_goals (try (exfalso; omega))
      all_goals (refine r_esA hQ (.inl ⟨rfl, rfl, rfl⟩))
    | cons p r =>
      have hll : (nsV (p :: r)).length = r.length + 1 := nsV_length
      have hlt : (nsV (p :: r)).take (r.length + 1) = nsV (p :: r) := by rw [List.take_of_length_le (by rw [hll]; exact Nat.le_refl _)]
      have e0 : oV (nsV (p :: r)) = V.lst (nsV (p :: r)) := rfl
      rw [e0] at hQ
      simp only [rvE, benT, niSt, niE]
      simp only [List.map_cons, List.map_nil, TB.inst, TV.inst, tv_map, zipT, List.cons_append, List.nil_append, Nat.add_zero]
      (have FX := And.intro hlm (And.intro hln (And.intro hla (And.intro hgm (And.intro hgb (And.intro hll hlt))))); repeat' (first | (refine sx ?_ ?_ <;> intro h <;> first | (exfalso; omega) | skip) | (refine g_op ?_; refine g_call ?_; refine g_args ?_; (first | refine s_fn (hby _) ?_) <;> try first | omega | assumption) | refine ny ?_ | refine WA_block ?_ | (refine uB27_39_9 ?_; refine ⟨by kernel_rfl, ?_⟩) | ((first | refine grp_cons (fun _ => hby _) ?_) <;> try first | omega | assumption) | (refine g_d ?_; refine d_args ?_; (first | refine d_fn (hby _) ?_ | refine d_fnQ (fun _ => hby _) ?_) <;> try first | omega | assumption) | (refine g_d ?_; (first | refine d_fnY (hby _) ?_) <;> try first | omega | assumption)))
      all_goals (try (exfalso; omega))
      all_goals (refine r_esA hQ (fin_sl (j := 1) hB rfl (by rw [hll]; exact Nat.le_refl _) (by rw [hlt]; exact nsV_plain _) ⟨by rw [hlt], rfl⟩))
end Go.Proofs.Ytaoakololkcepaa
