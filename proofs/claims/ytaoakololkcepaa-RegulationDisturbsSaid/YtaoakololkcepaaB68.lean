/- contract: who disturbs whom, of the reference -/
import Derived.Test.YtaoakololkcepaaB67
import Derived.Test.YtaoakololkcepaaB25
set_option linter.unusedSimpArgs false
set_option linter.unusedVariables false
namespace Go.Proofs.Ytaoakololkcepaa
open Go.RowKit
attribute [local irreducible] WA WOs WDs WAn qThen qBlock tput
set_option maxHeartbeats 1000000
set_option maxRecDepth 20000
set_option linter.unusedSimpArgs false
set_option linter.unusedVariables false
set_option maxHeartbeats 8000000
def rpE (b : BnR) (out : List Pr) : List TB := benT b :: prE out
theorem rpE_ok {b : BnR} {out : List Pr} : (rpE b out).all (TB.ok (rpE b out).length) = true := by
  unfold rpE benT
  cases out with
  | nil => simp [TB.ok, TV.okT, prE]
  | cons p r => simp only [prE, List.all_cons, TB.ok, TV.okT, List.all_nil, Bool.and_true, Bool.and_self, tvs_ok, List.length_cons, List.length_nil]
theorem rpS_ok {b : BnR} {out : List Pr} {l : List V} : (.ptr 0 0 0 :: prSt 1 out :: l.map TV.v).all (TV.okT (rpE b out).length) = true := by
  have h : ∀ n, (l.map TV.v).all (TV.okT n) = true := fun n => by simp [TV.okT]
  cases out with
  | nil => simp only [rpE, prSt, prE, List.all_cons, TV.okT, h, Bool.and_true, List.length_cons, List.length_nil]; decide
  | cons p r => simp only [rpE, prSt, prE, List.all_cons, TV.okT, h, Bool.and_true, List.length_cons, List.length_nil]; decide
theorem dst_nil {b : BnR} {i k : Nat} (h : (b.ads.getD k adz).effs.length = 0) : dstB b i k = false := by
  have : (b.ads.getD k adz).effs = [] := List.eq_nil_of_length_eq_zero h
  unfold dstB
  rw [this]
  exact decide_eq_false fun h => absurd h.1 (by show ¬ (0 : Int) ≤ -1; decide)
theorem dst_at {b : BnR} {i k j : Nat} (h : mainL b.ms (b.ads.getD k adz).effs = (j : Int)) : dstB b i k = decide (byN b i j ≠ 0) := by
  unfold dstB
  rw [h, Int.toNat_natCast]
  by_cases hb : byN b i j = 0
  · rw [decide_eq_false (fun h => h.2 hb), decide_eq_false (fun h => h hb)]
  · rw [decide_eq_true ⟨by omega, hb⟩, decide_eq_true hb]
def rpJ : List Pr → List Nat
  | [] => [0]
  | _ :: _ => [0, 1]
theorem rpJ_nd (out : List Pr) : (rpJ out).Nodup := by cases out <;> simp [rpJ]
theorem rpJ_e3 (b : BnR) (out : List Pr) (L : Mem) (f : Nat → Nat) : (rpJ out).map (fun j => ((rpE b out).map (TB.inst f))[j]?) = (rpE b out).map (fun T => some (T.inst fun i => L.length + (rpJ out).getD i 0)) := by
  cases out with
  | nil => simp [rpJ, rpE, benT, prE, TB.inst, TV.inst]
  | cons p r => simp [rpJ, rpE, benT, prE, TB.inst, TV.inst, Function.comp_def]
theorem uB68_63_14 {N : Nat} {l : List Oper} {t : List (Nat × V)} {m : Mem} {Q : Exit → List (Nat × V) → Mem → Prop} (h : RgN Try.prog N l t m Q (fun i => if i == 3 || i == 7 || i == 11 || i == 15 || i == 16 then .q else .p) [.one 0, .one 1, .one 2, .one 3, .one 4, .one 5, .one 6, .one 7, .one 8, .one 9, .one 10, .one 11, .one 12, .one 13, .one 14, .one 15, .one 16, .one 17, .one 18]) : WA Try.prog N (.region 14 l.toArray true) t m Q := d_rgN h
theorem uB68_63_15 {N : Nat} {l : List Oper} {t : List (Nat × V)} {m : Mem} {Q : Exit → List (Nat × V) → Mem → Prop} (h : RgN Try.prog N l t m Q (fun i => if i == 0 || i == 3 || i == 5 || i == 9 || i == 12 || i == 13 || i == 14 then .q else .p) [.one 0, .one 1, .one 2, .one 3, .one 4, .one 5, .one 6, .one 7, .one 8, .one 9, .one 10, .one 11, .one 12, .one 13, .one 14, .one 15]) : WA Try.prog N (.region 15 l.toArray true) t m Q := d_rgN h
theorem rDisturbs_c (b : BnR) (hok : Bok b) (m : Mem) : Gives Try.prog 63 [.agg [.lst (mssV b.ms), .lst (adsV b.ads)]] m (.lst (prsV (dqK b (ordB b.ads) (ordB b.ads).length))) := by
  have hbd := bnd_ok hok
  have hfm := hbd.fm
  have hfa := hbd.fa
  have hlo := nuV_length (l := ordB b.ads)
  have hla := adsV_length (l := b.ads)
  have hga := hlo
  have hgb := hlo
  have hgc := hlo
  have hgd := hlo
  have hll := hlo
  have hlt := hlo
  have hmat := hlo
  have hby := hlo
  have hor := fun m => rorder_c b.ms b.ads (aln_of hok.fa hok.ae) m
  have hol := ordB_len b.ads
  have hoe : (ordB b.ads).length = b.ads.length := by have := hok.cy; omega
  have hog := og_ordB b.ads
  have hnd := hog.nd
  have hlt0 : ∀ x ∈ ordB b.ads, x < (ordB b.ads).length := fun x hx => by rw [hoe]; exact hog.lt x hx
  have hef : ∀ k, k < b.ads.length → (b.ads.getD k adz).effs.length ≤ 1000 := fun k hk => by have := (ad_ok (hok.ae k hk)).fe; omega
  suffices key : CallA Try.prog 63 [.agg [.lst (mssV b.ms), .lst (adsV b.ads)]] m (fun v' mo => v' = oV (prsV (dqK b (ordB b.ads) (ordB b.ads).length)) ∧ mo = none) from Gives_weak key (wk_oV _)
  refine CallA_in Try.func63 rfl Try.ntmps63 Try.results63 (by kernel_rfl) (by simp) fun Q hQ => ?_
  (have FX := And.intro hlo (And.intro hla (And.intro hga (And.intro hgb (And.intro hgc (And.intro hgd (And.intro hll hlt)))))); repeat' (first | (refine sx ?_ ?_ <;> intro h <;> first | (exfalso; omega) | skip) | (refine g_op ?_; refine g_call ?_; refine g_args ?_; (first | refine s_fn (hor _) ?_ | refine s_fn (hmat _) ?_ | refine s_fn (hby _) ?_) <;> try first | omega | assumption) | refine ny ?_ | refine WA_block ?_ | (refine uB68_63_14 ?_; refine ⟨by kernel_rfl, ?_⟩) | (refine uB68_63_15 ?_; refine ⟨by kernel_rfl, ?_⟩) | ((first | refine grp_cons (fun _ => hor _) ?_ | refine grp_cons (fun _ => hmat _) ?_ | refine grp_cons (fun _ => hby _) ?_) <;> try first | omega | assumption) | (refine g_d ?_; refine d_args ?_; (first | refine d_fn (hor _) ?_ | refine d_fn (hmat _) ?_ | refine d_fn (hby _) ?_ | refine d_fnQ (fun _ => hor _) ?_ | refine d_fnQ (fun _ => hmat _) ?_ | refine d_fnQ (fun _ => hby _) ?_) <;> try first | omega | assumption) | (refine g_d ?_; (first | refine d_fnY (hor _) ?_ | refine d_fnY (hmat _) ?_ | refine d_fnY (hby _) ?_) <;> try first | omega | assumption)))
  all_goals (try (exfalso; omega))
  refine WA_whileK (σ := Nat) [1, 3, 4, 5] (fun i => [.ptr (lend m).length 0 0, .lst (nuV (ordB b.ads)), .sl ((lend m).length + 1) (ordB b.ads).length, .int .i64 i]) (fun i => [.cells .own 25 2 [[.lst (mssV b.ms), .lst (adsV b.ads)]], .cells .own 3 1 (nsV (plcK (ordB b.ads) i))]) 2 (fun i => i ≤ (ordB b.ads).length) (fun i => (ordB b.ads).length - i) 0 (Nat.zero_le _) tv_ (by rw [plcK_zero]) (fun _ => rfl) (by intro s s' _ _; simp [conB, conS, V.keeps, V.plain, Blk.flat, flatL, plainL, V.flat]) (fun _ _ _ _ => ⟨.inr rfl, .inl (cI_flat _), trivial⟩) ?_
  rintro i hi1 K hK
  simp only [zipT]
  clear FX hga hgb hgc hgd hll hlt hmat hby
  have hgb := hlo
  have hgc := hlo
  have hgd := hlo
  have hlt := hlo
  have hmat := hlo
  have hby := hlo
  rcases Nat.lt_or_ge i (ordB b.ads).length with hi | hi
  · have hga := nuV_get hi
    have hps := plcK_succ hnd hlt0 hi
    have hll0 : (nsV (plcK (ordB b.ads) i)).length = (ordB b.ads).length := by rw [nsV_length, plcK_len]
    have hail := ordB_lt hi
    have hps2 : (nsV (plcK (ordB b.ads) i)).set ((ordB b.ads).getD i 0) [.int .i64 (i : Int)] = nsV (plcK (ordB b.ads) (i + 1)) := by rw [← nsV_set, hps]
    generalize (ordB b.ads).getD i 0 = a at *
    have hll : (nsV (plcK (ordB b.ads) i))[a]? = some [V.int .i64 ((plcK (ordB b.ads) i).getD a 0)] ∧ (nsV (plcK (ordB b.ads) i)).length = (ordB b.ads).length := ⟨nsV_get (by rw [plcK_len]; omega), hll0⟩
    (have FX := And.intro hlo (And.intro hla (And.intro hga (And.intro hgb (And.intro hgc (And.intro hgd (And.intro hll hlt)))))); repeat' (first | (refine sx ?_ ?_ <;> intro h <;> first | (exfalso; omega) | skip) | (refine g_op ?_; refine g_call ?_; refine g_args ?_; (first | refine s_fn (hor _) ?_ | refine s_fn (hmat _) ?_ | refine s_fn (hby _) ?_) <;> try first | omega | assumption) | refine ny ?_ | refine WA_block ?_ | (refine uB68_63_14 ?_; refine ⟨by kernel_rfl, ?_⟩) | (refine uB68_63_15 ?_; refine ⟨by kernel_rfl, ?_⟩) | ((first | refine grp_cons (fun _ => hor _) ?_ | refine grp_cons (fun _ => hmat _) ?_ | refine grp_cons (fun _ => hby _) ?_) <;> try first | omega | assumption) | (refine g_d ?_; refine d_args ?_; (first | refine d_fn (hor _) ?_ | refine d_fn (hmat _) ?_ | refine d_fn (hby _) ?_ | refine d_fnQ (fun _ => hor _) ?_ | refine d_fnQ (fun _ => hmat _) ?_ | refine d_fnQ (fun _ => hby _) ?_) <;> try first | omega | assumption) | (refine g_d ?_; (first | refine d_fnY (hor _) ?_ | refine d_fnY (hmat _) ?_ | refine d_fnY (hby _) ?_) <;> try first | omega | assumption)))
    all_goals (try (exfalso; omega))
    all_goals (refine nextL_ hK (i + 1) hi (by omega) (hm := by rw [← hps2]; rfl))
  · obtain rfl : i = (ordB b.ads).length := by omega
    clear hK
    have hga := hlo
    have hll := hlo
    have hpl : (nsV (plcK (ordB b.ads) (ordB b.ads).length)).length = (ordB b.ads).length := by rw [nsV_length, plcK_len]
    have hpg : ∀ x, x < (ordB b.ads).length → (nsV (plcK (ordB b.ads) (ordB b.ads).length))[x]? = some [V.int .i64 ((ordB b.ads).idxOf x)] := fun x hx => by
      rw [nsV_get (by rw [plcK_len]; exact hx), plcK_get hnd hlt0 hx]
    generalize nsV (plcK (ordB b.ads) (ordB b.ads).length) = PL at *
    (have FX := And.intro hlo (And.intro hla (And.intro hga (And.intro hgb (And.intro hgc (And.intro hgd (And.intro hll hlt)))))); repeat' (first | (refine sx ?_ ?_ <;> intro h <;> first | (exfalso; omega) | skip) | (refine g_op ?_; refine g_call ?_; refine g_args ?_; (first | refine s_fn (hor _) ?_ | refine s_fn (hmat _) ?_ | refine s_fn (hby _) ?_) <;> try first | omega | assumption) | refine ny ?_ | refine WA_block ?_ | (refine uB68_63_14 ?_; refine ⟨by kernel_rfl, ?_⟩) | (refine uB68_63_15 ?_; refine ⟨by kernel_rfl, ?_⟩) | ((first | refine grp_cons (fun _ => hor _) ?_ | refine grp_cons (fun _ => hmat _) ?_ | refine grp_cons (fun _ => hby _) ?_) <;> try first | omega | assumption) | (refine g_d ?_; refine d_args ?_; (first | refine d_fn (hor _) ?_ | refine d_fn (hmat _) ?_ | refine d_fn (hby _) ?_ | refine d_fnQ (fun _ => hor _) ?_ | refine d_fnQ (fun _ => hmat _) ?_ | refine d_fnQ (fun _ => hby _) ?_) <;> try first | omega | assumption) | (refine g_d ?_; (first | refine d_fnY (hor _) ?_ | refine d_fnY (hmat _) ?_ | refine d_fnY (hby _) ?_) <;> try first | omega | assumption)))
    all_goals (try (exfalso; omega))
    refine WA_fzM (j := 1) rfl ?_
    simp only [List.map_cons, List.map_nil, frzV, frzC, List.set_cons_succ, List.set_cons_zero]
    rw [if_pos ⟨by first | rfl | trivial | omega, by rw [hpl]; exact Nat.le_refl _⟩, List.take_of_length_le (by rw [hpl]; exact Nat.le_refl _)]
    clear FX hga hgb hgc hgd hll hlt hmat hby
    refine WA_whileJ (σ := Nat) (L := lend m) [1, 6, 3, 4, 7] (fun i => .ptr 0 0 0 :: prSt 1 (dqK b (ordB b.ads) i) :: ([.lst (nuV (ordB b.ads)), .lst PL, .int .i64 i] : List V).map TV.v) (fun i => rpE b (dqK b (ordB b.ads) i)) (fun i => i ≤ (ordB b.ads).length) (fun i => (ordB b.ads).length - i) 0 [0] (Nat.zero_le _) ?_ rfl rfl (by decide) (by decide) (fun s _ => rpS_ok) (fun _ _ => rpE_ok) ?_
    · exact tv_
    rintro i hi1 B ⟨D, hB⟩ K hK
    simp only [List.map_cons, List.map_nil] at hK ⊢
    have hmat := hlo
    have hby := hlo
    have hdq := dqK_len b (ordB b.ads) i
    rcases Nat.lt_or_ge i (ordB b.ads).length with hi | hi
    · have hga := hlo
      have hgb := hlo
      have hgc := hlo
      have hgd := hlo
      have hll := hlo
      have hlt := hlo
      have hR0 : dqR b (ordB b.ads) i 0 = [] := rfl
      have hks := dqK_succ b (ordB b.ads) i
      have hsu := fun k => dqR_succ b (ordB b.ads) i k
      have hrl := fun k => dqR_len b (ordB b.ads) i k
      have hii : i * (ordB b.ads).length ≤ 12 * 12 := Nat.mul_le_mul (by omega) (by omega)
      have hnx := hK (i + 1)
      have hny := fun (_ : Unit) => hnx
      clear hnx hK
      rw [hks] at hny
      generalize dqK b (ordB b.ads) i = out at *
      generalize dqR b (ordB b.ads) i = R at *
      simp only [List.map_cons, List.map_nil, TB.inst, TV.inst, tv_map, zipT, List.cons_append, List.nil_append, Nat.add_zero]
      (have FX := And.intro hlo (And.intro hla (And.intro hga (And.intro hgb (And.intro hgc (And.intro hgd (And.intro hll hlt)))))); repeat' (first | (refine sx ?_ ?_ <;> intro h <;> first | (exfalso; omega) | skip) | (refine g_op ?_; refine g_call ?_; refine g_args ?_; (first | refine s_fn (hor _) ?_ | refine s_fn (hmat _) ?_ | refine s_fn (hby _) ?_) <;> try first | omega | assumption) | refine ny ?_ | refine WA_block ?_ | (refine uB68_63_14 ?_; refine ⟨by kernel_rfl, ?_⟩) | (refine uB68_63_15 ?_; refine ⟨by kernel_rfl, ?_⟩) | ((first | refine grp_cons (fun _ => hor _) ?_ | refine grp_cons (fun _ => hmat _) ?_ | refine grp_cons (fun _ => hby _) ?_) <;> try first | omega | assumption) | (refine g_d ?_; refine d_args ?_; (first | refine d_fn (hor _) ?_ | refine d_fn (hmat _) ?_ | refine d_fn (hby _) ?_ | refine d_fnQ (fun _ => hor _) ?_ | refine d_fnQ (fun _ => hmat _) ?_ | refine d_fnQ (fun _ => hby _) ?_) <;> try first | omega | assumption) | (refine g_d ?_; (first | refine d_fnY (hor _) ?_ | refine d_fnY (hmat _) ?_ | refine d_fnY (hby _) ?_) <;> try first | omega | assumption)))
      all_goals (try (exfalso; omega))
      clear FX hga hgb hgc hgd hll hlt hmat hby
      refine WA_whileJ (σ := Nat) (L := B) [1, 6, 3, 4, 7, 8] (fun k => .ptr 0 0 0 :: prSt 1 (out ++ R k) :: ([.lst (nuV (ordB b.ads)), .lst PL, .int .i64 i, .int .i64 k] : List V).map TV.v) (fun k => rpE b (out ++ R k)) (fun k => k ≤ (ordB b.ads).length) (fun k => (ordB b.ads).length - k) 0 (rpJ out) (Nat.zero_le _) ?_ (by simp only [hR0, List.append_nil]; exact rpJ_e3 b out B _) rfl (rpJ_nd _) (by decide) (fun s _ => rpS_ok) (fun _ _ => rpE_ok) ?_
      · simp only [hR0, List.append_nil, List.map_cons, List.map_nil]
        cases out with
        | nil => exact tv_
        | cons p r => exact tv_
      rintro k hk1 B2 ⟨D2, hB2⟩ K2 hK2
      simp only [List.map_cons, List.map_nil] at hK2 ⊢
      have hmat := hlo
      have hby := hlo
      have hrl := hrl k
      rcases Nat.lt_or_ge k (ordB b.ads).length with hk | hk
      · have hsu := hsu k
        have hki : k < b.ads.length := by omega
        have hii2 : i < b.ads.length := by omega
        have hga : PL[i]? = some [V.int .i64 ((ordB b.ads).idxOf i)] ∧ PL[k]? = some [V.int .i64 ((ordB b.ads).idxOf k)] ∧ PL.length = (ordB b.ads).length := ⟨hpg i hi, hpg k hk, hpl⟩
        have hgb := adsV_get hki
        have hol2 : out.length + (R k).length ≤ 1000 := by omega
        have hnz := hK2 (k + 1)
        have hnw := fun (_ : Unit) => hnz
        clear hnz hK2 hny
        rw [← List.length_append] at hol2
        by_cases hpq : (ordB b.ads).idxOf k < (ordB b.ads).idxOf i
        · have hao := ad_ok (hok.ae k hki)
          by_cases hE : (b.ads.getD k adz).effs.length = 0
          · rw [if_neg (fun h => by have := h.2; rw [dst_nil hE] at this; cases this)] at hsu
            rw [hsu] at hnw
            have hgc := efsV_length (l := (b.ads.getD k adz).effs)
            have hgd := hlo
            clear hao hpg
            generalize (ordB b.ads).idxOf k = ik at *
            generalize (ordB b.ads).idxOf i = ii at *
            generalize b.ads.getD k adz = x at *
            obtain ⟨xn, xe, xl, xm, xp, xa⟩ := x
            unfold adV at hgb
            dsimp only at hgb hgc hE
            generalize out ++ R k = OUT at *
            cases OUT with
            | nil =>
              have hll := hlo
              have hlt := hlo
              simp only [rpE, benT, prSt, prE]
              simp only [List.map_cons, List.map_nil, TB.inst, TV.inst, tv_map, zipT, List.cons_append, List.nil_append, Nat.add_zero]
              (have FX := And.intro hlo (And.intro hla (And.intro hga (And.intro hgb (And.intro hgc (And.intro hgd (And.intro hll hlt)))))); repeat' (first | (refine sx ?_ ?_ <;> intro h <;> first | (exfalso; omega) | skip) | (refine g_op ?_; refine g_call ?_; refine g_args ?_; (first | refine s_fn (hor _) ?_ | refine s_fn (hmat _) ?_ | refine s_fn (hby _) ?_) <;> try first | omega | assumption) | refine ny ?_ | refine WA_block ?_ | (refine uB68_63_14 ?_; refine ⟨by kernel_rfl, ?_⟩) | (refine uB68_63_15 ?_; refine ⟨by kernel_rfl, ?_⟩) | ((first | refine grp_cons (fun _ => hor _) ?_ | refine grp_cons (fun _ => hmat _) ?_ | refine grp_cons (fun _ => hby _) ?_) <;> try first | omega | assumption) | (refine g_d ?_; refine d_args ?_; (first | refine d_fn (hor _) ?_ | refine d_fn (hmat _) ?_ | refine d_fn (hby _) ?_ | refine d_fnQ (fun _ => hor _) ?_ | refine d_fnQ (fun _ => hmat _) ?_ | refine d_fnQ (fun _ => hby _) ?_) <;> try first | omega | assumption) | (refine g_d ?_; (first | refine d_fnY (hor _) ?_ | refine d_fnY (hmat _) ?_ | refine d_fnY (hby _) ?_) <;> try first | omega | assumption)))
              all_goals (try (exfalso; first | omega | contradiction))
              all_goals ((refine nextU_ hnw (()) [0] (hk) (by omega) ?_ (ht := ?_); (focus (simp only [rpE, benT, prE, List.map_cons, List.map_nil, TB.inst, TV.inst, tv_map, List.cons_append, List.nil_append]; first | rfl | (simp [ptsV, ptV]; done) | (simp [hpsV, hpV]; done) | (simp [frsV, frV]; done) | (simp [txV]; done) | (simp [prtsV, prtV]; done))); (simp only [prSt, List.map_cons, List.map_nil, TV.inst, List.getD_cons_zero, List.getD_cons_succ]; exact tv_)))
            | cons p r =>
              have hll : (prsV (p :: r)).length = r.length + 1 := prsV_length
              have hlt : (prsV (p :: r)).take (r.length + 1) = prsV (p :: r) := by rw [List.take_of_length_le (by rw [hll]; exact Nat.le_refl _)]
              simp only [List.length_cons] at hol2
              simp only [rpE, benT, prSt, prE]
              simp only [List.map_cons, List.map_nil, TB.inst, TV.inst, tv_map, zipT, List.cons_append, List.nil_append, Nat.add_zero]
              (have FX := And.intro hlo (And.intro hla (And.intro hga (And.intro hgb (And.intro hgc (And.intro hgd (And.intro hll hlt)))))); repeat' (first | (refine sx ?_ ?_ <;> intro h <;> first | (exfalso; omega) | skip) | (refine g_op ?_; refine g_call ?_; refine g_args ?_; (first | refine s_fn (hor _) ?_ | refine s_fn (hmat _) ?_ | refine s_fn (hby _) ?_) <;> try first | omega | assumption) | refine ny ?_ | refine WA_block ?_ | (refine uB68_63_14 ?_; refine ⟨by kernel_rfl, ?_⟩) | (refine uB68_63_15 ?_; refine ⟨by kernel_rfl, ?_⟩) | ((first | refine grp_cons (fun _ => hor _) ?_ | refine grp_cons (fun _ => hmat _) ?_ | refine grp_cons (fun _ => hby _) ?_) <;> try first | omega | assumption) | (refine g_d ?_; refine d_args ?_; (first | refine d_fn (hor _) ?_ | refine d_fn (hmat _) ?_ | refine d_fn (hby _) ?_ | refine d_fnQ (fun _ => hor _) ?_ | refine d_fnQ (fun _ => hmat _) ?_ | refine d_fnQ (fun _ => hby _) ?_) <;> try first | omega | assumption) | (refine g_d ?_; (first | refine d_fnY (hor _) ?_ | refine d_fnY (hmat _) ?_ | refine d_fnY (hby _) ?_) <;> try first | omega | assumption)))
              all_goals (try (exfalso; first | omega | contradiction))
              all_goals ((refine nextU_ hnw (()) [0, 1] (hk) (by omega) ?_ (ht := ?_); (focus (simp only [rpE, benT, prE, List.map_cons, List.map_nil, TB.inst, TV.inst, tv_map, List.cons_append, List.nil_append]; first | rfl | (simp [ptsV, ptV]; done) | (simp [hpsV, hpV]; done) | (simp [frsV, frV]; done) | (simp [txV]; done) | (simp [prtsV, prtV]; done))); (simp only [prSt, List.map_cons, List.map_nil, TV.inst, List.getD_cons_zero, List.getD_cons_succ]; exact tv_)))
          · have hE0 : 0 < (b.ads.getD k adz).effs.length := by omega
            have hme := (ef_ok (hao.ef 0 hE0)).1
            have hmb := (fdx_bd (isM ((b.ads.getD k adz).effs.getD 0 efz).meas) b.ms).2
            obtain ⟨j, hj⟩ : ∃ j : Nat, fdx (isM ((b.ads.getD k adz).effs.getD 0 efz).meas) b.ms = (j : Int) := ⟨(fdx (isM ((b.ads.getD k adz).effs.getD 0 efz).meas) b.ms).toNat, by omega⟩
            have hmj : mainL b.ms (b.ads.getD k adz).effs = (j : Int) := by
              rw [← hj]
              cases he : (b.ads.getD k adz).effs with
              | nil => rw [he] at hE0; exact absurd hE0 (Nat.not_lt_zero _)
              | cons e r => rfl
            have hds := dst_at (b := b) (i := i) hmj
            have hjl : j < b.ms.length := by omega
            have hmat := fun m => rmeasureat_c b.ms ((b.ads.getD k adz).effs.getD 0 efz).meas (by omega) m
            rw [hj] at hmat
            have hby := fun m => rby_c b i j hii2 hjl (hef i hii2) m
            have hgc := efsV_length (l := (b.ads.getD k adz).effs)
            have hgd := efsV_get hE0
            clear hme hmb hj hao hmj hpg
            by_cases hbv : byN b i j = 0
            · rw [if_neg (fun h => by have := h.2; rw [hds, decide_eq_false (fun g => g hbv)] at this; cases this)] at hsu
              rw [hsu] at hnw
              clear hds
              rw [hbv] at hby
              generalize (ordB b.ads).idxOf k = ik at *
              generalize (ordB b.ads).idxOf i = ii at *
              generalize b.ads.getD k adz = x at *
              obtain ⟨xn, xe, xl, xm, xp, xa⟩ := x
              unfold adV at hgb
              dsimp only at hgb hgc hE hE0 hmat hgd
              generalize xe.getD 0 efz = y at *
              obtain ⟨yn, yb⟩ := y
              unfold efV at hgd
              dsimp only at hmat hgd
              generalize out ++ R k = OUT at *
              cases OUT with
              | nil =>
                have hll := hlo
                have hlt := hlo
                simp only [rpE, benT, prSt, prE]
                simp only [List.map_cons, List.map_nil, TB.inst, TV.inst, tv_map, zipT, List.cons_append, List.nil_append, Nat.add_zero]
                (have FX := And.intro hlo (And.intro hla (And.intro hga (And.intro hgb (And.intro hgc (And.intro hgd (And.intro hll hlt)))))); repeat' (first | (refine sx ?_ ?_ <;> intro h <;> first | (exfalso; omega) | skip) | (refine g_op ?_; refine g_call ?_; refine g_args ?_; (first | refine s_fn (hor _) ?_ | refine s_fn (hmat _) ?_ | refine s_fn (hby _) ?_) <;> try first | omega | assumption) | refine ny ?_ | refine WA_block ?_ | (refine uB68_63_14 ?_; refine ⟨by kernel_rfl, ?_⟩) | (refine uB68_63_15 ?_; refine ⟨by kernel_rfl, ?_⟩) | ((first | refine grp_cons (fun _ => hor _) ?_ | refine grp_cons (fun _ => hmat _) ?_ | refine grp_cons (fun _ => hby _) ?_) <;> try first | omega | assumption) | (refine g_d ?_; refine d_args ?_; (first | refine d_fn (hor _) ?_ | refine d_fn (hmat _) ?_ | refine d_fn (hby _) ?_ | refine d_fnQ (fun _ => hor _) ?_ | refine d_fnQ (fun _ => hmat _) ?_ | refine d_fnQ (fun _ => hby _) ?_) <;> try first | omega | assumption) | (refine g_d ?_; (first | refine d_fnY (hor _) ?_ | refine d_fnY (hmat _) ?_ | refine d_fnY (hby _) ?_) <;> try first | omega | assumption)))
                all_goals (try (exfalso; first | omega | contradiction))
                all_goals ((refine nextU_ hnw (()) [0] (hk) (by omega) ?_ (ht := ?_); (focus (simp only [rpE, benT, prE, List.map_cons, List.map_nil, TB.inst, TV.inst, tv_map, List.cons_append, List.nil_append]; first | rfl | (simp [ptsV, ptV]; done) | (simp [hpsV, hpV]; done) | (simp [frsV, frV]; done) | (simp [txV]; done) | (simp [prtsV, prtV]; done))); (simp only [prSt, List.map_cons, List.map_nil, TV.inst, List.getD_cons_zero, List.getD_cons_succ]; exact tv_)))
              | cons p r =>
                have hll : (prsV (p :: r)).length = r.length + 1 := prsV_length
                have hlt : (prsV (p :: r)).take (r.length + 1) = prsV (p :: r) := by rw [List.take_of_length_le (by rw [hll]; exact Nat.le_refl _)]
                simp only [List.length_cons] at hol2
                simp only [rpE, benT, prSt, prE]
                simp only [List.map_cons, List.map_nil, TB.inst, TV.inst, tv_map, zipT, List.cons_append, List.nil_append, Nat.add_zero]
                (have FX := And.intro hlo (And.intro hla (And.intro hga (And.intro hgb (And.intro hgc (And.intro hgd (And.intro hll hlt)))))); repeat' (first | (refine sx ?_ ?_ <;> intro h <;> first | (exfalso; omega) | skip) | (refine g_op ?_; refine g_call ?_; refine g_args ?_; (first | refine s_fn (hor _) ?_ | refine s_fn (hmat _) ?_ | refine s_fn (hby _) ?_) <;> try first | omega | assumption) | refine ny ?_ | refine WA_block ?_ | (refine uB68_63_14 ?_; refine ⟨by kernel_rfl, ?_⟩) | (refine uB68_63_15 ?_; refine ⟨by kernel_rfl, ?_⟩) | ((first | refine grp_cons (fun _ => hor _) ?_ | refine grp_cons (fun _ => hmat _) ?_ | refine grp_cons (fun _ => hby _) ?_) <;> try first | omega | assumption) | (refine g_d ?_; refine d_args ?_; (first | refine d_fn (hor _) ?_ | refine d_fn (hmat _) ?_ | refine d_fn (hby _) ?_ | refine d_fnQ (fun _ => hor _) ?_ | refine d_fnQ (fun _ => hmat _) ?_ | refine d_fnQ (fun _ => hby _) ?_) <;> try first | omega | assumption) | (refine g_d ?_; (first | refine d_fnY (hor _) ?_ | refine d_fnY (hmat _) ?_ | refine d_fnY (hby _) ?_) <;> try first | omega | assumption)))
                all_goals (try (exfalso; first | omega | contradiction))
                all_goals ((refine nextU_ hnw (()) [0, 1] (hk) (by omega) ?_ (ht := ?_); (focus (simp only [rpE, benT, prE, List.map_cons, List.map_nil, TB.inst, TV.inst, tv_map, List.cons_append, List.nil_append]; first | rfl | (simp [ptsV, ptV]; done) | (simp [hpsV, hpV]; done) | (simp [frsV, frV]; done) | (simp [txV]; done) | (simp [prtsV, prtV]; done))); (simp only [prSt, List.map_cons, List.map_nil, TV.inst, List.getD_cons_zero, List.getD_cons_succ]; exact tv_)))
            · rw [if_pos ⟨hpq, by rw [hds]; exact decide_eq_true hbv⟩] at hsu
              rw [hsu, ← List.append_assoc] at hnw
              clear hds
              generalize byN b i j = bv at *
              generalize (ordB b.ads).idxOf k = ik at *
              generalize (ordB b.ads).idxOf i = ii at *
              generalize b.ads.getD k adz = x at *
              obtain ⟨xn, xe, xl, xm, xp, xa⟩ := x
              unfold adV at hgb
              dsimp only at hgb hgc hE hE0 hmat hgd
              generalize xe.getD 0 efz = y at *
              obtain ⟨yn, yb⟩ := y
              unfold efV at hgd
              dsimp only at hmat hgd
              generalize out ++ R k = OUT at *
              cases OUT with
              | nil =>
                have hll := hlo
                have hlt := hlo
                simp only [rpE, benT, prSt, prE]
                simp only [List.map_cons, List.map_nil, TB.inst, TV.inst, tv_map, zipT, List.cons_append, List.nil_append, Nat.add_zero]
                (have FX := And.intro hlo (And.intro hla (And.intro hga (And.intro hgb (And.intro hgc (And.intro hgd (And.intro hll hlt)))))); repeat' (first | (refine sx ?_ ?_ <;> intro h <;> first | (exfalso; omega) | skip) | (refine g_op ?_; refine g_call ?_; refine g_args ?_; (first | refine s_fn (hor _) ?_ | refine s_fn (hmat _) ?_ | refine s_fn (hby _) ?_) <;> try first | omega | assumption) | refine ny ?_ | refine WA_block ?_ | (refine uB68_63_14 ?_; refine ⟨by kernel_rfl, ?_⟩) | (refine uB68_63_15 ?_; refine ⟨by kernel_rfl, ?_⟩) | ((first | refine grp_cons (fun _ => hor _) ?_ | refine grp_cons (fun _ => hmat _) ?_ | refine grp_cons (fun _ => hby _) ?_) <;> try first | omega | assumption) | (refine g_d ?_; refine d_args ?_; (first | refine d_fn (hor _) ?_ | refine d_fn (hmat _) ?_ | refine d_fn (hby _) ?_ | refine d_fnQ (fun _ => hor _) ?_ | refine d_fnQ (fun _ => hmat _) ?_ | refine d_fnQ (fun _ => hby _) ?_) <;> try first | omega | assumption) | (refine g_d ?_; (first | refine d_fnY (hor _) ?_ | refine d_fnY (hmat _) ?_ | refine d_fnY (hby _) ?_) <;> try first | omega | assumption)))
                all_goals (try (exfalso; first | omega | contradiction))
                all_goals ((refine nextU_ hnw (()) [0, 2] (hk) (by omega) ?_ (ht := ?_); (focus (simp only [rpE, benT, prE, prsV, prV, List.cons_append, List.nil_append, List.map_cons, List.map_nil, TB.inst, TV.inst, tv_map, List.cons_append, List.nil_append]; first | rfl | (simp [ptsV, ptV]; done) | (simp [hpsV, hpV]; done) | (simp [frsV, frV]; done) | (simp [txV]; done) | (simp [prtsV, prtV]; done))); (simp only [prSt, List.cons_append, List.nil_append, List.length_append, List.length_cons, List.length_nil, Nat.zero_add, List.map_cons, List.map_nil, TV.inst, List.getD_cons_zero, List.getD_cons_succ]; exact tv_)))
              | cons p r =>
                have hll : (prsV (p :: r)).length = r.length + 1 := prsV_length
                have hlt : (prsV (p :: r)).take (r.length + 1) = prsV (p :: r) := by rw [List.take_of_length_le (by rw [hll]; exact Nat.le_refl _)]
                simp only [List.length_cons] at hol2
                have hsn : prsV (p :: (r ++ [(i, k)])) = prsV (p :: r) ++ [[V.int .i64 (i : Int), V.int .i64 (k : Int)]] := prsV_snoc (p :: r) (i, k)
                simp only [rpE, benT, prSt, prE]
                simp only [List.map_cons, List.map_nil, TB.inst, TV.inst, tv_map, zipT, List.cons_append, List.nil_append, Nat.add_zero]
                (have FX := And.intro hlo (And.intro hla (And.intro hga (And.intro hgb (And.intro hgc (And.intro hgd (And.intro hll hlt)))))); repeat' (first | (refine sx ?_ ?_ <;> intro h <;> first | (exfalso; omega) | skip) | (refine g_op ?_; refine g_call ?_; refine g_args ?_; (first | refine s_fn (hor _) ?_ | refine s_fn (hmat _) ?_ | refine s_fn (hby _) ?_) <;> try first | omega | assumption) | refine ny ?_ | refine WA_block ?_ | (refine uB68_63_14 ?_; refine ⟨by kernel_rfl, ?_⟩) | (refine uB68_63_15 ?_; refine ⟨by kernel_rfl, ?_⟩) | ((first | refine grp_cons (fun _ => hor _) ?_ | refine grp_cons (fun _ => hmat _) ?_ | refine grp_cons (fun _ => hby _) ?_) <;> try first | omega | assumption) | (refine g_d ?_; refine d_args ?_; (first | refine d_fn (hor _) ?_ | refine d_fn (hmat _) ?_ | refine d_fn (hby _) ?_ | refine d_fnQ (fun _ => hor _) ?_ | refine d_fnQ (fun _ => hmat _) ?_ | refine d_fnQ (fun _ => hby _) ?_) <;> try first | omega | assumption) | (refine g_d ?_; (first | refine d_fnY (hor _) ?_ | refine d_fnY (hmat _) ?_ | refine d_fnY (hby _) ?_) <;> try first | omega | assumption)))
                all_goals (try (exfalso; first | omega | contradiction))
                all_goals ((refine nextU_ hnw (()) [0, 3] (hk) (by omega) ?_ (ht := ?_); (focus (simp only [rpE, benT, prE, hsn, List.cons_append, List.nil_append, List.map_cons, List.map_nil, TB.inst, TV.inst, tv_map, List.cons_append, List.nil_append]; first | rfl | (simp [ptsV, ptV]; done) | (simp [hpsV, hpV]; done) | (simp [frsV, frV]; done) | (simp [txV]; done) | (simp [prtsV, prtV]; done))); (simp only [prSt, List.cons_append, List.nil_append, List.length_append, List.length_cons, List.length_nil, Nat.zero_add, List.map_cons, List.map_nil, TV.inst, List.getD_cons_zero, List.getD_cons_succ]; exact tv_)))
        · rw [if_neg (fun h => hpq h.1)] at hsu
          rw [hsu] at hnw
          have hgc := hlo
          have hgd := hlo
          clear hpg
          generalize (ordB b.ads).idxOf k = ik at *
          generalize (ordB b.ads).idxOf i = ii at *
          generalize b.ads.getD k adz = x at *
          obtain ⟨xn, xe, xl, xm, xp, xa⟩ := x
          unfold adV at hgb
          dsimp only at hgb
          generalize out ++ R k = OUT at *
          cases OUT with
          | nil =>
            have hll := hlo
            have hlt := hlo
            simp only [rpE, benT, prSt, prE]
            simp only [List.map_cons, List.map_nil, TB.inst, TV.inst, tv_map, zipT, List.cons_append, List.nil_append, Nat.add_zero]
            (have FX := And.intro hlo (And.intro hla (And.intro hga (And.intro hgb (And.intro hgc (And.intro hgd (And.intro hll hlt)))))); repeat' (first | (refine sx ?_ ?_ <;> intro h <;> first | (exfalso; omega) | skip) | (refine g_op ?_; refine g_call ?_; refine g_args ?_; (first | refine s_fn (hor _) ?_ | refine s_fn (hmat _) ?_ | refine s_fn (hby _) ?_) <;> try first | omega | assumption) | refine ny ?_ | refine WA_block ?_ | (refine uB68_63_14 ?_; refine ⟨by kernel_rfl, ?_⟩) | (refine uB68_63_15 ?_; refine ⟨by kernel_rfl, ?_⟩) | ((first | refine grp_cons (fun _ => hor _) ?_ | refine grp_cons (fun _ => hmat _) ?_ | refine grp_cons (fun _ => hby _) ?_) <;> try first | omega | assumption) | (refine g_d ?_; refine d_args ?_; (first | refine d_fn (hor _) ?_ | refine d_fn (hmat _) ?_ | refine d_fn (hby _) ?_ | refine d_fnQ (fun _ => hor _) ?_ | refine d_fnQ (fun _ => hmat _) ?_ | refine d_fnQ (fun _ => hby _) ?_) <;> try first | omega | assumption) | (refine g_d ?_; (first | refine d_fnY (hor _) ?_ | refine d_fnY (hmat _) ?_ | refine d_fnY (hby _) ?_) <;> try first | omega | assumption)))
            all_goals (try (exfalso; first | omega | contradiction))
            all_goals ((refine nextU_ hnw (()) [0] (hk) (by omega) ?_ (ht := ?_); (focus (simp only [rpE, benT, prE, List.map_cons, List.map_nil, TB.inst, TV.inst, tv_map, List.cons_append, List.nil_append]; first | rfl | (simp [ptsV, ptV]; done) | (simp [hpsV, hpV]; done) | (simp [frsV, frV]; done) | (simp [txV]; done) | (simp [prtsV, prtV]; done))); (simp only [prSt, List.map_cons, List.map_nil, TV.inst, List.getD_cons_zero, List.getD_cons_succ]; exact tv_)))
          | cons p r =>
            have hll : (prsV (p :: r)).length = r.length + 1 := prsV_length
            have hlt : (prsV (p :: r)).take (r.length + 1) = prsV (p :: r) := by rw [List.take_of_length_le (by rw [hll]; exact Nat.le_refl _)]
            simp only [List.length_cons] at hol2
            simp only [rpE, benT, prSt, prE]
            simp only [List.map_cons, List.map_nil, TB.inst, TV.inst, tv_map, zipT, List.cons_append, List.nil_append, Nat.add_zero]
            (have FX := And.intro hlo (And.intro hla (And.intro hga (And.intro hgb (And.intro hgc (And.intro hgd (And.intro hll hlt)))))); repeat' (first | (refine sx ?_ ?_ <;> intro h <;> first | (exfalso; omega) | skip) | (refine g_op ?_; refine g_call ?_; refine g_args ?_; (first | refine s_fn (hor _) ?_ | refine s_fn (hmat _) ?_ | refine s_fn (hby _) ?_) <;> try first | omega | assumption) | refine ny ?_ | refine WA_block ?_ | (refine uB68_63_14 ?_; refine ⟨by kernel_rfl, ?_⟩) | (refine uB68_63_15 ?_; refine ⟨by kernel_rfl, ?_⟩) | ((first | refine grp_cons (fun _ => hor _) ?_ | refine grp_cons (fun _ => hmat _) ?_ | refine grp_cons (fun _ => hby _) ?_) <;> try first | omega | assumption) | (refine g_d ?_; refine d_args ?_; (first | refine d_fn (hor _) ?_ | refine d_fn (hmat _) ?_ | refine d_fn (hby _) ?_ | refine d_fnQ (fun _ => hor _) ?_ | refine d_fnQ (fun _ => hmat _) ?_ | refine d_fnQ (fun _ => hby _) ?_) <;> try first | omega | assumption) | (refine g_d ?_; (first | refine d_fnY (hor _) ?_ | refine d_fnY (hmat _) ?_ | refine d_fnY (hby _) ?_) <;> try first | omega | assumption)))
            all_goals (try (exfalso; first | omega | contradiction))
            all_goals ((refine nextU_ hnw (()) [0, 1] (hk) (by omega) ?_ (ht := ?_); (focus (simp only [rpE, benT, prE, List.map_cons, List.map_nil, TB.inst, TV.inst, tv_map, List.cons_append, List.nil_append]; first | rfl | (simp [ptsV, ptV]; done) | (simp [hpsV, hpV]; done) | (simp [frsV, frV]; done) | (simp [txV]; done) | (simp [prtsV, prtV]; done))); (simp only [prSt, List.map_cons, List.map_nil, TV.inst, List.getD_cons_zero, List.getD_cons_succ]; exact tv_)))
      · obtain rfl : k = (ordB b.ads).length := by omega
        have hga := hlo
        have hgb := hlo
        have hgc := hlo
        have hgd := hlo
        have hll := hlo
        have hlt := hlo
        clear hK2
        subst hB2
        have hnq := fun js t m h => hny () _ t m (RoundEndT_up (D := D2) (js := js) h (rpS_ok (l := [.lst (nuV (ordB b.ads)), .lst PL, .int .i64 ((i + 1 : Nat) : Int)])) rpE_ok)
        clear hny
        have hny := fun (_ : Unit) => hnq
        clear hnq
        generalize out ++ R (ordB b.ads).length = OUT at *
        generalize B ++ D2 = B3 at *
        cases OUT with
        | nil =>
          simp only [rpE, benT, prSt, prE]
          simp only [List.map_cons, List.map_nil, TB.inst, TV.inst, tv_map, zipT, List.cons_append, List.nil_append, Nat.add_zero]
          (have FX := And.intro hlo (And.intro hla (And.intro hga (And.intro hgb (And.intro hgc (And.intro hgd (And.intro hll hlt)))))); repeat' (first | (refine sx ?_ ?_ <;> intro h <;> first | (exfalso; omega) | skip) | (refine g_op ?_; refine g_call ?_; refine g_args ?_; (first | refine s_fn (hor _) ?_ | refine s_fn (hmat _) ?_ | refine s_fn (hby _) ?_) <;> try first | omega | assumption) | refine ny ?_ | refine WA_block ?_ | (refine uB68_63_14 ?_; refine ⟨by kernel_rfl, ?_⟩) | (refine uB68_63_15 ?_; refine ⟨by kernel_rfl, ?_⟩) | ((first | refine grp_cons (fun _ => hor _) ?_ | refine grp_cons (fun _ => hmat _) ?_ | refine grp_cons (fun _ => hby _) ?_) <;> try first | omega | assumption) | (refine g_d ?_; refine d_args ?_; (first | refine d_fn (hor _) ?_ | refine d_fn (hmat _) ?_ | refine d_fn (hby _) ?_ | refine d_fnQ (fun _ => hor _) ?_ | refine d_fnQ (fun _ => hmat _) ?_ | refine d_fnQ (fun _ => hby _) ?_) <;> try first | omega | assumption) | (refine g_d ?_; (first | refine d_fnY (hor _) ?_ | refine d_fnY (hmat _) ?_ | refine d_fnY (hby _) ?_) <;> try first | omega | assumption)))
          all_goals (try (exfalso; first | omega | contradiction))
          all_goals ((refine nextU_ hny (()) [0] (hi) (by omega) ?_ (ht := ?_); (focus (simp only [rpE, benT, prE, List.map_cons, List.map_nil, TB.inst, TV.inst, tv_map, List.cons_append, List.nil_append]; first | rfl | (simp [ptsV, ptV]; done) | (simp [hpsV, hpV]; done) | (simp [frsV, frV]; done) | (simp [txV]; done) | (simp [prtsV, prtV]; done))); (simp only [prSt, List.map_cons, List.map_nil, TV.inst, List.getD_cons_zero, List.getD_cons_succ]; exact tv_)))
        | cons p r =>
          simp only [rpE, benT, prSt, prE]
          simp only [List.map_cons, List.map_nil, TB.inst, TV.inst, tv_map, zipT, List.cons_append, List.nil_append, Nat.add_zero]
          (have FX := And.intro hlo (And.intro hla (And.intro hga (And.intro hgb (And.intro hgc (And.intro hgd (And.intro hll hlt)))))); repeat' (first | (refine sx ?_ ?_ <;> intro h <;> first | (exfalso; omega) | skip) | (refine g_op ?_; refine g_call ?_; refine g_args ?_; (first | refine s_fn (hor _) ?_ | refine s_fn (hmat _) ?_ | refine s_fn (hby _) ?_) <;> try first | omega | assumption) | refine ny ?_ | refine WA_block ?_ | (refine uB68_63_14 ?_; refine ⟨by kernel_rfl, ?_⟩) | (refine uB68_63_15 ?_; refine ⟨by kernel_rfl, ?_⟩) | ((first | refine grp_cons (fun _ => hor _) ?_ | refine grp_cons (fun _ => hmat _) ?_ | refine grp_cons (fun _ => hby _) ?_) <;> try first | omega | assumption) | (refine g_d ?_; refine d_args ?_; (first | refine d_fn (hor _) ?_ | refine d_fn (hmat _) ?_ | refine d_fn (hby _) ?_ | refine d_fnQ (fun _ => hor _) ?_ | refine d_fnQ (fun _ => hmat _) ?_ | refine d_fnQ (fun _ => hby _) ?_) <;> try first | omega | assumption) | (refine g_d ?_; (first | refine d_fnY (hor _) ?_ | refine d_fnY (hmat _) ?_ | refine d_fnY (hby _) ?_) <;> try first | omega | assumption)))
          all_goals (try (exfalso; first | omega | contradiction))
          all_goals ((refine nextU_ hny (()) [0, 1] (hi) (by omega) ?_ (ht := ?_); (focus (simp only [rpE, benT, prE, List.map_cons, List.map_nil, TB.inst, TV.inst, tv_map, List.cons_append, List.nil_append]; first | rfl | (simp [ptsV, ptV]; done) | (simp [hpsV, hpV]; done) | (simp [frsV, frV]; done) | (simp [txV]; done) | (simp [prtsV, prtV]; done))); (simp only [prSt, List.map_cons, List.map_nil, TV.inst, List.getD_cons_zero, List.getD_cons_succ]; exact tv_)))
    · obtain rfl : i = (ordB b.ads).length := by omega
      have hga := hlo
      have hgb := hlo
      have hgc := hlo
      have hgd := hlo
      have hll := hlo
      have hlt := hlo
      clear hK hdq
      generalize dqK b (ordB b.ads) (ordB b.ads).length = out at *
      cases out with
      | nil =>
        have e0 : oV (prsV []) = V.nilsl := rfl
        rw [e0] at hQ
        simp only [rpE, benT, prSt, prE]
        simp only [List.map_cons, List.map_nil, TB.inst, TV.inst, tv_map, zipT, List.cons_append, List.nil_append, Nat.add_zero]
        (have FX := And.intro hlo (And.intro hla (And.intro hga (And.intro hgb (And.intro hgc (And.intro hgd (And.intro hll hlt)))))); repeat' (first | (refine sx ?_ ?_ <;> intro h <;> first | (exfalso; omega) | skip) | (refine g_op ?_; refine g_call ?_; refine g_args ?_; (first | refine s_fn (hor _) ?_ | refine s_fn (hmat _) ?_ | refine s_fn (hby _) ?_) <;> try first | omega | assumption) | refine ny ?_ | refine WA_block ?_ | (refine uB68_63_14 ?_; refine ⟨by kernel_rfl, ?_⟩) | (refine uB68_63_15 ?_; refine ⟨by kernel_rfl, ?_⟩) | ((first | refine grp_cons (fun _ => hor _) ?_ | refine grp_cons (fun _ => hmat _) ?_ | refine grp_cons (fun _ => hby _) ?_) <;> try first | omega | assumption) | (refine g_d ?_; refine d_args ?_; (first | refine d_fn (hor _) ?_ | refine d_fn (hmat _) ?_ | refine d_fn (hby _) ?_ | refine d_fnQ (fun _ => hor _) ?_ | refine d_fnQ (fun _ => hmat _) ?_ | refine d_fnQ (fun _ => hby _) ?_) <;> try first | omega | assumption) | (refine g_d ?_; (first | refine d_fnY (hor _) ?_ | refine d_fnY (hmat _) ?_ | refine d_fnY (hby _) ?_) <;> try first | omega | assumption)))
        all_goals (try (exfalso; omega))
        all_goals (refine r_esA hQ (.inl ⟨rfl, rfl, rfl⟩))
      | cons p r =>
        have hll : (prsV (p :: r)).length = r.length + 1 := prsV_length
        have hlt : (prsV (p :: r)).take (r.length + 1) = prsV (p :: r) := by rw [List.take_of_length_le (by rw [hll]; exact Nat.le_refl _)]
        have e0 : oV (prsV (p :: r)) = V.lst (prsV (p :: r)) := rfl
        rw [e0] at hQ
        simp only [rpE, benT, prSt, prE]
        simp only [List.map_cons, List.map_nil, TB.inst, TV.inst, tv_map, zipT, List.cons_append, List.nil_append, Nat.add_zero]
        (have FX := And.intro hlo (And.intro hla (And.intro hga (And.intro hgb (And.intro hgc (And.intro hgd (And.intro hll hlt)))))); repeat' (first | (refine sx ?_ ?_ <;> intro h <;> first | (exfalso; omega) | skip) | (refine g_op ?_; refine g_call ?_; refine g_args ?_; (first | refine s_fn (hor _) ?_ | refine s_fn (hmat _) ?_ | refine s_fn (hby _) ?_) <;> try first | omega | assumption) | refine ny ?_ | refine WA_block ?_ | (refine uB68_63_14 ?_; refine ⟨by kernel_rfl, ?_⟩) | (refine uB68_63_15 ?_; refine ⟨by kernel_rfl, ?_⟩) | ((first | refine grp_cons (fun _ => hor _) ?_ | refine grp_cons (fun _ => hmat _) ?_ | refine grp_cons (fun _ => hby _) ?_) <;> try first | omega | assumption) | (refine g_d ?_; refine d_args ?_; (first | refine d_fn (hor _) ?_ | refine d_fn (hmat _) ?_ | refine d_fn (hby _) ?_ | refine d_fnQ (fun _ => hor _) ?_ | refine d_fnQ (fun _ => hmat _) ?_ | refine d_fnQ (fun _ => hby _) ?_) <;> try first | omega | assumption) | (refine g_d ?_; (first | refine d_fnY (hor _) ?_ | refine d_fnY (hmat _) ?_ | refine d_fnY (hby _) ?_) <;> try first | omega | assumption)))
        all_goals (try (exfalso; omega))
        all_goals (refine r_esA hQ (fin_sl (j := 1) hB rfl (by rw [hll]; exact Nat.le_refl _) (by rw [hlt]; exact prsV_plain _) ⟨by rw [hlt], rfl⟩))
end Go.Proofs.Ytaoakololkcepaa
