/- contract: a sweep, of the reference -/
import Derived.Test.YtaoakololkcepaaB27s
import Derived.Test.YtaoakololkcepaaB24
import Derived.Test.YtaoakololkcepaaBN
set_option linter.unusedSimpArgs false
set_option linter.unusedVariables false
namespace Go.Proofs.Ytaoakololkcepaa
open Go.RowKit
attribute [local irreducible] WA WOs WDs WAn qThen qBlock tput
set_option maxHeartbeats 1000000
set_option maxRecDepth 20000
set_option linter.unusedSimpArgs false
set_option linter.unusedVariables false
set_option maxHeartbeats 4000000
theorem main_by {b : BnR} {i j : Nat} (h0 : 0 < (b.ads.getD i adz).effs.length) (hj : fdx (isM ((b.ads.getD i adz).effs.getD 0 efz).meas) b.ms = (j : Int)) : byN b i j = ((b.ads.getD i adz).effs.getD 0 efz).by_ := by
  rcases fdx_cases (isM ((b.ads.getD i adz).effs.getD 0 efz).meas) b.ms msz with ⟨h, _⟩ | ⟨k, hk, h1, h2, h3⟩
  · omega
  · obtain rfl : k = j := by omega
    have e : (b.ms.getD k msz).name = ((b.ads.getD i adz).effs.getD 0 efz).meas := of_decide_eq_true h2
    unfold byN
    rw [e]
    exact byL_fdx h0 (fun j hj => absurd hj (Nat.not_lt_zero _)) rfl
def rwE (b : BnR) (l : List Int) : List TB := [benT b, .cells .own 3 1 ((nsV l).map (List.map TV.v))]
def rwS (n : Nat) (od : V) (k : Nat) : List TV := [.ptr 0 0 0, .sl 1 n, .v od, .v (.int .i64 k)]
theorem rwE_ok {b : BnR} {l : List Int} : (rwE b l).all (TB.ok (rwE b l).length) = true := by
  simp only [rwE, benT, List.all_cons, TB.ok, TV.okT, List.all_nil, Bool.and_true, Bool.and_self, tvs_ok, List.length_cons, List.length_nil]
theorem uB28_24_9 {N : Nat} {l : List Oper} {t : List (Nat × V)} {m : Mem} {Q : Exit → List (Nat × V) → Mem → Prop} (h : RgN Try.prog N l t m Q (fun i => if i == 1 || i == 3 || i == 6 || i == 7 then .q else .p) [.one 0, .one 1, .one 2, .one 3, .one 4, .one 5, .one 6, .one 7, .one 8]) : WA Try.prog N (.region 9 l.toArray true) t m Q := d_rgN h
theorem uB28_24_11 {N : Nat} {l : List Oper} {t : List (Nat × V)} {m : Mem} {Q : Exit → List (Nat × V) → Mem → Prop} (h : RgN Try.prog N l t m Q (fun i => if i == 3 || i == 7 || i == 10 || i == 14 || i == 16 then .q else .p) [.one 0, .one 1, .one 2, .one 3, .one 4, .one 5, .one 6, .one 7, .one 8, .one 9, .one 10, .one 11, .one 12, .one 13, .one 14, .one 15, .one 16, .one 17, .one 18]) : WA Try.prog N (.region 11 l.toArray true) t m Q := d_rgN h
theorem uB28_24_15 {N : Nat} {l : List Oper} {t : List (Nat × V)} {m : Mem} {Q : Exit → List (Nat × V) → Mem → Prop} (h : RgN Try.prog N l t m Q (fun i => if i == 3 || i == 7 || i == 9 || i == 10 || i == 11 then .q else .p) [.one 0, .one 1, .one 2, .one 3, .one 4, .one 5, .one 6, .one 7, .one 8, .one 9, .one 10, .one 11]) : WA Try.prog N (.region 15 l.toArray true) t m Q := d_rgN h
theorem uB28_24_16 {N : Nat} {l : List Oper} {t : List (Nat × V)} {m : Mem} {Q : Exit → List (Nat × V) → Mem → Prop} (h : RgN Try.prog N l t m Q (fun i => if i == 3 || i == 6 || i == 11 || i == 15 || i == 18 || i == 22 || i == 24 then .q else .p) [.one 0, .one 1, .one 2, .one 3, .one 4, .one 5, .one 6, .one 7, .one 8, .one 9, .one 10, .one 11, .one 12, .one 13, .one 14, .one 15, .one 16, .one 17, .one 18, .one 19, .one 20, .one 21, .one 22, .one 23, .one 24, .one 25]) : WA Try.prog N (.region 16 l.toArray true) t m Q := d_rgN h
theorem rsweep_c (b : BnR) (hk0 : Bok b) (l : List Int) (hst : stOk b.ads l) (m : Mem) : Gives Try.prog 24 [.agg [.lst (mssV b.ms), .lst (adsV b.ads)], .lst (nsV l)] m (.lst (nsV (sweepP b l))) := by
  have hb := bnd_ok hk0
  have hlo := nuV_length (l := ordB b.ads)
  have hla := adsV_length (l := b.ads)
  have hlm := mssV_length (l := b.ms)
  have hol := ordB_len b.ads
  have hfa := hb.fa
  have hef : ∀ k, k < b.ads.length → (b.ads.getD k adz).effs.length ≤ 1000 := fun k hk => by have := (ad_ok (hk0.ae k hk)).fe; omega
  have hga := hla
  have hgb := hla
  have hgc := hla
  have hgd := hla
  have hge := hla
  have hle := hla
  have hcp := fun m => bcopyints_o l (by have := hst.1; omega) m
  have hor := fun m => rorder_c b.ms b.ads (aln_of hk0.fa hk0.ae) m
  have hll := hst.1
  refine CallA_in Try.func24 rfl Try.ntmps24 Try.results24 (by kernel_rfl) (by simp) fun Q hQ => ?_
  (have FX := And.intro hlo (And.intro hla (And.intro hlm (And.intro hga (And.intro hgb (And.intro hgc (And.intro hgd (And.intro hge hle))))))); repeat' (first | (refine sx ?_ ?_ <;> intro h <;> first | (exfalso; omega) | skip) | (refine g_op ?_; refine g_call ?_; refine g_args ?_; (first | refine s_fn (hor _) ?_ | refine s_fnO (hcp _) ?_) <;> try first | omega | assumption) | refine ny ?_ | refine WA_block ?_ | (refine uB28_24_9 ?_; refine ⟨by kernel_rfl, ?_⟩) | (refine uB28_24_11 ?_; refine ⟨by kernel_rfl, ?_⟩) | (refine uB28_24_15 ?_; refine ⟨by kernel_rfl, ?_⟩) | (refine uB28_24_16 ?_; refine ⟨by kernel_rfl, ?_⟩) | ((first | refine grp_cons (fun _ => hor _) ?_) <;> try first | omega | assumption) | (refine g_d ?_; refine d_args ?_; (first | refine d_fn (hor _) ?_ | refine d_fnQ (fun _ => hor _) ?_) <;> try first | omega | assumption) | (refine g_d ?_; (first | refine d_fnY (hor _) ?_) <;> try first | omega | assumption)))
  refine WA_whileJ (σ := Nat) (L := lend m) (X := [.cells .own 25 2 [[.lst (mssV b.ms), .lst (adsV b.ads)]], .dead, .cells .own 3 1 (nsV l)]) [2, 5, 6, 7] (fun k => rwS l.length (.lst (nuV (ordB b.ads))) k) (fun k => rwE b (swK b l k)) (fun k => k ≤ (ordB b.ads).length) (fun k => (ordB b.ads).length - k) 0 [0, 2] (Nat.zero_le _) ?_ (by simp only [rwE, benT, List.map_cons, List.map_nil, TB.inst, TV.inst, tv_map, swK]; rfl) rfl (by decide) (by decide) (fun _ _ => by simp [rwS, rwE, TV.okT]) (fun _ _ => rwE_ok) ?_
  · exact tv_
  rintro k hk1 B ⟨D, hB⟩ K hK
  clear FX hga hgb hgc hgd hge hle hcp hor
  have hsk := swK_ok hst k hk1
  have hskl := hsk.1
  rcases Nat.lt_or_ge k (ordB b.ads).length with hk | hk
  · have hga := nuV_get hk
    have hil := ordB_lt hk
    have hsu : swK b l (k + 1) = stepS b ((ordB b.ads).getD k 0) (swK b l k) := rfl
    have hnx := hK (k + 1)
    have hny := fun (_ : Unit) => hnx
    clear hnx hK
    rw [hsu] at hny
    generalize (ordB b.ads).getD k 0 = i at *
    generalize swK b l k = L at *
    have hgb := adsV_get hil
    have hgc := nsV_get (l := L) (i := i) (by omega)
    have hlL := nsV_length (l := L)
    have hgc : (nsV L)[i]? = some [V.int .i64 (L.getD i 0)] ∧ (nsV L).length = l.length := ⟨hgc, by rw [hlL]; omega⟩
    have hle := efsV_length (l := (b.ads.getD i adz).effs)
    have hao := ad_ok (hk0.ae i hil)
    have hpa := hao.pa
    have hbl : -1000 ≤ L.getD i 0 ∧ L.getD i 0 ≤ 1000 := steps_bd hb hsk.2 i hil
    have hbl2 := hsk.2 i hil
    have hle2 := hao.le
    have hmo2 := hao.mo
    by_cases hE : (b.ads.getD i adz).effs.length = 0
    · have hss : stepS b i L = L := by
        unfold stepS
        have : (b.ads.getD i adz).effs = [] := List.eq_nil_of_length_eq_zero hE
        rw [this]
        rfl
      rw [hss] at hny
      have hgd := hla
      have hge := hla
      generalize b.ads.getD i adz = x at *
      obtain ⟨nm, ef, le, mo, pa, af⟩ := x
      unfold adV at hgb
      dsimp only at hgb hle hE
      generalize efsV ef = EF at *
      simp only [rwE, rwS, benT]
      simp only [List.map_cons, List.map_nil, TB.inst, TV.inst, tv_map, zipT, List.cons_append, List.nil_append, Nat.add_zero]
      (have FX := And.intro hlo (And.intro hla (And.intro hlm (And.intro hga (And.intro hgb (And.intro hgc (And.intro hgd (And.intro hge hle))))))); repeat' (first | (refine sx ?_ ?_ <;> intro h <;> first | (exfalso; omega) | skip) | (refine g_op ?_; refine g_call ?_; refine g_args ?_; (first | refine s_fn (hor _) ?_ | refine s_fnO (hcp _) ?_) <;> try first | omega | assumption) | refine ny ?_ | refine WA_block ?_ | (refine uB28_24_9 ?_; refine ⟨by kernel_rfl, ?_⟩) | (refine uB28_24_11 ?_; refine ⟨by kernel_rfl, ?_⟩) | (refine uB28_24_15 ?_; refine ⟨by kernel_rfl, ?_⟩) | (refine uB28_24_16 ?_; refine ⟨by kernel_rfl, ?_⟩) | ((first | refine grp_cons (fun _ => hor _) ?_) <;> try first | omega | assumption) | (refine g_d ?_; refine d_args ?_; (first | refine d_fn (hor _) ?_ | refine d_fnQ (fun _ => hor _) ?_) <;> try first | omega | assumption) | (refine g_d ?_; (first | refine d_fnY (hor _) ?_) <;> try first | omega | assumption)))
      all_goals (try (exfalso; omega))
      all_goals ((refine nextU_ hny (()) [0, 1] (hk) (by omega) ?_ (ht := ?_); (focus (simp only [rwE, benT, List.map_cons, List.map_nil, TB.inst, TV.inst, tv_map, List.cons_append, List.nil_append]; first | rfl | (simp [ptsV, ptV]; done) | (simp [hpsV, hpV]; done) | (simp [frsV, frV]; done) | (simp [txV]; done) | (simp [prtsV, prtV]; done))); (simp only [rwS, List.map_cons, List.map_nil, TV.inst, List.getD_cons_zero, List.getD_cons_succ]; exact tv_)))
    · have hE0 : 0 < (b.ads.getD i adz).effs.length := by omega
      have hme := (ef_ok (hao.ef 0 hE0)).1
      have hmb := (fdx_bd (isM ((b.ads.getD i adz).effs.getD 0 efz).meas) b.ms).2
      obtain ⟨j, hj⟩ : ∃ j : Nat, fdx (isM ((b.ads.getD i adz).effs.getD 0 efz).meas) b.ms = (j : Int) := ⟨(fdx (isM ((b.ads.getD i adz).effs.getD 0 efz).meas) b.ms).toNat, by omega⟩
      have hmj : mainL b.ms (b.ads.getD i adz).effs = (j : Int) := by
        rw [← hj]
        cases he : (b.ads.getD i adz).effs with
        | nil => rw [he] at hE0; exact absurd hE0 (Nat.not_lt_zero _)
        | cons e r => rfl
      have hss : stepS b i L = L.set i (L.getD i 0 + nearP b L i j) := by
        unfold stepS
        rw [hmj, if_pos (by omega), Int.toNat_natCast]
      have hjl : j < b.ms.length := by omega
      have hbyj := main_by hE0 hj
      have hrn := rnear_eq (b := b) (l := L) (i := i) (j := j) hbl2
      have hnb := nearP_ok (j := j) hbl2
      have hgd := mssV_get hjl
      have hge := efsV_get hE0
      have hmat := fun m => rmeasureat_c b.ms ((b.ads.getD i adz).effs.getD 0 efz).meas (by have := hb.fm; omega) m
      have hrv := fun (m : Mem) (k : Nat) (st : Sta) (h : m[k]? = some (.cells st 3 1 (nsV L))) => rvalues_s b hb hef L hsk.1 (steps_bd hb hsk.2) l.length (by omega) m k h
      have hvb := valP_bd hb hjl (steps_bd hb hsk.2)
      have hby2 := hb.by_ i j
      have hvl := nsV_length (l := valsP b L b.ms.length)
      rw [valsP_length] at hvl
      have hvg := nsV_get (l := valsP b L b.ms.length) (i := j) (by rw [valsP_length]; exact hjl)
      rw [valsP_get hjl] at hvg
      have hgd : (mssV b.ms)[j]? = some (msV (b.ms.getD j msz)) ∧ (nsV (valsP b L b.ms.length))[j]? = some [V.int .i64 (valP b L j)] ∧ (nsV (valsP b L b.ms.length)).length = b.ms.length := ⟨hgd, hvg, hvl⟩
      have hva := hb.va j hjl
      have hok : ∀ s, okS (b.ads.getD i adz) (L.getD i 0) s = decide ((b.ads.getD i adz).least ≤ L.getD i 0 + s ∧ L.getD i 0 + s ≤ (b.ads.getD i adz).most) := fun s => rfl
      have h00 : okS (b.ads.getD i adz) (L.getD i 0) 0 = true := by rw [hok]; exact decide_eq_true (by omega)
      have hinv := fun k => rnK_inv (far := farR (valP b L j) (byN b i j) (b.ms.getD j msz).low (b.ms.getD j msz).high) h00 (b.ads.getD i adz).pass.toNat k
      rw [hj] at hmat
      rw [hss] at hny
      rw [hbyj] at hrn hinv hby2
      generalize hokS : okS (b.ads.getD i adz) (L.getD i 0) = OK at *
      generalize nearP b L i j = nr at *
      generalize hVL : valsP b L b.ms.length = VL at *
      generalize valP b L j = va at *
      have hny2 : ∀ (_ : Unit) (js : List Nat) (t' : List (Nat × V)) (m' : Mem), RoundEndT B [2, 5, 6, 7] (rwS l.length (.lst (nuV (ordB b.ads))) (k + 1)) (rwE b (L.set i (L.getD i 0 + nr))) js t' m' → k + 1 ≤ (ordB b.ads).length → (ordB b.ads).length - (k + 1) < (ordB b.ads).length - k → K t' m' := hny
      clear hny
      generalize L.getD i 0 = li at *
      generalize b.ms.getD j msz = y at *
      generalize (b.ads.getD i adz) = x at *
      obtain ⟨ynm, yva, ylo, yhi⟩ := y
      obtain ⟨nm, ef, le, mo, pa, af⟩ := x
      unfold adV at hgb
      unfold msV at hgd
      dsimp only at hgb hle hE hE0 hge hgd hrn hinv hby2 hmat hpa hva hok hle2 hmo2
      obtain ⟨p, rfl⟩ : ∃ p : Nat, pa = (p : Int) := ⟨pa.toNat, by omega⟩
      rw [Int.toNat_natCast] at hrn hinv
      generalize ef.getD 0 efz = e0 at *
      obtain ⟨emn, eby⟩ := e0
      unfold efV at hge
      dsimp only at hge hrn hinv hby2 hmat
      generalize efsV ef = EF at *
      simp only [rwE, rwS, benT]
      simp only [List.map_cons, List.map_nil, TB.inst, TV.inst, tv_map, zipT, List.cons_append, List.nil_append, Nat.add_zero]
      (have FX := And.intro hlo (And.intro hla (And.intro hlm (And.intro hga (And.intro hgb (And.intro hgc (And.intro hgd (And.intro hge hle))))))); repeat' (first | (refine sx ?_ ?_ <;> intro h <;> first | (exfalso; omega) | skip) | (refine g_op ?_; refine g_call ?_; refine g_args ?_; (first | refine s_fn (hmat _) ?_ | refine s_fn (hrv _ (B.length + 1) _ ev_) ?_ | refine s_fn (babs_c _ (by omega) (by omega) _) ?_ | refine s_fn (bwithin_c _ _ _ _) ?_) <;> try first | omega | assumption) | refine ny ?_ | refine WA_block ?_ | (refine uB28_24_9 ?_; refine ⟨by kernel_rfl, ?_⟩) | (refine uB28_24_11 ?_; refine ⟨by kernel_rfl, ?_⟩) | (refine uB28_24_15 ?_; refine ⟨by kernel_rfl, ?_⟩) | (refine uB28_24_16 ?_; refine ⟨by kernel_rfl, ?_⟩) | ((first | refine grp_cons (fun _ => hmat _) ?_ | refine grp_cons (fun _ => hrv _ (B.length + 1) _ ev_) ?_ | refine grp_cons (fun _ => babs_c _ (by omega) (by omega) _) ?_ | refine grp_cons (fun _ => bwithin_c _ _ _ _) ?_) <;> try first | omega | assumption) | (refine g_d ?_; refine d_args ?_; (first | refine d_fn (hmat _) ?_ | refine d_fn (hrv _ (B.length + 1) _ ev_) ?_ | refine d_fn (babs_c _ (by omega) (by omega) _) ?_ | refine d_fn (bwithin_c _ _ _ _) ?_ | refine d_fnQ (fun _ => hmat _) ?_ | refine d_fnQ (fun _ => hrv _ (B.length + 1) _ ev_) ?_ | refine d_fnQ (fun _ => babs_c _ (by omega) (by omega) _) ?_ | refine d_fnQ (fun _ => bwithin_c _ _ _ _) ?_) <;> try first | omega | assumption) | (refine g_d ?_; (first | refine d_fnY (hmat _) ?_ | refine d_fnY (hrv _ (B.length + 1) _ ev_) ?_ | refine d_fnY (babs_c _ (by omega) (by omega) _) ?_ | refine d_fnY (bwithin_c _ _ _ _) ?_) <;> try first | omega | assumption)))
      generalize hfar : farR va eby ylo yhi = far at *
      have hf0 : far 0 = ((2 * va - ylo - yhi).natAbs : Int) := by rw [← hfar]; unfold farR; rw [Int.zero_mul, Int.add_zero]
      have hfs : ∀ s, far s = ((2 * (va + s * eby) - ylo - yhi).natAbs : Int) := fun s => by rw [← hfar]; rfl
      refine WA_while (σ := Nat) [2, 5, 6, 7, 8, 9, 10, 11, 12, 13, 14] (fun q => [.ptr B.length 0 0, .sl (B.length + 1) l.length, .lst (nuV (ordB b.ads)), .int .i64 k, .int .i64 i, .ptr (B.length + 2) 0 0, .int .i64 j, .int .i64 va, .int .i64 (rnK OK far p q), .int .i64 (far (rnK OK far p q)), .int .i64 (-(p : Int) + q)]) (fun _ => B ++ [.cells .own 25 2 [[.lst (mssV b.ms), .lst (adsV b.ads)]], .cells .own 3 1 (nsV L), .cells .own 98 6 [[.str nm, .lst EF, .int .i64 le, .int .i64 mo, .int .i64 p, .lst (tsV af)]]]) (fun q => q ≤ 2 * p + 1) (fun q => 2 * p + 1 - q) 0 (Nat.zero_le _) (by rw [show rnK OK far p 0 = 0 from rfl, hf0, show (-(p : Int) + (0 : Nat)) = -(p : Int) by omega]; exact tv_) rfl ?_
      rintro q hq1 K2 hK2
      simp only [zipT]
      have hrn0 := hrn
      have hny3 := hny2
      clear FX hmat hrv hvg hvl hrn hny2
      have hmat := hla
      have hrv := hla
      have hiv := hinv q hq1
      have hsq : rnK OK far p (q + 1) = rnS OK far ((q : Int) - p) (rnK OK far p q) := rfl
      have hes : (q : Int) - p = -(p : Int) + q := by omega
      rw [hes] at hsq
      clear hinv
      rcases Nat.lt_or_ge q (2 * p + 1) with hq | hq
      · have hfp := hfs (rnK OK far p q)
        have hokq := hok (-(p : Int) + q)
        have hfq := hfs (-(p : Int) + q)
        have hmu := mul_bd (a := 1000) (c := 1000) (x := -(p : Int) + q) (y := eby) (by decide) (by omega) hby2
        have hmu2 := mul_bd (a := 1000) (c := 1000) (x := rnK OK far p q) (y := eby) (by decide) (by omega) hby2
        unfold rnS at hsq
        generalize rnK OK far p q = rr at *
        generalize hr1 : rnK OK far p (q + 1) = rr1 at *
        have hq1 : q + 1 ≤ 2 * p + 1 := hq
        have hq9 : (-(p : Int) + ((q + 1 : Nat) : Int)) = -(p : Int) + q + 1 := by omega
        (have FX := And.intro hlo (And.intro hla (And.intro hlm (And.intro hga (And.intro hgb (And.intro hgc (And.intro hgd (And.intro hge hle))))))); repeat' (first | (refine sx ?_ ?_ <;> intro h <;> first | (exfalso; omega) | skip) | (refine g_op ?_; refine g_call ?_; refine g_args ?_; (first | refine s_fn (hmat _) ?_ | refine s_fn (hrv _ (B.length + 1) _ ev_) ?_ | refine s_fn (babs_c _ (by omega) (by omega) _) ?_ | refine s_fn (bwithin_c _ _ _ _) ?_) <;> try first | omega | assumption) | refine ny ?_ | refine WA_block ?_ | (refine uB28_24_9 ?_; refine ⟨by kernel_rfl, ?_⟩) | (refine uB28_24_11 ?_; refine ⟨by kernel_rfl, ?_⟩) | (refine uB28_24_15 ?_; refine ⟨by kernel_rfl, ?_⟩) | (refine uB28_24_16 ?_; refine ⟨by kernel_rfl, ?_⟩) | ((first | refine grp_cons (fun _ => hmat _) ?_ | refine grp_cons (fun _ => hrv _ (B.length + 1) _ ev_) ?_ | refine grp_cons (fun _ => babs_c _ (by omega) (by omega) _) ?_ | refine grp_cons (fun _ => bwithin_c _ _ _ _) ?_) <;> try first | omega | assumption) | (refine g_d ?_; refine d_args ?_; (first | refine d_fn (hmat _) ?_ | refine d_fn (hrv _ (B.length + 1) _ ev_) ?_ | refine d_fn (babs_c _ (by omega) (by omega) _) ?_ | refine d_fn (bwithin_c _ _ _ _) ?_ | refine d_fnQ (fun _ => hmat _) ?_ | refine d_fnQ (fun _ => hrv _ (B.length + 1) _ ev_) ?_ | refine d_fnQ (fun _ => babs_c _ (by omega) (by omega) _) ?_ | refine d_fnQ (fun _ => bwithin_c _ _ _ _) ?_) <;> try first | omega | assumption) | (refine g_d ?_; (first | refine d_fnY (hmat _) ?_ | refine d_fnY (hrv _ (B.length + 1) _ ev_) ?_ | refine d_fnY (babs_c _ (by omega) (by omega) _) ?_ | refine d_fnY (bwithin_c _ _ _ _) ?_) <;> try first | omega | assumption)))
        all_goals (try (exfalso; omega))
        all_goals first
          | (have hc : OK (-(p : Int) + q) = true ∧ (far (-(p : Int) + q) < far rr ∨ (far (-(p : Int) + q) = far rr ∧ ((-(p : Int) + q).natAbs : Int) < (rr.natAbs : Int))) := ⟨by rw [hokq]; exact decide_eq_true (by omega), by rw [hfq]; omega⟩
             rw [if_pos hc] at hsq
             refine next_ hK2 (q + 1) (by omega) (by omega) ?_
             rw [hq9, show rnK OK far p (q + 1) = -(p : Int) + q by rw [hr1]; exact hsq, hfq]
             exact tv_)
          | (have hc : ¬ (OK (-(p : Int) + q) = true ∧ (far (-(p : Int) + q) < far rr ∨ (far (-(p : Int) + q) = far rr ∧ ((-(p : Int) + q).natAbs : Int) < (rr.natAbs : Int)))) := fun h => by
               obtain ⟨h1, h2⟩ := h
               rw [hokq] at h1
               have h1 := of_decide_eq_true h1
               rw [hfq] at h2
               omega
             rw [if_neg hc] at hsq
             refine next_ hK2 (q + 1) (by omega) (by omega) ?_
             rw [hq9, show rnK OK far p (q + 1) = rr by rw [hr1]; exact hsq]
             exact tv_)
      · obtain rfl : q = 2 * p + 1 := by omega
        rw [hrn0] at hiv ⊢
        clear hsq
        have hsn : nsV (L.set i (li + nr)) = (nsV L).set i [V.int .i64 (li + nr)] := nsV_set L i (li + nr)
        (have FX := And.intro hlo (And.intro hla (And.intro hlm (And.intro hga (And.intro hgb (And.intro hgc (And.intro hgd (And.intro hge hle))))))); repeat' (first | (refine sx ?_ ?_ <;> intro h <;> first | (exfalso; omega) | skip) | (refine g_op ?_; refine g_call ?_; refine g_args ?_; (first | refine s_fn (hmat _) ?_ | refine s_fn (hrv _ (B.length + 1) _ ev_) ?_ | refine s_fn (babs_c _ (by omega) (by omega) _) ?_ | refine s_fn (bwithin_c _ _ _ _) ?_) <;> try first | omega | assumption) | refine ny ?_ | refine WA_block ?_ | (refine uB28_24_9 ?_; refine ⟨by kernel_rfl, ?_⟩) | (refine uB28_24_11 ?_; refine ⟨by kernel_rfl, ?_⟩) | (refine uB28_24_15 ?_; refine ⟨by kernel_rfl, ?_⟩) | (refine uB28_24_16 ?_; refine ⟨by kernel_rfl, ?_⟩) | ((first | refine grp_cons (fun _ => hmat _) ?_ | refine grp_cons (fun _ => hrv _ (B.length + 1) _ ev_) ?_ | refine grp_cons (fun _ => babs_c _ (by omega) (by omega) _) ?_ | refine grp_cons (fun _ => bwithin_c _ _ _ _) ?_) <;> try first | omega | assumption) | (refine g_d ?_; refine d_args ?_; (first | refine d_fn (hmat _) ?_ | refine d_fn (hrv _ (B.length + 1) _ ev_) ?_ | refine d_fn (babs_c _ (by omega) (by omega) _) ?_ | refine d_fn (bwithin_c _ _ _ _) ?_ | refine d_fnQ (fun _ => hmat _) ?_ | refine d_fnQ (fun _ => hrv _ (B.length + 1) _ ev_) ?_ | refine d_fnQ (fun _ => babs_c _ (by omega) (by omega) _) ?_ | refine d_fnQ (fun _ => bwithin_c _ _ _ _) ?_) <;> try first | omega | assumption) | (refine g_d ?_; (first | refine d_fnY (hmat _) ?_ | refine d_fnY (hrv _ (B.length + 1) _ ev_) ?_ | refine d_fnY (babs_c _ (by omega) (by omega) _) ?_ | refine d_fnY (bwithin_c _ _ _ _) ?_) <;> try first | omega | assumption)))
        all_goals (try (exfalso; omega))
        all_goals ((refine nextU_ hny3 (()) [0, 1] (hk) (by omega) ?_ (ht := ?_); (focus (simp only [rwE, benT, hsn, List.map_cons, List.map_nil, TB.inst, TV.inst, tv_map, List.cons_append, List.nil_append]; first | rfl | (simp [ptsV, ptV]; done) | (simp [hpsV, hpV]; done) | (simp [frsV, frV]; done) | (simp [txV]; done) | (simp [prtsV, prtV]; done))); (simp only [rwS, List.map_cons, List.map_nil, TV.inst, List.getD_cons_zero, List.getD_cons_succ]; exact tv_)))
  · obtain rfl : k = (ordB b.ads).length := by omega
    have hga := hla
    have hgb := hla
    have hgc := hla
    have hgd := hla
    have hge := hla
    have hle := hla
    have hsl : (nsV (swK b l (ordB b.ads).length)).length = l.length := by rw [nsV_length]; omega
    have hsp : sweepP b l = swK b l (ordB b.ads).length := rfl
    rw [hsp] at hQ
    have hpl := nsV_plain (swK b l (ordB b.ads).length)
    simp only [rwE, rwS, benT]
    simp only [List.map_cons, List.map_nil, TB.inst, TV.inst, tv_map, zipT, List.cons_append, List.nil_append, Nat.add_zero]
    (have FX := And.intro hlo (And.intro hla (And.intro hlm (And.intro hga (And.intro hgb (And.intro hgc (And.intro hgd (And.intro hge hle))))))); repeat' (first | (refine sx ?_ ?_ <;> intro h <;> first | (exfalso; omega) | skip) | (refine g_op ?_; refine g_call ?_; refine g_args ?_; (first | refine s_fn (hmat _) ?_ | refine s_fn (hrv _ (B.length + 1) _ ev_) ?_ | refine s_fn (babs_c _ (by omega) (by omega) _) ?_ | refine s_fn (bwithin_c _ _ _ _) ?_) <;> try first | omega | assumption) | refine ny ?_ | refine WA_block ?_ | (refine uB28_24_9 ?_; refine ⟨by kernel_rfl, ?_⟩) | (refine uB28_24_11 ?_; refine ⟨by kernel_rfl, ?_⟩) | (refine uB28_24_15 ?_; refine ⟨by kernel_rfl, ?_⟩) | (refine uB28_24_16 ?_; refine ⟨by kernel_rfl, ?_⟩) | ((first | refine grp_cons (fun _ => hmat _) ?_ | refine grp_cons (fun _ => hrv _ (B.length + 1) _ ev_) ?_ | refine grp_cons (fun _ => babs_c _ (by omega) (by omega) _) ?_ | refine grp_cons (fun _ => bwithin_c _ _ _ _) ?_) <;> try first | omega | assumption) | (refine g_d ?_; refine d_args ?_; (first | refine d_fn (hmat _) ?_ | refine d_fn (hrv _ (B.length + 1) _ ev_) ?_ | refine d_fn (babs_c _ (by omega) (by omega) _) ?_ | refine d_fn (bwithin_c _ _ _ _) ?_ | refine d_fnQ (fun _ => hmat _) ?_ | refine d_fnQ (fun _ => hrv _ (B.length + 1) _ ev_) ?_ | refine d_fnQ (fun _ => babs_c _ (by omega) (by omega) _) ?_ | refine d_fnQ (fun _ => bwithin_c _ _ _ _) ?_) <;> try first | omega | assumption) | (refine g_d ?_; (first | refine d_fnY (hmat _) ?_ | refine d_fnY (hrv _ (B.length + 1) _ ev_) ?_ | refine d_fnY (babs_c _ (by omega) (by omega) _) ?_ | refine d_fnY (bwithin_c _ _ _ _) ?_) <;> try first | omega | assumption)))
    all_goals (try (exfalso; omega))
    all_goals (refine r_esA hQ (fin_sl (j := 1) hB rfl (by rw [hsl]; exact Nat.le_refl _) (by rw [List.take_of_length_le (by rw [hsl]; exact Nat.le_refl _)]; exact hpl) ⟨by rw [List.take_of_length_le (by rw [hsl]; exact Nat.le_refl _)], rfl⟩))
end Go.Proofs.Ytaoakololkcepaa
