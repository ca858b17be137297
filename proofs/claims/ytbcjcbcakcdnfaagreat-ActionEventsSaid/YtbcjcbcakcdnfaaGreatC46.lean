/- contract: what has happened -/
import Derived.Test.YtbcjcbcakcdnfaaGreatC35
import Derived.Test.YtbcjcbcakcdnfaaGreatYE
set_option linter.unusedSimpArgs false
set_option linter.unusedVariables false
namespace Go.Proofs.YtbcjcbcakcdnfaaGreat
open Go.RowKit
attribute [local irreducible] WA WOs WDs WAn qThen qBlock tput
set_option maxHeartbeats 1000000
set_option maxRecDepth 20000
set_option linter.unusedSimpArgs false
set_option linter.unusedVariables false
attribute [local irreducible] smB cut sm
def hdE (a : ActR) (q : Rat) (o : Nms) : List TB := actT a :: fqT q :: txE o
def hdS (l : List Hp) (o : Nms) (i : Nat) : List TV := [.ptr 0 0 0, .ptr 1 0 0, .v (.int .i64 0), txSt 2 o, .v (.lst (hpsV l)), .v (.int .i64 l.length), .v (.int .i64 i)]
theorem hdE_ok {a : ActR} {q : Rat} {o : Nms} : (hdE a q o).all (TB.ok (hdE a q o).length) = true := by
  unfold hdE actT fqT
  cases o with
  | nil => simp [TB.ok, TV.okT, txE]
  | cons p r => simp only [txE, List.all_cons, TB.ok, TV.okT, List.all_nil, Bool.and_true, Bool.and_self, tv_ok]
theorem hdS_ok {a : ActR} {l : List Hp} {q : Rat} {o : Nms} {i : Nat} : (hdS l o i).all (TV.okT (hdE a q o).length) = true := by
  unfold hdE hdS
  cases o with
  | nil => simp [TV.okT, txE, txSt]
  | cons p r => simp [TV.okT, txE, txSt]
def hdN (a : ActR) (l : List Hp) (x : Rat) (i : Nat) : Nms := hapN a (hapD (l.take i) x)
theorem hdN_succ {a : ActR} {l : List Hp} {x : Rat} {i : Nat} (h : i < l.length) : hdN a l x (i + 1) = if (l.getD i hp0).2 ≤ x then hdN a l x i ++ [(a.evs.getD (l.getD i hp0).1 e0).name] else hdN a l x i := by
  unfold hdN hapD
  rw [List.take_succ_eq_append_getElem h, List.filter_append]
  have e : l.getD i hp0 = l[i] := by rw [List.getD_eq_getElem?_getD, List.getElem?_eq_getElem h]; rfl
  rw [e]
  unfold hapN
  rw [List.map_append]
  by_cases hx : l[i].2 ≤ x
  · rw [if_pos hx, List.filter_cons_of_pos (by simpa using hx)]
    rfl
  · rw [if_neg hx, List.filter_cons_of_neg (by simpa using hx)]
    simp
theorem hdN_all {a : ActR} {l : List Hp} {x : Rat} : hdN a l x l.length = hapN a (hapD l x) := by unfold hdN; rw [List.take_of_length_le (Nat.le_refl _)]
theorem hdN_len {a : ActR} {l : List Hp} {x : Rat} {i : Nat} : (hdN a l x i).length ≤ i := by
  unfold hdN
  rw [hapN_len]
  unfold hapD
  have h1 := List.length_filter_le (fun p : Hp => decide (p.2 ≤ x)) (l.take i)
  rw [List.length_take] at h1
  omega
def hdV (a : ActR) (n d : Int) : V := if chkDip a n d ≠ 0 then .tup [.lst [], .int .i64 (chkDip a n d)] else match hapS a with
  | some l => .tup [.lst (txV (hapN a (hapD l (toQ (n, d))))), .int .i64 0]
  | none => .tup [.lst [], .int .i64 8]
theorem chkDip_ok {a : ActR} {n d : Int} (h : chkDip a n d = 0) : acErr a = 0 ∧ ∃ q : Rat, toQ (n, d) = q ∧ sm q ∧ q.num = n ∧ (q.den : Int) = d := by
  unfold chkDip at h
  split at h
  · contradiction
  · rename_i h1
    refine ⟨by simpa using h1, toQ (n, d), rfl, ?_⟩
    unfold dipErr at h
    split at h
    · contradiction
    · rename_i h2
      obtain ⟨h3, h4⟩ := frErr_q (by simpa using h2)
      unfold rawQ at h3
      injection h3 with h5 h6
      exact ⟨h4, h5, h6⟩

theorem ahappened_c (a : ActR) (ha : Lt a) (hev : acErr a = 0 → a.evs.length ≤ 12) (n d : Int) (b1 : B64 n) (b2 : B64 d) (m : Mem) : Gives Tryz.prog 20 [.agg (actV a), .agg [.int .i64 n, .int .i64 d]] m (hdV a n d) := by
  have hlen := evsV_length (l := a.evs)
  have hck := fun m => acheckdip_c a ha n d b1 b2 m
  unfold hdV
  by_cases h : chkDip a n d = 0
  · rw [if_neg (by omega)]
    obtain ⟨hac, q, hq, hs, rfl, rfl⟩ := chkDip_ok h
    rw [hq]
    have hhp := fun m => ahapp_c a ha hac (hev hac) m
    unfold hapV at hhp
    rw [h] at hck
    have hx0 := h
    cases hS : hapS a with
    | none =>
      rw [hS] at hhp
      dsimp only at hhp ⊢
      refine Gives_weak (v := .tup [.nilsl, .int .i64 8]) ?_ (wk_tnil _)
      have hle := hlen
      have hga := hlen
      have hgb := hlen
      have hll := hlen
      have hlt := hlen
      unfold actV at hhp hck ⊢
      refine Gives_in Tryz.func20 rfl Tryz.ntmps20 Tryz.results20 (by kernel_rfl) (by simp) rfl fun Q hQ => ?_
      (have FX := And.intro hx0 (And.intro hlen (And.intro hle (And.intro hga (And.intro hgb (And.intro hll hlt))))); repeat' (first | (refine sx ?_ ?_ <;> intro h <;> first | (exfalso; omega) | skip) | (refine g_op ?_; refine g_call ?_; refine g_args ?_; (first | refine s_fn (hck _) ?_ | refine s_fn (hhp _) ?_) <;> try first | omega | assumption) | refine ny ?_ | refine WA_block ?_))
      all_goals (try (exfalso; omega))
      refine WA_rounds 1 ?_
      (have FX := And.intro hx0 (And.intro hlen (And.intro hle (And.intro hga (And.intro hgb (And.intro hll hlt))))); repeat' (first | (refine sx ?_ ?_ <;> intro h <;> first | (exfalso; omega) | skip) | (refine g_op ?_; refine g_call ?_; refine g_args ?_; (first | refine s_fn (hck _) ?_ | refine s_fn (hhp _) ?_) <;> try first | omega | assumption) | refine ny ?_ | refine WA_block ?_))
      all_goals (try (exfalso; omega))
      all_goals (refine r_es hQ ?_; try with_reducible rfl)
    | some l =>
      rw [hS] at hhp
      dsimp only at hhp ⊢
      refine Gives_weak (v := .tup [oV (txV (hapN a (hapD l q))), .int .i64 0]) ?_ (wk_toV _ _)
      obtain ⟨_, hln⟩ := hapS_srt hS
      have hle := hpsV_length (l := l)
      have hga := hlen
      have hgb := hlen
      have hll := hlen
      have hlt := hlen
      unfold actV at hhp hck ⊢
      refine CallA_in Tryz.func20 rfl Tryz.ntmps20 Tryz.results20 (by kernel_rfl) (by simp) fun Q hQ => ?_
      (have FX := And.intro hx0 (And.intro hlen (And.intro hle (And.intro hga (And.intro hgb (And.intro hll hlt))))); repeat' (first | (refine sx ?_ ?_ <;> intro h <;> first | (exfalso; omega) | skip) | (refine g_op ?_; refine g_call ?_; refine g_args ?_; (first | refine s_fn (hck _) ?_ | refine s_fn (hhp _) ?_) <;> try first | omega | assumption) | refine ny ?_ | refine WA_block ?_))
      all_goals (try (exfalso; omega))
      refine WA_whileJ (σ := Nat) (L := lend m) [2, 3, 8, 9, 23, 24, 25] (fun i => hdS l (hdN a l q i) i) (fun i => hdE a q (hdN a l q i)) (fun i => i ≤ l.length) (fun i => l.length - i) 0 [0, 1] (Nat.zero_le _) ?_ rfl rfl (by decide) (by decide) (fun _ _ => hdS_ok) (fun _ _ => hdE_ok) ?_
      · simp only [hdS, hdN, hapD, hapN, List.take_zero, List.filter_nil, txSt, List.map_cons, List.map_nil, TV.inst, List.getD_cons_zero, List.getD_cons_succ]
        exact tv_
      rintro i hi1 B ⟨D, hB⟩ K hK
      clear FX hga hgb hll hlt
      have hol := hdN_len (a := a) (l := l) (x := q) (i := i)
      rcases Nat.lt_or_ge i l.length with hi | hi
      · have hsu := hdN_succ (a := a) (x := q) hi
        have hga := hpsV_get hi
        have hgb := evsV_get (hapS_num hS hi)
        have hsm := hapS_sm hac hS hi
        have hcm := fun m => acompare_c (l.getD i hp0).2 q hsm hs m
        have hnx := hK (i + 1)
        rw [hsu] at hnx
        have hny := fun (_ : Unit) => hnx
        clear hnx hsu hK
        obtain ⟨⟨pn, pq⟩, hp⟩ : ∃ p, l.getD i hp0 = p := ⟨_, rfl⟩
        rw [hp] at hga hgb hny hcm
        unfold hpV at hga
        unfold evV at hgb
        dsimp only at hga hgb hny hcm
        generalize a.evs.getD pn e0 = ev at *
        generalize hdN a l q i = o at *
        have hc3 := cmpQ_gt (p := pq) (q := q)
        by_cases hpq : pq ≤ q
        · rw [if_pos hpq] at hny
          have hcle : cmpQ pq q ≤ 0 := by
            rcases Int.lt_or_le 0 (cmpQ pq q) with h2 | h2
            · exact absurd (hc3.1 h2) (Rat.not_lt.2 hpq)
            · exact h2
          cases o with
          | nil =>
            have hll := hlen
            have hlt := hlen
            simp only [hdS, hdE, actT, fqT, txSt, txE]
            simp only [List.map_cons, List.map_nil, TB.inst, TV.inst, tv_map, zipT, List.cons_append, List.nil_append, Nat.add_zero]
            (have FX := And.intro hx0 (And.intro hlen (And.intro hle (And.intro hga (And.intro hgb (And.intro hll hlt))))); repeat' (first | (refine sx ?_ ?_ <;> intro h <;> first | (exfalso; omega) | skip) | (refine g_op ?_; refine g_call ?_; refine g_args ?_; (first | refine s_fn (hcm _) ?_) <;> try first | omega | assumption) | refine ny ?_ | refine WA_block ?_))
            all_goals (try (exfalso; omega))
            all_goals ((refine nextU_ hny (()) [0, 1, 4] (hi) (by omega) ?_ (ht := ?_); (focus (simp only [hdE, actT, fqT, txE, List.map_cons, List.map_nil, TB.inst, TV.inst, tv_map, List.cons_append, List.nil_append]; first | rfl | (simp [ptsV, ptV]; done) | (simp [hpsV, hpV]; done) | (simp [frsV, frV]; done) | (simp [txV]; done) | (simp [prtsV, prtV]; done))); (simp only [hdS, txSt, List.length_nil, Nat.zero_add, List.map_cons, List.map_nil, TV.inst, List.getD_cons_zero, List.getD_cons_succ]; exact tv_)))
          | cons p r =>
            have hll : (txV (p :: r)).length = r.length + 1 := txV_length
            have hlt : (txV (p :: r)).take (r.length + 1) = txV (p :: r) := by rw [List.take_of_length_le (by rw [hll]; exact Nat.le_refl _)]
            simp only [List.length_cons] at hol
            simp only [hdS, hdE, actT, fqT, txSt, txE]
            simp only [List.map_cons, List.map_nil, TB.inst, TV.inst, tv_map, zipT, List.cons_append, List.nil_append, Nat.add_zero]
            (have FX := And.intro hx0 (And.intro hlen (And.intro hle (And.intro hga (And.intro hgb (And.intro hll hlt))))); repeat' (first | (refine sx ?_ ?_ <;> intro h <;> first | (exfalso; omega) | skip) | (refine g_op ?_; refine g_call ?_; refine g_args ?_; (first | refine s_fn (hcm _) ?_) <;> try first | omega | assumption) | refine ny ?_ | refine WA_block ?_))
            all_goals (try (exfalso; omega))
            all_goals ((refine nextU_ hny (()) [0, 1, 5] (hi) (by omega) ?_ (ht := ?_); (focus (simp only [hdE, actT, fqT, txE, List.map_cons, List.map_nil, TB.inst, TV.inst, tv_map, List.cons_append, List.nil_append]; first | rfl | (simp [ptsV, ptV]; done) | (simp [hpsV, hpV]; done) | (simp [frsV, frV]; done) | (simp [txV]; done) | (simp [prtsV, prtV]; done))); (simp only [hdS, txSt, List.cons_append, List.length_append, List.length_cons, List.length_nil, Nat.zero_add, List.map_cons, List.map_nil, TV.inst, List.getD_cons_zero, List.getD_cons_succ]; exact tv_)))
        · rw [if_neg hpq] at hny
          have hcgt : 0 < cmpQ pq q := hc3.2 (Rat.not_le.1 hpq)
          cases o with
          | nil =>
            have hll := hlen
            have hlt := hlen
            simp only [hdS, hdE, actT, fqT, txSt, txE]
            simp only [List.map_cons, List.map_nil, TB.inst, TV.inst, tv_map, zipT, List.cons_append, List.nil_append, Nat.add_zero]
            (have FX := And.intro hx0 (And.intro hlen (And.intro hle (And.intro hga (And.intro hgb (And.intro hll hlt))))); repeat' (first | (refine sx ?_ ?_ <;> intro h <;> first | (exfalso; omega) | skip) | (refine g_op ?_; refine g_call ?_; refine g_args ?_; (first | refine s_fn (hcm _) ?_) <;> try first | omega | assumption) | refine ny ?_ | refine WA_block ?_))
            all_goals (try (exfalso; omega))
            all_goals ((refine nextU_ hny (()) [0, 1] (hi) (by omega) ?_ (ht := ?_); (focus (simp only [hdE, actT, fqT, txE, List.map_cons, List.map_nil, TB.inst, TV.inst, tv_map, List.cons_append, List.nil_append]; first | rfl | (simp [ptsV, ptV]; done) | (simp [hpsV, hpV]; done) | (simp [frsV, frV]; done) | (simp [txV]; done) | (simp [prtsV, prtV]; done))); (simp only [hdS, txSt, List.length_nil, Nat.zero_add, List.map_cons, List.map_nil, TV.inst, List.getD_cons_zero, List.getD_cons_succ]; exact tv_)))
          | cons p r =>
            have hll := hlen
            have hlt := hlen
            simp only [hdS, hdE, actT, fqT, txSt, txE]
            simp only [List.map_cons, List.map_nil, TB.inst, TV.inst, tv_map, zipT, List.cons_append, List.nil_append, Nat.add_zero]
            (have FX := And.intro hx0 (And.intro hlen (And.intro hle (And.intro hga (And.intro hgb (And.intro hll hlt))))); repeat' (first | (refine sx ?_ ?_ <;> intro h <;> first | (exfalso; omega) | skip) | (refine g_op ?_; refine g_call ?_; refine g_args ?_; (first | refine s_fn (hcm _) ?_) <;> try first | omega | assumption) | refine ny ?_ | refine WA_block ?_))
            all_goals (try (exfalso; omega))
            all_goals ((refine nextU_ hny (()) [0, 1, 2] (hi) (by omega) ?_ (ht := ?_); (focus (simp only [hdE, actT, fqT, txE, List.map_cons, List.map_nil, TB.inst, TV.inst, tv_map, List.cons_append, List.nil_append]; first | rfl | (simp [ptsV, ptV]; done) | (simp [hpsV, hpV]; done) | (simp [frsV, frV]; done) | (simp [txV]; done) | (simp [prtsV, prtV]; done))); (simp only [hdS, txSt, List.length_cons, Nat.zero_add, List.map_cons, List.map_nil, TV.inst, List.getD_cons_zero, List.getD_cons_succ]; exact tv_)))
      · have hie : i = l.length := by omega
        subst hie
        rw [hdN_all]
        have hga := hlen
        have hgb := hlen
        have hll := hlen
        have hlt := hlen
        clear hK hol
        generalize hapN a (hapD l q) = o at *
        cases o with
        | nil =>
          have e0 : oV (txV []) = V.nilsl := rfl
          rw [e0] at hQ
          simp only [hdS, hdE, actT, fqT, txSt, txE]
          simp only [List.map_cons, List.map_nil, TB.inst, TV.inst, tv_map, zipT, List.cons_append, List.nil_append, Nat.add_zero]
          (have FX := And.intro hx0 (And.intro hlen (And.intro hle (And.intro hga (And.intro hgb (And.intro hll hlt))))); repeat' (first | (refine sx ?_ ?_ <;> intro h <;> first | (exfalso; omega) | skip) | refine ny ?_ | refine WA_block ?_))
          all_goals (try (exfalso; omega))
          all_goals (refine r_esA hQ (.inl ⟨rfl, rfl, rfl⟩))
        | cons p r =>
          have hrl : (txV (p :: r)).length = r.length + 1 := txV_length
          have e0 : oV (txV (p :: r)) = .lst (txV (p :: r)) := rfl
          rw [e0] at hQ
          simp only [hdS, hdE, actT, fqT, txSt, txE]
          simp only [List.map_cons, List.map_nil, TB.inst, TV.inst, tv_map, zipT, List.cons_append, List.nil_append, Nat.add_zero]
          (have FX := And.intro hx0 (And.intro hlen (And.intro hle (And.intro hga (And.intro hgb (And.intro hll hlt))))); repeat' (first | (refine sx ?_ ?_ <;> intro h <;> first | (exfalso; omega) | skip) | refine ny ?_ | refine WA_block ?_))
          all_goals (try (exfalso; omega))
          all_goals (refine r_esA hQ ?_)
          all_goals (refine fin_sl2 (D := D) (j := 2) hB rfl (by rw [hrl]; exact Nat.le_refl _) (by rw [List.take_of_length_le (by rw [hrl]; exact Nat.le_refl _)]; exact txV_plain _) (fun m L => frz_int m L 3 _ _) ⟨?_, rfl⟩)
          all_goals (rw [List.take_of_length_le (by rw [hrl]; exact Nat.le_refl _)])
  · rw [if_pos h]
    refine Gives_weak (v := .tup [.nilsl, .int .i64 (chkDip a n d)]) ?_ (wk_tnil _)
    have hx0 := h
    have hle := hlen
    have hga := hlen
    have hgb := hlen
    have hll := hlen
    have hlt := hlen
    unfold actV at hck ⊢
    refine Gives_in Tryz.func20 rfl Tryz.ntmps20 Tryz.results20 (by kernel_rfl) (by simp) rfl fun Q hQ => ?_
    (have FX := And.intro hx0 (And.intro hlen (And.intro hle (And.intro hga (And.intro hgb (And.intro hll hlt))))); repeat' (first | (refine sx ?_ ?_ <;> intro h <;> first | (exfalso; omega) | skip) | (refine g_op ?_; refine g_call ?_; refine g_args ?_; (first | refine s_fn (hck _) ?_) <;> try first | omega | assumption) | refine ny ?_ | refine WA_block ?_))
    all_goals (try (exfalso; omega))
    all_goals (refine r_es hQ ?_; try with_reducible rfl)
end Go.Proofs.YtbcjcbcakcdnfaaGreat
