/- contracts: circles, and the examples of chapter 1 -/
import Derived.Test.YtdkkhfkplpopdaaDoorK6
import Derived.Test.YtdkkhfkplpopdaaDoorK4
set_option linter.unusedSimpArgs false
set_option linter.unusedVariables false
namespace Go.Proofs.YtdkkhfkplpopdaaDoor
open Go.RowKit
attribute [local irreducible] WA WOs WDs WAn qThen qBlock tput
set_option maxHeartbeats 1000000
set_option maxRecDepth 20000
set_option linter.unusedSimpArgs false
set_option linter.unusedVariables false
def cN (c : List Int) : List Nat := c.map Int.toNat
theorem cN_get {c : List Int} {k : Nat} : (cN c).getD k 0 = (c.getD k 0).toNat := by
  simp only [cN, List.getD_eq_getElem?_getD, List.getElem?_map]
  cases c[k]? <;> rfl
def prvC (c : List Int) (k : Nat) : Nat := if k = 0 then c.length - 1 else k - 1
def inC (l : List BdR) (c : List Int) (k : Nat) : Prop := 0 ≤ c.getD k 0 ∧ c.getD k 0 < (l.length : Int)
def lnC (l : List BdR) (c : List Int) (k : Nat) : Prop := (l.getD (c.getD k 0).toNat bd0).from_ = (l.getD (c.getD (prvC c k) 0).toNat bd0).to
open Classical in
noncomputable def ccE (l : List BdR) (c : List Int) : Int := if 1 ≤ c.length ∧ c.length ≤ 60 then (if ∀ k, k < c.length → inC l c k then (if ∀ k, k < c.length → lnC l c k then 22 else 25) else 6) else 10
theorem ccE_ne (l : List BdR) (c : List Int) : ccE l c ≠ 0 := by unfold ccE; split <;> (try split) <;> (try split) <;> decide
theorem ccE_len {l : List BdR} {c : List Int} (h : ¬ (1 ≤ c.length ∧ c.length ≤ 60)) : ccE l c = 10 := by unfold ccE; rw [if_neg h]
theorem ccE_in {l : List BdR} {c : List Int} (h : 1 ≤ c.length ∧ c.length ≤ 60) {k : Nat} (hk : k < c.length) (hn : ¬ inC l c k) : ccE l c = 6 := by unfold ccE; rw [if_pos h, if_neg fun q => hn (q k hk)]
theorem ccE_ln {l : List BdR} {c : List Int} (h : 1 ≤ c.length ∧ c.length ≤ 60) (hi : ∀ k, k < c.length → inC l c k) {k : Nat} (hk : k < c.length) (hn : ¬ lnC l c k) : ccE l c = 25 := by unfold ccE; rw [if_pos h, if_pos hi, if_neg fun q => hn (q k hk)]
theorem ccE_ok {l : List BdR} {c : List Int} (h : 1 ≤ c.length ∧ c.length ≤ 60) (hi : ∀ k, k < c.length → inC l c k) (hn : ∀ k, k < c.length → lnC l c k) : ccE l c = 22 := by unfold ccE; rw [if_pos h, if_pos hi, if_pos hn]
theorem sumC_bd {l : List BdR} (hm : mosts l) {c : List Int} (hi : ∀ k, k < c.length → inC l c k) : ∀ k, k ≤ c.length → -(1000000000 * (k : Int)) ≤ sumC l (cN c) k ∧ sumC l (cN c) k ≤ 1000000000 * (k : Int)
  | 0, _ => by simp [sumC]
  | k + 1, h => by
    have h1 := sumC_bd hm hi k (by omega)
    have h2 := hi k (by omega)
    unfold inC at h2
    have h3 := hm ((cN c).getD k 0) (by rw [cN_get]; omega)
    rw [sumC]
    omega
theorem circ_pos {l : List BdR} {z : List Int} (hz : keepB l z) {c : List Int} (h : 1 ≤ c.length) (hi : ∀ k, k < c.length → inC l c k) (hn : ∀ k, k < c.length → lnC l c k) : 0 ≤ sumC l (cN c) c.length := by
  have hl : (cN c).length = c.length := by simp [cN]
  have := circle_no (c := cN c) hz (by omega) (fun k hk => by
    have := hi k (by omega)
    unfold inC at this
    rw [cN_get]; omega) (fun j hj => by
    have := hn (j + 1) (by omega)
    unfold lnC prvC at this
    rw [if_neg (by omega), Nat.add_sub_cancel] at this
    rw [cN_get, cN_get]; exact this) (by
    have := hn 0 (by omega)
    unfold lnC prvC at this
    rw [if_pos rfl] at this
    rw [cN_get, cN_get, hl]; exact this)
  rwa [hl] at this
theorem uK7_13_12 {N : Nat} {l : List Oper} {t : List (Nat × V)} {m : Mem} {Q : Exit → List (Nat × V) → Mem → Prop} (h : RgN Tryd.prog N l t m Q (fun i => if i == 2 || i == 5 then .q else .p) [.one 0, .one 1, .one 2, .one 3, .one 4, .one 5, .one 6, .one 7]) : WA Tryd.prog N (.region 12 l.toArray true) t m Q := d_rgN h
theorem uK7_13_16 {N : Nat} {l : List Oper} {t : List (Nat × V)} {m : Mem} {Q : Exit → List (Nat × V) → Mem → Prop} (h : RgN Tryd.prog N l t m Q (fun i => if i == 4 || i == 9 then .q else .p) [.one 0, .one 1, .one 2, .one 3, .one 4, .one 5, .one 6, .one 7, .one 8, .one 9, .one 10]) : WA Tryd.prog N (.region 16 l.toArray true) t m Q := d_rgN h
theorem ncircle_c (n : Nat) (l : List BdR) (h1 : 1 ≤ n) (h2 : n ≤ 60) (h3 : l.length ≤ 200) (ho : okBs n l) (hm : mosts l) (z : List Int) (hz : keepB l z) (c : List Int) (hc6 : c.length ≤ 100000) (m : Mem) : Gives Tryd.prog 13 [.int .i64 n, .lst (bdV l), .lst (nsV c)] m (.tup [.int .i64 0, .int .i64 (ccE l c)]) := by
  have hck := fun m => nsystem_c n l h1 h2 h3 ho hm m
  have hlen := bdV_length (l := l)
  have hcl := nsV_length (l := c)
  have hg1 := hlen
  have hg2 := hlen
  have hg3 := hlen
  have hbb := hlen
  refine Gives_in Tryd.func13 rfl Tryd.ntmps13 Tryd.results13 (by kernel_rfl) (by simp) rfl fun Q hQ => ?_
  (have FX := And.intro hlen (And.intro hcl (And.intro hg1 (And.intro hg2 (And.intro hg3 hbb)))); repeat' (first | (refine sx ?_ ?_ <;> intro h <;> first | (exfalso; omega) | skip) | (refine g_op ?_; refine g_call ?_; refine g_args ?_; (first | refine s_fn (hck _) ?_ | refine s_fn (nwithin_c _ _ _ _) ?_) <;> try first | omega | assumption) | refine ny ?_ | refine WA_block ?_ | (refine uK7_13_12 ?_; refine ⟨by kernel_rfl, ?_⟩) | (refine uK7_13_16 ?_; refine ⟨by kernel_rfl, ?_⟩) | ((first | refine grp_cons (fun _ => hck _) ?_ | refine grp_cons (fun _ => nwithin_c _ _ _ _) ?_) <;> try first | omega | assumption) | (refine g_d ?_; refine d_args ?_; (first | refine d_fn (hck _) ?_ | refine d_fn (nwithin_c _ _ _ _) ?_ | refine d_fnQ (fun _ => hck _) ?_ | refine d_fnQ (fun _ => nwithin_c _ _ _ _) ?_) <;> try first | omega | assumption) | (refine g_d ?_; (first | refine d_fnY (hck _) ?_ | refine d_fnY (nwithin_c _ _ _ _) ?_) <;> try first | omega | assumption)))
  all_goals (try (exfalso; omega))
  · have hcc : 1 ≤ c.length ∧ c.length ≤ 60 := by omega
    refine WA_while (σ := Nat) [0, 1, 2, 25, 26, 27] (fun i => [.int .i64 n, .lst (bdV l), .lst (nsV c), .lst (nsV c), .int .i64 c.length, .int .i64 i]) (fun _ => lend m ++ []) (fun i => i ≤ c.length ∧ ∀ j, j < i → inC l c j) (fun i => c.length - i) 0 ⟨Nat.zero_le _, fun j h => absurd h (Nat.not_lt_zero _)⟩ tv_ rfl ?_
    rintro i ⟨hi, hj⟩ L hL
    simp only [zipT]
    clear FX hg1 hg2 hg3 hbb
    rcases Nat.lt_or_ge i c.length with hlt | hge
    · have hg1 := nsV_get hlt
      have hg2 := hlen
      have hg3 := hlen
      have hbb := hlen
      have hin := fun h => ccE_in (l := l) hcc hlt h
      have hnx : inC l c i → ∀ j, j < i + 1 → inC l c j := fun h j hj2 => by
        rcases Nat.lt_or_ge j i with q | q
        · exact hj j q
        · obtain rfl : j = i := by omega
          exact h
      have hdf : inC l c i ↔ 0 ≤ c.getD i 0 ∧ c.getD i 0 < (l.length : Int) := Iff.rfl
      generalize inC l c i = pI at *
      generalize c.getD i 0 = x at *
      (have FX := And.intro hlen (And.intro hcl (And.intro hg1 (And.intro hg2 (And.intro hg3 hbb)))); repeat' (first | (refine sx ?_ ?_ <;> intro h <;> first | (exfalso; omega) | skip) | (refine g_op ?_; refine g_call ?_; refine g_args ?_; (first | refine s_fn (hck _) ?_ | refine s_fn (nwithin_c _ _ _ _) ?_) <;> try first | omega | assumption) | refine ny ?_ | refine WA_block ?_ | (refine uK7_13_12 ?_; refine ⟨by kernel_rfl, ?_⟩) | (refine uK7_13_16 ?_; refine ⟨by kernel_rfl, ?_⟩) | ((first | refine grp_cons (fun _ => hck _) ?_ | refine grp_cons (fun _ => nwithin_c _ _ _ _) ?_) <;> try first | omega | assumption) | (refine g_d ?_; refine d_args ?_; (first | refine d_fn (hck _) ?_ | refine d_fn (nwithin_c _ _ _ _) ?_ | refine d_fnQ (fun _ => hck _) ?_ | refine d_fnQ (fun _ => nwithin_c _ _ _ _) ?_) <;> try first | omega | assumption) | (refine g_d ?_; (first | refine d_fnY (hck _) ?_ | refine d_fnY (nwithin_c _ _ _ _) ?_) <;> try first | omega | assumption)))
      all_goals (try (exfalso; omega))
      · exact next_ hL (i + 1) ⟨by omega, hnx (hdf.2 (by omega))⟩ (by omega)
      · (refine r_es hQ ?_; try with_reducible rfl)
        rw [hin (fun h => by have := hdf.1 h; omega)]
    · obtain rfl : i = c.length := by omega
      have hg1 := hlen
      have hg2 := nsV_get (l := c) (i := c.length - 1) (by omega)
      have hg3 : ((c.length : Int) - 1).toNat = c.length - 1 := by omega
      have hbb := hlen
      have hia := hj
      (have FX := And.intro hlen (And.intro hcl (And.intro hg1 (And.intro hg2 (And.intro hg3 hbb)))); repeat' (first | (refine sx ?_ ?_ <;> intro h <;> first | (exfalso; omega) | skip) | (refine g_op ?_; refine g_call ?_; refine g_args ?_; (first | refine s_fn (hck _) ?_ | refine s_fn (nwithin_c _ _ _ _) ?_) <;> try first | omega | assumption) | refine ny ?_ | refine WA_block ?_ | (refine uK7_13_12 ?_; refine ⟨by kernel_rfl, ?_⟩) | (refine uK7_13_16 ?_; refine ⟨by kernel_rfl, ?_⟩) | ((first | refine grp_cons (fun _ => hck _) ?_ | refine grp_cons (fun _ => nwithin_c _ _ _ _) ?_) <;> try first | omega | assumption) | (refine g_d ?_; refine d_args ?_; (first | refine d_fn (hck _) ?_ | refine d_fn (nwithin_c _ _ _ _) ?_ | refine d_fnQ (fun _ => hck _) ?_ | refine d_fnQ (fun _ => nwithin_c _ _ _ _) ?_) <;> try first | omega | assumption) | (refine g_d ?_; (first | refine d_fnY (hck _) ?_ | refine d_fnY (nwithin_c _ _ _ _) ?_) <;> try first | omega | assumption)))
      all_goals (try (exfalso; omega))
      clear hL FX hg1 hg2 hg3 hbb
      refine WA_while (σ := Nat) [0, 1, 2, 11, 12, 44, 45, 46] (fun i => [.int .i64 n, .lst (bdV l), .lst (nsV c), .int .i64 (sumC l (cN c) i), .int .i64 (c.getD (prvC c i) 0), .lst (nsV c), .int .i64 c.length, .int .i64 i]) (fun _ => lend m ++ []) (fun i => i ≤ c.length ∧ ∀ j, j < i → lnC l c j) (fun i => c.length - i) 0 ⟨Nat.zero_le _, fun j h => absurd h (Nat.not_lt_zero _)⟩ tv_ rfl ?_
      rintro i ⟨hi, hj⟩ L hL
      simp only [zipT]
      have hsb := sumC_bd hm hia i hi
      rcases Nat.lt_or_ge i c.length with hlt | hge
      · have hx := hia i hlt
        have hp : prvC c i < c.length := by unfold prvC; split <;> omega
        have hy := hia (prvC c i) hp
        unfold inC at hx hy
        obtain ⟨u, hu⟩ := Int.eq_ofNat_of_zero_le hx.1
        obtain ⟨v, hv⟩ := Int.eq_ofNat_of_zero_le hy.1
        have hg1 := nsV_get hlt
        rw [hu] at hg1 hx
        rw [hv] at hy
        have hg2 := bdV_get (l := l) (i := u) (by omega)
        have hg3 := bdV_get (l := l) (i := v) (by omega)
        have hbb := hm u (by omega)
        have hln := fun h => ccE_ln (l := l) hcc hia hlt h
        have hnx : lnC l c i → ∀ j, j < i + 1 → lnC l c j := fun h j hj2 => by
          rcases Nat.lt_or_ge j i with q | q
          · exact hj j q
          · obtain rfl : j = i := by omega
            exact h
        have hdf : lnC l c i ↔ (l.getD u bd0).from_ = (l.getD v bd0).to := by unfold lnC; rw [hu, hv]; exact Iff.rfl
        have es : sumC l (cN c) (i + 1) = sumC l (cN c) i + (l.getD u bd0).most := by rw [sumC, cN_get, hu]; rfl
        have ep : c.getD (prvC c (i + 1)) 0 = (u : Int) := by unfold prvC; rw [if_neg (by omega), Nat.add_sub_cancel, hu]
        rw [hv]
        have hL2 := hL (i + 1)
        rw [es, ep] at hL2
        clear hL es ep hu hv
        generalize lnC l c i = pI at *
        generalize sumC l (cN c) i = sm at *
        generalize l.getD u bd0 = b1 at *
        generalize l.getD v bd0 = b2 at *
        (have FX := And.intro hlen (And.intro hcl (And.intro hg1 (And.intro hg2 (And.intro hg3 hbb)))); repeat' (first | (refine sx ?_ ?_ <;> intro h <;> first | (exfalso; omega) | skip) | (refine g_op ?_; refine g_call ?_; refine g_args ?_; (first | refine s_fn (hck _) ?_ | refine s_fn (nwithin_c _ _ _ _) ?_) <;> try first | omega | assumption) | refine ny ?_ | refine WA_block ?_ | (refine uK7_13_12 ?_; refine ⟨by kernel_rfl, ?_⟩) | (refine uK7_13_16 ?_; refine ⟨by kernel_rfl, ?_⟩) | ((first | refine grp_cons (fun _ => hck _) ?_ | refine grp_cons (fun _ => nwithin_c _ _ _ _) ?_) <;> try first | omega | assumption) | (refine g_d ?_; refine d_args ?_; (first | refine d_fn (hck _) ?_ | refine d_fn (nwithin_c _ _ _ _) ?_ | refine d_fnQ (fun _ => hck _) ?_ | refine d_fnQ (fun _ => nwithin_c _ _ _ _) ?_) <;> try first | omega | assumption) | (refine g_d ?_; (first | refine d_fnY (hck _) ?_ | refine d_fnY (nwithin_c _ _ _ _) ?_) <;> try first | omega | assumption)))
        all_goals (try (exfalso; omega))
        · (refine r_es hQ ?_; try with_reducible rfl)
          rw [hln (fun h => by have := hdf.1 h; omega)]
        · exact hL2 _ _ tv_ rfl ⟨by omega, hnx (hdf.2 (by omega))⟩ (by omega)
      · obtain rfl : i = c.length := by omega
        have hps := circ_pos hz hcc.1 hia hj
        have hok := ccE_ok hcc hia hj
        have hg1 := hlen
        have hg2 := hlen
        have hg3 := hlen
        have hbb := hlen
        generalize sumC l (cN c) c.length = sm at *
        (have FX := And.intro hlen (And.intro hcl (And.intro hg1 (And.intro hg2 (And.intro hg3 hbb)))); repeat' (first | (refine sx ?_ ?_ <;> intro h <;> first | (exfalso; omega) | skip) | (refine g_op ?_; refine g_call ?_; refine g_args ?_; (first | refine s_fn (hck _) ?_ | refine s_fn (nwithin_c _ _ _ _) ?_) <;> try first | omega | assumption) | refine ny ?_ | refine WA_block ?_ | (refine uK7_13_12 ?_; refine ⟨by kernel_rfl, ?_⟩) | (refine uK7_13_16 ?_; refine ⟨by kernel_rfl, ?_⟩) | ((first | refine grp_cons (fun _ => hck _) ?_ | refine grp_cons (fun _ => nwithin_c _ _ _ _) ?_) <;> try first | omega | assumption) | (refine g_d ?_; refine d_args ?_; (first | refine d_fn (hck _) ?_ | refine d_fn (nwithin_c _ _ _ _) ?_ | refine d_fnQ (fun _ => hck _) ?_ | refine d_fnQ (fun _ => nwithin_c _ _ _ _) ?_) <;> try first | omega | assumption) | (refine g_d ?_; (first | refine d_fnY (hck _) ?_ | refine d_fnY (nwithin_c _ _ _ _) ?_) <;> try first | omega | assumption)))
        all_goals (try (exfalso; omega))
        · (refine r_es hQ ?_; try with_reducible rfl)
          rw [hok]
  · (refine r_es hQ ?_; try with_reducible rfl)
    rw [ccE_len (by omega)]
theorem uK7_15_6 {N : Nat} {l : List Oper} {t : List (Nat × V)} {m : Mem} {Q : Exit → List (Nat × V) → Mem → Prop} (h : RgN Tryd.prog N l t m Q (fun i => if i == 3 || i == 7 then .q else .p) [.one 0, .one 1, .one 2, .one 3, .one 4, .one 5, .one 6, .one 7, .one 8]) : WA Tryd.prog N (.region 6 l.toArray true) t m Q := d_rgN h
theorem bints_c (a b : List Int) (ha : a.length ≤ 100000) (hb : b.length ≤ 100000) (m : Mem) : Gives Tryd.prog 15 [.lst (nsV a), .lst (nsV b)] m (.bool (decide (a = b))) := by
  have hla := nsV_length (l := a)
  have hlb := nsV_length (l := b)
  have hga := hla
  have hgb := hlb
  refine Gives_in Tryd.func15 rfl Tryd.ntmps15 Tryd.results15 (by kernel_rfl) (by simp) rfl fun Q hQ => ?_
  (have FX := And.intro hla (And.intro hlb (And.intro hga hgb)); repeat' (first | (refine sx ?_ ?_ <;> intro h <;> first | (exfalso; omega) | skip) | refine ny ?_ | refine WA_block ?_ | (refine uK7_15_6 ?_; refine ⟨by kernel_rfl, ?_⟩)))
  · (refine r_es hQ ?_; try with_reducible rfl)
    exact congrArg V.bool (decide_eq_false (by rintro rfl; omega)).symm
  · have hl : a.length = b.length := by omega
    refine WA_while (σ := Nat) [0, 1, 5] (fun i => [.lst (nsV a), .lst (nsV b), .int .i64 i]) (fun _ => lend m ++ []) (fun i => i ≤ a.length ∧ ∀ j, j < i → a.getD j 0 = b.getD j 0) (fun i => a.length - i) 0 ⟨Nat.zero_le _, fun j h => absurd h (Nat.not_lt_zero _)⟩ tv_ rfl ?_
    rintro i ⟨hi, hj⟩ L hL
    simp only [zipT]
    clear FX hga hgb
    rcases Nat.lt_or_ge i a.length with hlt | hge
    · have hga := nsV_get hlt
      have hgb := nsV_get (l := b) (i := i) (by omega)
      have hnx : a.getD i 0 = b.getD i 0 → ∀ j, j < i + 1 → a.getD j 0 = b.getD j 0 := fun h j hj2 => by
        rcases Nat.lt_or_ge j i with q | q
        · exact hj j q
        · obtain rfl : j = i := by omega
          exact h
      have hne : a.getD i 0 ≠ b.getD i 0 → a ≠ b := fun h e => h (by rw [e])
      generalize a.getD i 0 = x at *
      generalize b.getD i 0 = y at *
      (have FX := And.intro hla (And.intro hlb (And.intro hga hgb)); repeat' (first | (refine sx ?_ ?_ <;> intro h <;> first | (exfalso; omega) | skip) | refine ny ?_ | refine WA_block ?_ | (refine uK7_15_6 ?_; refine ⟨by kernel_rfl, ?_⟩)))
      all_goals (try (exfalso; omega))
      · (refine r_es hQ ?_; try with_reducible rfl)
        exact congrArg V.bool (decide_eq_false (hne (by omega))).symm
      · exact next_ hL (i + 1) ⟨by omega, hnx (by omega)⟩ (by omega)
    · obtain rfl : i = a.length := by omega
      have hga := hla
      have hgb := hlb
      (have FX := And.intro hla (And.intro hlb (And.intro hga hgb)); repeat' (first | (refine sx ?_ ?_ <;> intro h <;> first | (exfalso; omega) | skip) | refine ny ?_ | refine WA_block ?_ | (refine uK7_15_6 ?_; refine ⟨by kernel_rfl, ?_⟩)))
      all_goals (try (exfalso; omega))
      (refine r_es hQ ?_; try with_reducible rfl)
      refine congrArg V.bool (decide_eq_true ?_).symm
      refine List.ext_getElem hl fun k h1 h2 => ?_
      have := hj k h1
      simpa [List.getD_eq_getElem?_getD, List.getElem?_eq_getElem h1, List.getElem?_eq_getElem h2] using this
end Go.Proofs.YtdkkhfkplpopdaaDoor
