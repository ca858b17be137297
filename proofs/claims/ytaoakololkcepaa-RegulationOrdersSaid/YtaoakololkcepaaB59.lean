/- plans whose passes are turned; pass by pass: the plain reading -/
import Derived.Test.YtaoakololkcepaaBQ
import Derived.Test.YtaoakololkcepaaBP
set_option linter.unusedSimpArgs false
set_option linter.unusedVariables false
namespace Go.Proofs.Ytaoakololkcepaa
open Go.RowKit
/-- what a pass adds at j -/
def ctr (p : List StR) (j : Nat) : Nat → Int
  | 0 => 0
  | k + 1 => ctr p j k + if (p.getD k stz).ad.toNat = j then (p.getD k stz).n else 0
theorem gt_set {s : List Int} {a j : Nat} {x : Int} (hj : j < s.length) : (s.set a x).getD j 0 = if a = j then x else s.getD j 0 := by
  rw [List.getD_eq_getElem?_getD, List.getElem?_set, List.getD_eq_getElem?_getD]
  by_cases h : a = j
  · subst h; simp [hj]
  · simp [h]
theorem addS_get (p : List StR) (s : List Int) {j : Nat} (hj : j < s.length) : ∀ k, (addS p s k).getD j 0 = s.getD j 0 + ctr p j k
  | 0 => by simp [addS, ctr]
  | k + 1 => by
    rw [addS, gt_set (by rw [addS_length]; exact hj), addS_get p s hj k]
    rw [ctr]
    by_cases h : (p.getD k stz).ad.toNat = j
    · rw [if_pos h, if_pos h, h, addS_get p s hj k]; omega
    · rw [if_neg h, if_neg h]; omega
def sumZ (f : List StR → Int) : List (List StR) → Int
  | [] => 0
  | p :: r => f p + sumZ f r
theorem sumZ_app (f : List StR → Int) : ∀ a b, sumZ f (a ++ b) = sumZ f a + sumZ f b
  | [], b => by simp [sumZ]
  | p :: r, b => by rw [List.cons_append, sumZ, sumZ, sumZ_app f r b]; omega
theorem sumZ_rev (f : List StR → Int) : ∀ a, sumZ f a.reverse = sumZ f a
  | [] => rfl
  | p :: r => by rw [List.reverse_cons, sumZ_app, sumZ_rev f r]; simp only [sumZ]; omega
theorem take_snoc {l : List (List StR)} {k : Nat} (h : k < l.length) : l.take (k + 1) = l.take k ++ [l.getD k []] := by
  rw [List.take_succ_eq_append_getElem h, List.getD_eq_getElem?_getD, List.getElem?_eq_getElem h]; rfl
theorem smK_get (b : BnR) (pl : List (List StR)) {j : Nat} (hj : j < b.ads.length) : ∀ k, k ≤ pl.length → (smK b pl k).getD j 0 = sumZ (fun p => ctr p j p.length) (pl.take k)
  | 0, _ => by
    rw [smK, List.getD_eq_getElem?_getD, List.getElem?_replicate, if_pos hj]; rfl
  | k + 1, hk => by
    rw [smK, addS_get _ _ (by rw [smK_length]; exact hj), smK_get b pl hj k (by omega), take_snoc (by omega), sumZ_app]
    simp only [sumZ]; omega
theorem ext_int {l l' : List Int} (h : l.length = l'.length) (hg : ∀ j, j < l.length → l.getD j 0 = l'.getD j 0) : l = l' := by
  refine List.ext_getElem h fun i h1 h2 => ?_
  have := hg i h1
  rwa [List.getD_eq_getElem?_getD, List.getD_eq_getElem?_getD, List.getElem?_eq_getElem h1, List.getElem?_eq_getElem h2] at this
theorem smK_rev (b : BnR) (pl : List (List StR)) : smK b pl.reverse pl.length = smK b pl pl.length := by
  refine ext_int (by rw [smK_length, smK_length]) fun j hj => ?_
  rw [smK_length] at hj
  rw [smK_get b _ hj _ (by simp), smK_get b _ hj _ (Nat.le_refl _), List.take_of_length_le (by simp), List.take_of_length_le (Nat.le_refl _), sumZ_rev]
/-- a pass's steps, each set at its place -/
def setP (p : List StR) (n : Nat) : Nat → List Int
  | 0 => List.replicate n 0
  | k + 1 => (setP p n k).set (p.getD k stz).ad.toNat (p.getD k stz).n
theorem setP_length (p : List StR) (n : Nat) : ∀ k, (setP p n k).length = n
  | 0 => by simp [setP]
  | k + 1 => by rw [setP, List.length_set, setP_length p n k]
theorem ctr_zero {p : List StR} {j : Nat} : ∀ {k : Nat}, (∀ i, i < k → (p.getD i stz).ad.toNat ≠ j) → ctr p j k = 0
  | 0, _ => rfl
  | k + 1, h => by
    rw [ctr, ctr_zero (fun i hi => h i (by omega)), if_neg (h k (by omega))]; rfl
theorem psOk_ne {ads : List AdR} {p : List StR} (h : psOk ads p) {i k : Nat} (hi : i < k) (hk : k < p.length) : (p.getD i stz).ad.toNat ≠ (p.getD k stz).ad.toNat := by
  intro e
  have h1 := h.2 i (by omega)
  have h2 := h.2 k hk
  unfold psErrAt at h1 h2
  split at h1
  · cases h1
  · rename_i a1
    split at h2
    · cases h2
    · rename_i a2
      split at h2
      · cases h2
      · rename_i a3
        exact a3 (bef_yes (by omega) hi (by omega))
theorem setP_get {ads : List AdR} {p : List StR} (h : psOk ads p) (n : Nat) {j : Nat} (hj : j < n) : ∀ k, k ≤ p.length → (setP p n k).getD j 0 = ctr p j k
  | 0, _ => by rw [setP, List.getD_eq_getElem?_getD, List.getElem?_replicate, if_pos hj]; rfl
  | k + 1, hk => by
    rw [setP, gt_set (by rw [setP_length]; exact hj), setP_get h n hj k (by omega), ctr]
    by_cases e : (p.getD k stz).ad.toNat = j
    · rw [if_pos e, if_pos e, ctr_zero (fun i hi => by rw [← e]; exact psOk_ne h hi (by omega))]; omega
    · rw [if_neg e, if_neg e]; omega
theorem smK_plus {b : BnR} {pl : List (List StR)} {k : Nat} (h : psOk b.ads (pl.getD k [])) : plusL (smK b pl k) (setP (pl.getD k []) b.ads.length (pl.getD k []).length) = smK b pl (k + 1) := by
  refine ext_int (by simp [plusL, smK_length]) fun j hj => ?_
  have hj : j < b.ads.length := by simpa [plusL, smK_length] using hj
  rw [plusL_get (by rw [smK_length]; exact hj), setP_get h _ hj _ (Nat.le_refl _), smK, addS_get _ _ (by rw [smK_length]; exact hj)]
theorem valK_zero (b : BnR) (i : Nat) : ∀ k, valK b (List.replicate b.ads.length 0) i k = valK b (List.replicate b.ads.length 0) i 0
  | 0 => rfl
  | k + 1 => by
    have e : (List.replicate b.ads.length (0 : Int)).getD k 0 = 0 := by
      rw [List.getD_eq_getElem?_getD, List.getElem?_replicate]; split <;> rfl
    have := valK_zero b i k
    simp only [valK] at this ⊢
    rw [e, this]; simp
theorem valP_zero (b : BnR) (i : Nat) : valP b (List.replicate b.ads.length 0) i = (b.ms.getD i msz).val := by
  unfold valP
  rw [valK_zero]; rfl
theorem ap_zero (b : BnR) : apB b (List.replicate b.ads.length 0) = b := by
  have e : ∀ k, (List.replicate b.ads.length (0 : Int)).getD k 0 = 0 := fun k => by
    rw [List.getD_eq_getElem?_getD, List.getElem?_replicate]; split <;> rfl
  obtain ⟨ms, ads⟩ := b
  unfold apB
  congr 1
  · refine List.ext_getElem (by simp) fun i h1 h2 => ?_
    have h3 : ms.getD i msz = ms[i] := by rw [List.getD_eq_getElem?_getD, List.getElem?_eq_getElem h2]; rfl
    have := valP_zero ⟨ms, ads⟩ i
    simp only [List.getElem_map, List.getElem_range, apM]
    dsimp only at this h3 ⊢
    rw [this, h3]
  · refine List.ext_getElem (by simp) fun i h1 h2 => ?_
    have h3 : ads.getD i adz = ads[i] := by rw [List.getD_eq_getElem?_getD, List.getElem?_eq_getElem h2]; rfl
    have := e i
    simp only [List.getElem_map, List.getElem_range, apA]
    dsimp only at this h3 ⊢
    rw [this, h3]; simp
theorem ap_okz {b : BnR} (hb : Bnd b) : apOk b (List.replicate b.ads.length 0) := by
  refine ⟨fun i hi => ?_, fun i hi => ?_⟩
  · have := hb.va i hi
    unfold apMok
    rw [valP_zero]; exact this.1
  · have e : (List.replicate b.ads.length (0 : Int)).getD i 0 = 0 := by
      rw [List.getD_eq_getElem?_getD, List.getElem?_replicate]; split <;> rfl
    have h1 := hb.le i hi
    have h2 := hb.mo i hi
    unfold apAok
    rw [e]; omega
theorem ap_bl {b : BnR} (hb : Bl b) (l : List Int) : Bl (apB b l) := by
  refine ⟨by rw [apB_ms]; exact hb.nm, by rw [apB_ads]; exact hb.na, fun i hi => ?_, fun i hi => ?_, fun i hi => ?_, fun i hi => ?_⟩
  · rw [apB_ms] at hi; rw [apB_m hi]; exact hb.mn i hi
  all_goals (rw [apB_ads] at hi; rw [apB_a hi])
  · exact hb.an i hi
  · exact hb.ae i hi
  · exact hb.aa i hi
/-- pass by pass -/
theorem pass_ap {b : BnR} (h0 : bnErr b = 0) {pl : List (List StR)} {i : Nat} (hi : stOk b.ads (smK b pl i)) (ha : apOk b (smK b pl i)) (hp : psOk b.ads (pl.getD i [])) (hs : stOk b.ads (smK b pl (i + 1))) :
    bsErr (apB b (smK b pl i)) (setP (pl.getD i []) b.ads.length (pl.getD i []).length) = 0 ∧
    (apOk b (smK b pl (i + 1)) → apE (apB b (smK b pl i)) (setP (pl.getD i []) b.ads.length (pl.getD i []).length) = 0 ∧ apR (apB b (smK b pl i)) (setP (pl.getD i []) b.ads.length (pl.getD i []).length) = apB b (smK b pl (i + 1))) ∧
    (¬ apOk b (smK b pl (i + 1)) → apE (apB b (smK b pl i)) (setP (pl.getD i []) b.ads.length (pl.getD i []).length) = 2) := by
  have hl := smK_length b pl i
  have e := smK_plus hp
  have hr := ap_right h0 hi ha
  have ho := ap_ok (b := b) (l := smK b pl i) (m := setP (pl.getD i []) b.ads.length (pl.getD i []).length) hl
  have hst := ap_st (b := b) (l := smK b pl i) (m := setP (pl.getD i []) b.ads.length (pl.getD i []).length) hl
  have hap := ap_ap (b := b) (l := smK b pl i) (m := setP (pl.getD i []) b.ads.length (pl.getD i []).length) hl
  rw [e] at ho hst hap
  refine ⟨?_, fun h => ?_, fun h => ?_⟩
  · unfold bsErr
    rw [if_neg (by omega)]
    exact stErr_iff.2 (hst.2 ⟨setP_length _ _ _, hs⟩)
  · unfold apE apR
    rw [if_pos (ho.2 h), if_pos (ho.2 h)]
    exact ⟨rfl, hap⟩
  · unfold apE
    rw [if_neg (fun g => h (ho.1 g))]
/-- turned -/
def tkR (l : List (List StR)) (j : Nat) : List (List StR) := (l.drop j).reverse
theorem tkR_all (l : List (List StR)) : tkR l l.length = [] := by simp [tkR]
theorem tkR_zero (l : List (List StR)) : tkR l 0 = l.reverse := by simp [tkR]
theorem tkR_succ {l : List (List StR)} {j : Nat} (h : j < l.length) : tkR l j = tkR l (j + 1) ++ [l.getD j []] := by
  unfold tkR
  rw [List.drop_eq_getElem_cons h, List.reverse_cons, List.getD_eq_getElem?_getD, List.getElem?_eq_getElem h]; rfl
theorem tkR_len (l : List (List StR)) (j : Nat) : (tkR l j).length = l.length - j := by simp [tkR]
end Go.Proofs.Ytaoakololkcepaa
