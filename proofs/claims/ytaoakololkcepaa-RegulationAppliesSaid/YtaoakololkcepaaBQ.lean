/- the bench behind steps: the plain reading -/
import Derived.Test.YtaoakololkcepaaBP
set_option linter.unusedSimpArgs false
set_option linter.unusedVariables false
namespace Go.Proofs.Ytaoakololkcepaa
open Go.RowKit
theorem mix_set {α : Type} (f g : Nat → α) (n k : Nat) : ((List.range n).map fun i => if i < k then f i else g i).set k (f k) = (List.range n).map fun i => if i < k + 1 then f i else g i := by
  refine List.ext_getElem (by simp) fun i h1 h2 => ?_
  rw [List.getElem_set]
  simp only [List.getElem_map, List.getElem_range]
  by_cases h : k = i
  · subst h; rw [if_pos rfl, if_pos (by omega)]
  · rw [if_neg h]
    by_cases h3 : i < k
    · rw [if_pos h3, if_pos (by omega)]
    · rw [if_neg h3, if_neg (by omega)]
theorem mix_all {α : Type} (f g : Nat → α) (n : Nat) : ((List.range n).map fun i => if i < n then f i else g i) = (List.range n).map f := by
  refine List.map_congr_left fun i hi => ?_
  rw [if_pos (List.mem_range.1 hi)]
theorem mix_zero {α : Type} (f : Nat → α) (l : List α) (d : α) : ((List.range l.length).map fun i => if i < 0 then f i else l.getD i d) = l := by
  refine List.ext_getElem (by simp) fun i h1 h2 => ?_
  simp only [List.getElem_map, List.getElem_range, Nat.not_lt_zero, if_false]
  rw [List.getD_eq_getElem?_getD, List.getElem?_eq_getElem h2]; rfl
def apM (b : BnR) (l : List Int) (i : Nat) : MsR := ⟨(b.ms.getD i msz).name, valP b l i, (b.ms.getD i msz).low, (b.ms.getD i msz).high⟩
def apA (b : BnR) (l : List Int) (i : Nat) : AdR := ⟨(b.ads.getD i adz).name, (b.ads.getD i adz).effs, (b.ads.getD i adz).least - l.getD i 0, (b.ads.getD i adz).most - l.getD i 0, (b.ads.getD i adz).pass, (b.ads.getD i adz).after⟩
/-- the bench behind steps -/
def apB (b : BnR) (l : List Int) : BnR := ⟨(List.range b.ms.length).map (apM b l), (List.range b.ads.length).map (apA b l)⟩
def apMok (b : BnR) (l : List Int) (i : Nat) : Prop := -100000 ≤ valP b l i ∧ valP b l i ≤ 100000
def apAok (b : BnR) (l : List Int) (i : Nat) : Prop := -1000 ≤ (b.ads.getD i adz).least - l.getD i 0 ∧ (b.ads.getD i adz).most - l.getD i 0 ≤ 1000
instance (b : BnR) (l : List Int) (i : Nat) : Decidable (apMok b l i) := inferInstanceAs (Decidable (_ ∧ _))
instance (b : BnR) (l : List Int) (i : Nat) : Decidable (apAok b l i) := inferInstanceAs (Decidable (_ ∧ _))
def apOk (b : BnR) (l : List Int) : Prop := (∀ i, i < b.ms.length → apMok b l i) ∧ ∀ i, i < b.ads.length → apAok b l i
instance (b : BnR) (l : List Int) : Decidable (apOk b l) := inferInstanceAs (Decidable (_ ∧ _))
def apE (b : BnR) (l : List Int) : Int := if apOk b l then 0 else 2
def apR (b : BnR) (l : List Int) : BnR := if apOk b l then apB b l else ⟨[], []⟩
theorem apB_ms (b : BnR) (l : List Int) : (apB b l).ms.length = b.ms.length := by simp [apB]
theorem apB_ads (b : BnR) (l : List Int) : (apB b l).ads.length = b.ads.length := by simp [apB]
theorem apB_m {b : BnR} {l : List Int} {i : Nat} (h : i < b.ms.length) : (apB b l).ms.getD i msz = apM b l i := rmap_get _ _ h
theorem apB_a {b : BnR} {l : List Int} {i : Nat} (h : i < b.ads.length) : (apB b l).ads.getD i adz = apA b l i := rmap_get _ _ h
/-! what depends on names alone -/
theorem map_eq_of {α β : Type} (g : α → β) {l l' : List α} (d : α) (hl : l.length = l'.length) (h : ∀ i, i < l.length → g (l.getD i d) = g (l'.getD i d)) : l.map g = l'.map g := by
  refine List.ext_getElem (by simp [hl]) fun i h1 h2 => ?_
  simp only [List.length_map] at h1 h2
  have := h i h1
  rw [List.getD_eq_getElem?_getD, List.getElem?_eq_getElem h1, List.getD_eq_getElem?_getD, List.getElem?_eq_getElem h2] at this
  simpa using this
theorem apB_mn (b : BnR) (l : List Int) : (apB b l).ms.map MsR.name = b.ms.map MsR.name :=
  map_eq_of _ msz (apB_ms b l) fun i hi => by rw [apB_m (by rw [apB_ms] at hi; exact hi)]; rfl
theorem apB_an (b : BnR) (l : List Int) : (apB b l).ads.map (fun a => (a.name, a.after)) = b.ads.map (fun a => (a.name, a.after)) :=
  map_eq_of _ adz (apB_ads b l) fun i hi => by rw [apB_a (by rw [apB_ads] at hi; exact hi)]; rfl
theorem an_names {ads ads' : List AdR} (h : ads'.map (fun a => (a.name, a.after)) = ads.map (fun a => (a.name, a.after))) : ads'.map AdR.name = ads.map AdR.name := by
  have := congrArg (List.map Prod.fst) h
  simpa [List.map_map, Function.comp_def] using this
theorem fdx_isM (s : Txt) (l : List MsR) : fdx (isM s) l = fdx (isT s) (l.map MsR.name) := (fdx_map MsR.name (isT s) l).symm
theorem fdx_isA (s : Txt) (l : List AdR) : fdx (isA s) l = fdx (isT s) (l.map AdR.name) := (fdx_map AdR.name (isT s) l).symm
theorem isM_cg {l l' : List MsR} (h : l'.map MsR.name = l.map MsR.name) (s : Txt) : fdx (isM s) l' = fdx (isM s) l := by rw [fdx_isM, fdx_isM, h]
theorem isA_cg {l l' : List AdR} (h : l'.map AdR.name = l.map AdR.name) (s : Txt) : fdx (isA s) l' = fdx (isA s) l := by rw [fdx_isA, fdx_isA, h]
theorem fdx_rdy (ns : List Txt) (l : List AdR) : fdx (rdyA ns) l = fdx (fun p : Txt × List Txt => !hasT ns p.1 && p.2.all (hasT ns)) (l.map fun a => (a.name, a.after)) := (fdx_map (fun a : AdR => (a.name, a.after)) (fun p : Txt × List Txt => !hasT ns p.1 && p.2.all (hasT ns)) l).symm
theorem adN_cg {ads ads' : List AdR} (h : ads'.map (fun a => (a.name, a.after)) = ads.map (fun a => (a.name, a.after))) (i : Nat) (hi : i < ads.length) : adN ads' i = adN ads i := by
  have h1 := an_names h
  have hl : ads'.length = ads.length := by have := congrArg List.length h1; simpa using this
  have := congrArg (fun l => l.getD i []) h1
  unfold adN
  simpa [List.getD_eq_getElem?_getD, List.getElem?_eq_getElem hi, List.getElem?_eq_getElem (show i < ads'.length by omega)] using this
theorem ordF_cg {ads ads' : List AdR} (h : ads'.map (fun a => (a.name, a.after)) = ads.map (fun a => (a.name, a.after))) : ∀ (n : Nat) (out : List Nat), (∀ x ∈ out, x < ads.length) → ordF ads' n out = ordF ads n out
  | 0, _, _ => rfl
  | n + 1, out, ho => by
    have e : outN ads' out = outN ads out := List.map_congr_left fun x hx => adN_cg h x (ho x hx)
    have e2 : nxtI ads' out = nxtI ads out := by
      unfold nxtI
      rw [e, fdx_rdy, fdx_rdy, h]
    unfold ordF
    rw [e2]
    split
    · rfl
    · rename_i hn
      refine ordF_cg h n _ fun x hx => ?_
      rcases List.mem_append.1 hx with hx | hx
      · exact ho x hx
      · rw [List.mem_singleton.1 hx]
        have := (fdx_bd (rdyA (outN ads out)) ads).2
        have e : nxtI ads out = fdx (rdyA (outN ads out)) ads := rfl
        omega
theorem ordB_cg {ads ads' : List AdR} (h : ads'.map (fun a => (a.name, a.after)) = ads.map (fun a => (a.name, a.after))) : ordB ads' = ordB ads := by
  have hl : ads'.length = ads.length := by have := congrArg List.length h; simpa using this
  unfold ordB
  rw [hl]
  exact ordF_cg h _ _ (fun x hx => by cases hx)
theorem ap_ord (b : BnR) (l : List Int) : ordB (apB b l).ads = ordB b.ads := ordB_cg (apB_an b l)
theorem efErr_cg {mm mm' : List MsR} (h : mm'.map MsR.name = mm.map MsR.name) (l : List EfR) : efErr mm' l = efErr mm l := by
  unfold efErr
  have : efErrAt mm' l = efErrAt mm l := by
    funext i
    unfold efErrAt
    rw [isM_cg h]
  rw [this]
theorem afErr_cg {ads ads' : List AdR} (h : ads'.map AdR.name = ads.map AdR.name) (l : List Txt) : afErr ads' l = afErr ads l := by
  unfold afErr
  have : afErrAt ads' l = afErrAt ads l := by
    funext i
    unfold afErrAt
    rw [isA_cg h]
  rw [this]
theorem ap_by (b : BnR) (l : List Int) {k i : Nat} (hk : k < b.ads.length) (hi : i < b.ms.length) : byN (apB b l) k i = byN b k i := by
  unfold byN
  rw [apB_a hk, apB_m hi]; rfl
/-- the bench behind steps is right -/
theorem ap_right {b : BnR} (h0 : bnErr b = 0) {l : List Int} (hl : stOk b.ads l) (ha : apOk b l) : bnErr (apB b l) = 0 := by
  have hk := bn_ok h0
  have hm : mssErr (apB b l).ms = 0 := by
    unfold mssErr
    rw [apB_ms, if_neg (by have := hk.fm; omega)]
    refine fE_zero.2 fun i hi => ?_
    have h1 := hk.me i hi
    unfold msErrAt
    rw [apB_m hi]
    unfold msErr at h1 ⊢
    have e : fdx (isM (apM b l i).name) ((apB b l).ms.take i) = fdx (isM (b.ms.getD i msz).name) (b.ms.take i) := by
      refine isM_cg (l' := (apB b l).ms.take i) ?_ _
      rw [List.map_take, List.map_take, apB_mn]
    rw [e]
    have hv := ha.1 i hi
    unfold apMok at hv
    have en : (apM b l i).name = (b.ms.getD i msz).name := rfl
    have ev : (apM b l i).val = valP b l i := rfl
    have el : (apM b l i).low = (b.ms.getD i msz).low := rfl
    have eh : (apM b l i).high = (b.ms.getD i msz).high := rfl
    rw [en, ev, el, eh]
    by_cases g1 : nameP (b.ms.getD i msz).name
    · rw [if_neg (fun h => h g1)] at h1 ⊢
      by_cases g2 : 0 ≤ fdx (isM (b.ms.getD i msz).name) (b.ms.take i)
      · rw [if_pos g2] at h1; omega
      · rw [if_neg g2] at h1 ⊢
        by_cases g3 : ¬ (-100000 ≤ (b.ms.getD i msz).val ∧ (b.ms.getD i msz).val ≤ 100000) ∨ ¬ (-100000 ≤ (b.ms.getD i msz).low ∧ (b.ms.getD i msz).low ≤ 100000) ∨ ¬ (-100000 ≤ (b.ms.getD i msz).high ∧ (b.ms.getD i msz).high ≤ 100000)
        · rw [if_pos g3] at h1; omega
        · rw [if_neg g3] at h1
          rw [if_neg (by omega)]
          exact h1
    · rw [if_pos g1] at h1; omega
  have hd : fE (adErr (apB b l).ms (apB b l).ads) (apB b l).ads.length = 0 := by
    refine fE_zero.2 fun i hi => ?_
    rw [apB_ads] at hi
    have h1 := hk.ae i hi
    unfold adErr at h1 ⊢
    have ea := an_names (apB_an b l)
    have e : fdx (isA ((apB b l).ads.getD i adz).name) ((apB b l).ads.take i) = fdx (isA (b.ads.getD i adz).name) (b.ads.take i) := by
      rw [apB_a hi]
      refine isA_cg (l' := (apB b l).ads.take i) ?_ _
      rw [List.map_take, List.map_take, ea]
    rw [e, efErr_cg (apB_mn b l), afErr_cg ea, apB_a hi]
    have hv := ha.2 i hi
    have hs := hl.2 i hi
    unfold apAok at hv
    have en : (apA b l i).name = (b.ads.getD i adz).name := rfl
    have ee : (apA b l i).effs = (b.ads.getD i adz).effs := rfl
    have el : (apA b l i).least = (b.ads.getD i adz).least - l.getD i 0 := rfl
    have em : (apA b l i).most = (b.ads.getD i adz).most - l.getD i 0 := rfl
    have ep : (apA b l i).pass = (b.ads.getD i adz).pass := rfl
    have ef : (apA b l i).after = (b.ads.getD i adz).after := rfl
    rw [en, ee, el, em, ep, ef]
    by_cases g1 : nameP (b.ads.getD i adz).name
    · rw [if_neg (fun h => h g1)] at h1 ⊢
      by_cases g2 : 0 ≤ fdx (isA (b.ads.getD i adz).name) (b.ads.take i)
      · rw [if_pos g2] at h1; omega
      · rw [if_neg g2] at h1 ⊢
        by_cases g3 : efErr b.ms (b.ads.getD i adz).effs ≠ 0
        · rw [if_pos g3] at h1; omega
        · rw [if_neg g3] at h1 ⊢
          by_cases g4 : ¬ (-1000 ≤ (b.ads.getD i adz).least ∧ (b.ads.getD i adz).least ≤ 0) ∨ ¬ (0 ≤ (b.ads.getD i adz).most ∧ (b.ads.getD i adz).most ≤ 1000) ∨ ¬ (1 ≤ (b.ads.getD i adz).pass ∧ (b.ads.getD i adz).pass ≤ 1000)
          · rw [if_pos g4] at h1; omega
          · rw [if_neg g4] at h1
            rw [if_neg (by omega)]
            exact h1
    · rw [if_pos g1] at h1; omega
  unfold bnErr
  rw [hm, if_neg (by decide), apB_ads, if_neg (by have := hk.fa; omega)]
  rw [apB_ads] at hd
  rw [hd, if_neg (by decide), ap_ord, if_neg (by have := hk.cy; omega)]
/-! steps behind steps -/
def plusL (l m : List Int) : List Int := (List.range l.length).map fun i => l.getD i 0 + m.getD i 0
theorem plusL_get {l m : List Int} {i : Nat} (h : i < l.length) : (plusL l m).getD i 0 = l.getD i 0 + m.getD i 0 := rmap_get _ _ h
theorem ap_val {b : BnR} {l m : List Int} (hl : l.length = b.ads.length) {i : Nat} (hi : i < b.ms.length) : valP (apB b l) m i = valP b (plusL l m) i := by
  have h : ∀ k, k ≤ b.ads.length → valK (apB b l) m i k + valK b l i k = valK b (plusL l m) i k + valP b l i := by
    intro k
    induction k with
    | zero =>
      intro _
      simp only [valK]
      rw [apB_m hi]
      show valP b l i + _ = _
      omega
    | succ k ih =>
      intro hk
      have := ih (by omega)
      simp only [valK]
      rw [ap_by b l (by omega) hi, plusL_get (by omega), Int.add_mul]
      omega
  have := h b.ads.length (Nat.le_refl _)
  unfold valP at this ⊢
  rw [apB_ads]
  omega
theorem ap_st {b : BnR} {l m : List Int} (hl : l.length = b.ads.length) : stOk (apB b l).ads m ↔ (m.length = b.ads.length ∧ stOk b.ads (plusL l m)) := by
  unfold stOk
  rw [apB_ads]
  constructor
  · rintro ⟨h1, h2⟩
    refine ⟨h1, by simp [plusL, hl], fun i hi => ?_⟩
    have := h2 i hi
    rw [apB_a hi] at this
    rw [plusL_get (by omega)]
    simp only [apA] at this
    omega
  · rintro ⟨h1, h2, h3⟩
    refine ⟨h1, fun i hi => ?_⟩
    have := h3 i hi
    rw [plusL_get (by omega)] at this
    rw [apB_a hi]
    simp only [apA]
    omega
theorem ap_m {b : BnR} {l m : List Int} (hl : l.length = b.ads.length) {i : Nat} (hi : i < b.ms.length) : apM (apB b l) m i = apM b (plusL l m) i := by
  have h1 := ap_val (m := m) hl hi
  have h2 := apB_m (l := l) hi
  unfold apM at h2 ⊢
  rw [h1, h2]
theorem ap_a {b : BnR} {l m : List Int} (hl : l.length = b.ads.length) {i : Nat} (hi : i < b.ads.length) : apA (apB b l) m i = apA b (plusL l m) i := by
  have h2 := apB_a (l := l) hi
  unfold apA at h2 ⊢
  rw [h2, plusL_get (by omega), Int.sub_sub, Int.sub_sub]
theorem ap_ap {b : BnR} {l m : List Int} (hl : l.length = b.ads.length) : apB (apB b l) m = apB b (plusL l m) := by
  show BnR.mk ((List.range (apB b l).ms.length).map (apM (apB b l) m)) ((List.range (apB b l).ads.length).map (apA (apB b l) m)) = BnR.mk ((List.range b.ms.length).map (apM b (plusL l m))) ((List.range b.ads.length).map (apA b (plusL l m)))
  rw [apB_ms, apB_ads, List.map_congr_left fun i hi => ap_m hl (List.mem_range.1 hi), List.map_congr_left fun i hi => ap_a hl (List.mem_range.1 hi)]
theorem ap_ok {b : BnR} {l m : List Int} (hl : l.length = b.ads.length) : apOk (apB b l) m ↔ apOk b (plusL l m) := by
  unfold apOk
  rw [apB_ms, apB_ads]
  refine and_congr ?_ ?_
  · refine forall_congr' fun i => forall_congr' fun hi => ?_
    unfold apMok
    rw [ap_val hl hi]
  · refine forall_congr' fun i => forall_congr' fun hi => ?_
    unfold apAok
    rw [apB_a hi, plusL_get (by omega)]
    simp only [apA]
    constructor <;> rintro ⟨h1, h2⟩ <;> exact ⟨by omega, by omega⟩
theorem ap_apR {b : BnR} {l m : List Int} (hl : l.length = b.ads.length) : apR (apB b l) m = apR b (plusL l m) ∧ apE (apB b l) m = apE b (plusL l m) := by
  unfold apR apE
  by_cases h : apOk b (plusL l m)
  · rw [if_pos h, if_pos h, if_pos ((ap_ok hl).2 h), if_pos ((ap_ok hl).2 h), ap_ap hl]; exact ⟨rfl, rfl⟩
  · rw [if_neg h, if_neg h, if_neg (fun g => h ((ap_ok hl).1 g)), if_neg (fun g => h ((ap_ok hl).1 g))]; exact ⟨rfl, rfl⟩
end Go.Proofs.Ytaoakololkcepaa
