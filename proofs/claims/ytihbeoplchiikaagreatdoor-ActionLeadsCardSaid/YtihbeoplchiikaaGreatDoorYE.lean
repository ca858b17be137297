import Derived.Test.YtihbeoplchiikaaGreatDoorGA
import Derived.Test.YtihbeoplchiikaaGreatDoorGC
import Derived.Test.YtihbeoplchiikaaGreatDoorC12
set_option linter.unusedSimpArgs false
set_option linter.unusedVariables false
/- actions: the plain reading -/
namespace Go.Proofs.YtihbeoplchiikaaGreatDoor
open Go.RowKit
structure PartR where
  name : List UInt8
  driver : List UInt8
  cor : List Rk
  wt : Int
  fr : Int
structure EvR where
  name : List UInt8
  part : List UInt8
  lev : Int
  fall : Bool
structure ActR where
  dip : Int
  parts : List PartR
  evs : List EvR
  leads : List (Int × Int)
def prtV (p : PartR) : List V := [.str p.name, .str p.driver, .lst (rksV p.cor), .int .i64 p.wt, .int .i64 p.fr]
def evV (e : EvR) : List V := [.str e.name, .str e.part, .int .i64 e.lev, .bool e.fall]
def ldV (l : Int × Int) : List V := [.int .i64 l.1, .int .i64 l.2]
def prtsV (l : List PartR) : List (List V) := l.map prtV
def evsV (l : List EvR) : List (List V) := l.map evV
def ldsV (l : List (Int × Int)) : List (List V) := l.map ldV
def actV (a : ActR) : List V := [.int .i64 a.dip, .lst (prtsV a.parts), .lst (evsV a.evs), .lst (ldsV a.leads)]
def p0 : PartR := ⟨[], [], [], 0, 0⟩
def e0 : EvR := ⟨[], [], 0, false⟩
def l0 : Int × Int := (0, 0)
theorem list_get {α : Type} {l : List α} {d : α} {i : Nat} (h : i < l.length) : l[i]? = some (l.getD i d) := by
  rw [List.getD_eq_getElem?_getD, List.getElem?_eq_getElem h]; rfl
theorem prtsV_length {l : List PartR} : (prtsV l).length = l.length := by simp [prtsV]
theorem evsV_length {l : List EvR} : (evsV l).length = l.length := by simp [evsV]
theorem ldsV_length {l : List (Int × Int)} : (ldsV l).length = l.length := by simp [ldsV]
theorem prtsV_get {l : List PartR} {i : Nat} (h : i < l.length) : (prtsV l)[i]? = some (prtV (l.getD i p0)) := by
  unfold prtsV; rw [List.getElem?_map, list_get h]; rfl
theorem evsV_get {l : List EvR} {i : Nat} (h : i < l.length) : (evsV l)[i]? = some (evV (l.getD i e0)) := by
  unfold evsV; rw [List.getElem?_map, list_get h]; rfl
theorem ldsV_get {l : List (Int × Int)} {i : Nat} (h : i < l.length) : (ldsV l)[i]? = some (ldV (l.getD i l0)) := by
  unfold ldsV; rw [List.getElem?_map, list_get h]; rfl
/-- the number of the first one that is such, or -1 -/
def fidx {α : Type} (f : α → Bool) (l : List α) : Int := match l.findIdx? f with
  | some i => (i : Int)
  | none => -1
theorem fidx_at {α : Type} {f : α → Bool} {l : List α} {d : α} {i : Nat} (hi : i < l.length) (h0 : ∀ j, j < i → f (l.getD j d) = false) (h : f (l.getD i d) = true) : fidx f l = i := by
  have : l.findIdx? f = some i := by
    rw [List.findIdx?_eq_some_iff_getElem]
    have hg : ∀ j (hj : j < l.length), l[j] = l.getD j d := fun j hj => by rw [List.getD_eq_getElem?_getD, List.getElem?_eq_getElem hj]; rfl
    refine ⟨hi, by rw [hg i hi]; exact h, fun j hj => ?_⟩
    rw [hg j (by omega), h0 j hj]; simp
  unfold fidx; rw [this]
theorem fidx_no {α : Type} {f : α → Bool} {l : List α} {d : α} (h0 : ∀ j, j < l.length → f (l.getD j d) = false) : fidx f l = -1 := by
  have : l.findIdx? f = none := by
    rw [List.findIdx?_eq_none_iff]
    intro x hx
    obtain ⟨j, hj, rfl⟩ := List.getElem_of_mem hx
    have := h0 j hj
    rw [List.getD_eq_getElem?_getD, List.getElem?_eq_getElem hj] at this
    exact this
  unfold fidx; rw [this]
theorem fidx_cases {α : Type} (f : α → Bool) (l : List α) (d : α) : fidx f l = -1 ∧ (∀ j, j < l.length → f (l.getD j d) = false) ∨ ∃ i, i < l.length ∧ fidx f l = (i : Int) ∧ f (l.getD i d) = true ∧ ∀ j, j < i → f (l.getD j d) = false := by
  have hg : ∀ j (hj : j < l.length), l[j] = l.getD j d := fun j hj => by rw [List.getD_eq_getElem?_getD, List.getElem?_eq_getElem hj]; rfl
  cases h : l.findIdx? f with
  | none =>
    refine .inl ⟨by unfold fidx; rw [h], fun j hj => ?_⟩
    rw [List.findIdx?_eq_none_iff] at h
    rw [← hg j hj]
    exact h _ (List.getElem_mem hj)
  | some i =>
    obtain ⟨h1, h2, h3⟩ := List.findIdx?_eq_some_iff_getElem.1 h
    refine .inr ⟨i, h1, by unfold fidx; rw [h], by rw [← hg i h1]; exact h2, fun j hj => ?_⟩
    have := h3 j hj
    rw [hg j (by omega)] at this
    simpa using this
theorem fidx_bd {α : Type} (f : α → Bool) (l : List α) : -1 ≤ fidx f l ∧ fidx f l < l.length := by
  unfold fidx
  split
  · rename_i i h
    obtain ⟨h1, _⟩ := List.findIdx?_eq_some_iff_getElem.1 h
    omega
  · omega
def isP (s : List UInt8) (p : PartR) : Bool := decide (p.name = s)
def isE (s : List UInt8) (e : EvR) : Bool := decide (e.name = s)
end Go.Proofs.YtihbeoplchiikaaGreatDoor
/- actions: what is right -/
namespace Go.Proofs.YtihbeoplchiikaaGreatDoor
open Go.RowKit
theorem ext_zero {f : Nat → Int} {i : Nat} (h : ∀ j, j < i → f j = 0) (hi : f i = 0) : ∀ j, j < i + 1 → f j = 0 := by
  intro j hj
  rcases Nat.lt_or_ge j i with h2 | h2
  · exact h j h2
  · have : j = i := by omega
    subst this; exact hi
theorem firstE_is {f : Nat → Int} {i n : Nat} {e : Int} (hi : i < n) (h0 : ∀ j, j < i → f j = 0) (h : f i = e) (he : e ≠ 0) : firstE f n = e := by
  rw [firstE_at h0 (by rw [h]; exact he) hi, h]
def knErrAt (l : List Rk) (i : Nat) : Int :=
  if (l.getD i rk0).1.2 ≠ 1 ∨ (l.getD i rk0).2.2 ≠ 1 then 3 else
  if ¬ (-10000 ≤ (l.getD i rk0).1.1 ∧ (l.getD i rk0).1.1 ≤ 10000) ∨ ¬ (-10000 ≤ (l.getD i rk0).2.1 ∧ (l.getD i rk0).2.1 ≤ 10000) then 2 else
  if 0 < i ∧ (l.getD i rk0).1.1 ≤ (l.getD (i - 1) rk0).1.1 then 9 else 0
/-- the error of the corners of a part -/
def knErr (l : List Rk) : Int := if ¬ (1 ≤ l.length ∧ l.length ≤ 12) then 10 else firstE (knErrAt l) l.length
theorem knErr_first {l : List Rk} {i : Nat} {e : Int} (hl : 1 ≤ l.length ∧ l.length ≤ 12) (hi : i < l.length) (h0 : ∀ j, j < i → knErrAt l j = 0) (h : knErrAt l i = e) (he : e ≠ 0) : knErr l = e := by
  unfold knErr
  rw [if_neg (by omega)]
  exact firstE_is hi h0 h he
theorem knErr_none {l : List Rk} (hl : 1 ≤ l.length ∧ l.length ≤ 12) (h0 : ∀ j, j < l.length → knErrAt l j = 0) : knErr l = 0 := by
  unfold knErr
  rw [if_neg (by omega)]
  exact firstE_zero.2 h0
/-- .. of a part behind others -/
def ptErr (b : List PartR) (p : PartR) : Int :=
  if ¬ nameP p.name then 4 else if 0 ≤ fidx (isP p.name) b then 5 else if p.driver ≠ [] ∧ fidx (isP p.driver) b < 0 then 6 else
  if knErr p.cor ≠ 0 then knErr p.cor else if ¬ (0 ≤ p.wt ∧ p.wt ≤ 100000) ∨ ¬ (0 ≤ p.fr ∧ p.fr ≤ 10000) then 2 else 0
def ldErr (l : Int × Int) : Int := if ¬ (1 ≤ l.1 ∧ l.1 ≤ 5000) ∨ ¬ (-1000 ≤ l.2 ∧ l.2 ≤ 1000) then 2 else 0
def ldErrAt (l : List (Int × Int)) (i : Nat) : Int := ldErr (l.getD i l0)
def ldsErr (l : List (Int × Int)) : Int := if 8 < l.length then 8 else firstE (ldErrAt l) l.length
def ptErrAt (l : List PartR) (i : Nat) : Int := ptErr (l.take i) (l.getD i p0)
def evErrAt (a : ActR) (i : Nat) : Int :=
  let x := a.evs.getD i e0
  if ¬ nameP x.name then 4 else if 0 ≤ fidx (isE x.name) (a.evs.take i) then 5 else if fidx (isP x.part) a.parts < 0 then 6 else if ¬ (-10000 ≤ x.lev ∧ x.lev ≤ 10000) then 2 else 0
/-- .. of an action -/
def acErr (a : ActR) : Int :=
  if ¬ (1 ≤ a.dip ∧ a.dip ≤ 2000) then 2 else if 12 < a.parts.length then 8 else if firstE (ptErrAt a.parts) a.parts.length ≠ 0 then firstE (ptErrAt a.parts) a.parts.length else
  if 20 < a.evs.length then 8 else if firstE (evErrAt a) a.evs.length ≠ 0 then firstE (evErrAt a) a.evs.length else ldsErr a.leads
end Go.Proofs.YtihbeoplchiikaaGreatDoor
/- a curve of a curve, as the program makes it -/
namespace Go.Proofs.YtihbeoplchiikaaGreatDoor
open Go.RowKit
def xP (a : Pt) (s x : Rat) : Rat := cut (quoQ (cut (x - a.2)) s + a.1)
def xG (g : Bool) (a : Pt) (s x : Rat) : Bool := ((g || !smB (x - a.2)) || quoB (cut (x - a.2)) s) || !smB (quoQ (cut (x - a.2)) s + a.1)
/-- the corners of a stretch behind its first one -/
def midK (o c : List Pt) (i : Nat) : List Pt := betwP o (at' c i).2 (at' c (i + 1)).2
def midL (o c : List Pt) (i : Nat) (l : List Pt) : List Pt := l.map fun k => (xP (at' c i) (slP (at' c i) (at' c (i + 1))) k.1, k.2)
def midG (c : List Pt) (i : Nat) (l : List Pt) (g : Bool) : Bool := l.foldl (fun g k => xG g (at' c i) (slP (at' c i) (at' c (i + 1))) k.1) g
def valK (o c : List Pt) (i : Nat) : Pt := ((at' c i).1, vP o (at' c i).2)
def valG (o c : List Pt) (i : Nat) (g : Bool) : Bool := vG g o (at' c i).2
/-- all corners before the one with number i of the inner curve -/
def cmpL (o c : List Pt) : Nat → List Pt
  | 0 => []
  | i + 1 => cmpL o c i ++ valK o c i :: (if i + 1 < c.length then midL o c i (midK o c i) else [])
def cmpG (o c : List Pt) : Nat → Bool
  | 0 => false
  | i + 1 => if i + 1 < c.length then midG c i (midK o c i) (slG (valG o c i (cmpG o c i)) (at' c i) (at' c (i + 1))) else valG o c i (cmpG o c i)
def slsG (l : List Pt) : Nat → Bool → Bool
  | 0, g => g
  | i + 1, g => slG (slsG l i g) (at' l i) (at' l (i + 1))
def compP (o c : List Pt) : Option (List Pt) :=
  if cmpG o c c.length = true ∨ 60 < (cmpL o c c.length).length ∨ slsG (cmpL o c c.length) ((cmpL o c c.length).length - 1) false = true then none else some (cmpL o c c.length)
theorem midL_len (o c : List Pt) (i : Nat) (l : List Pt) : (midL o c i l).length = l.length := by simp [midL]
theorem midK_len (o c : List Pt) (i : Nat) : (midK o c i).length ≤ o.length := by
  unfold midK betwP
  split
  · rw [List.length_reverse]; exact betw_len _ _ _
  · exact betw_len _ _ _
theorem midK_mem {o c : List Pt} {i : Nat} {k : Pt} (h : k ∈ midK o c i) : k ∈ o := by
  unfold midK betwP at h
  split at h
  · exact (betw_mem (List.mem_reverse.1 h)).1
  · exact (betw_mem h).1
theorem at_mem {c : List Pt} {k : Pt} (h : k ∈ c) : ∃ i, i < c.length ∧ at' c i = k := by
  obtain ⟨i, hi, rfl⟩ := List.getElem_of_mem h
  refine ⟨i, hi, ?_⟩
  have := at_get hi
  rw [List.getElem?_eq_getElem hi] at this
  exact (Option.some.inj this).symm
theorem mem_at {c : List Pt} {i : Nat} (h : i < c.length) : at' c i ∈ c := List.mem_of_getElem? (at_get h)
theorem valid_mem {c : List Pt} (h : Valid c) {k : Pt} (hk : k ∈ c) : sm k.1 ∧ sm k.2 := by
  obtain ⟨i, hi, rfl⟩ := at_mem hk
  exact h.sm i hi
theorem cmpL_mono (o c : List Pt) {i : Nat} : ∀ {j : Nat}, i ≤ j → (cmpL o c i).length ≤ (cmpL o c j).length
  | 0, h => by have : i = 0 := by omega
               subst this; exact Nat.le_refl _
  | j + 1, h => by
    rcases Nat.lt_or_ge i (j + 1) with h1 | h1
    · have := cmpL_mono o c (i := i) (j := j) (by omega)
      simp only [cmpL, List.length_append]; omega
    · have : i = j + 1 := by omega
      subst this; exact Nat.le_refl _
theorem midG_snoc (c : List Pt) (i : Nat) (l : List Pt) (k : Pt) (g : Bool) : midG c i (l ++ [k]) g = xG (midG c i l g) (at' c i) (slP (at' c i) (at' c (i + 1))) k.1 := by
  unfold midG; rw [List.foldl_append]; rfl
theorem midL_snoc (o c : List Pt) (i : Nat) (l : List Pt) (k : Pt) : midL o c i (l ++ [k]) = midL o c i l ++ [(xP (at' c i) (slP (at' c i) (at' c (i + 1))) k.1, k.2)] := by
  unfold midL; rw [List.map_append]; rfl
theorem take_at {l : List Pt} {k : Nat} (h : k < l.length) : l.take (k + 1) = l.take k ++ [at' l k] := by
  rw [List.take_succ_eq_append_getElem h]
  congr 1
  have := at_get h
  rw [List.getElem?_eq_getElem h] at this
  rw [Option.some.inj this]
theorem sm_cmpL {o c : List Pt} (ho : Valid o) (hc : Valid c) : ∀ {i : Nat}, i ≤ c.length → ∀ p ∈ cmpL o c i, sm p.1 ∧ sm p.2
  | 0, _, p, hp => by simp [cmpL] at hp
  | i + 1, h, p, hp => by
    simp only [cmpL, List.mem_append, List.mem_cons] at hp
    rcases hp with hp | rfl | hp
    · exact sm_cmpL ho hc (by omega) p hp
    · exact ⟨(hc.sm i (by omega)).1, sm_vP ho _⟩
    · split at hp
      · unfold midL at hp
        rw [List.mem_map] at hp
        obtain ⟨k, hk, rfl⟩ := hp
        exact ⟨sm_cut _, (valid_mem ho (midK_mem hk)).2⟩
      · simp at hp
end Go.Proofs.YtihbeoplchiikaaGreatDoor
/- the curve of a curve is right -/
namespace Go.Proofs.YtihbeoplchiikaaGreatDoor
theorem at_getE {c : List Pt} {i : Nat} (h : i < c.length) : c[i] = at' c i := by
  have := at_get h
  rw [List.getElem?_eq_getElem h] at this
  exact Option.some.inj this
abbrev AscL (l : List Pt) : Prop := l.Pairwise fun p q => p.1 < q.1
theorem asc_pair {c : List Pt} (h : Valid c) : AscL c := by
  rw [AscL, List.pairwise_iff_getElem]
  intro i j hi hj hij
  rw [at_getE hi, at_getE hj]
  exact h.asc.lt hij hj
theorem betw_asc {o : List Pt} (h : Valid o) (lo hi : Rat) : AscL (betw o lo hi) := (asc_pair h).filter _
theorem xG_or (g : Bool) (a : Pt) (s x : Rat) : xG g a s x = (g || xG false a s x) := by
  unfold xG; cases g <;> simp
theorem xG_ok {a : Pt} {s x : Rat} (h : xG false a s x = false) : s ≠ 0 ∧ xP a s x = (x - a.2) / s + a.1 := by
  unfold xG quoB at h
  simp only [Bool.or_eq_false_iff, Bool.not_eq_false', Bool.false_or] at h
  obtain ⟨⟨h1, h2⟩, h3⟩ := h
  have s1 := smB_iff.1 h1
  rw [cut_sm s1] at h2 h3
  have hs : s ≠ 0 := by
    intro e
    rw [if_pos e] at h2
    cases h2
  rw [if_neg hs] at h2
  have s2 : sm ((x - a.2) / s) := smB_iff.1 (by simpa using h2)
  have e2 : quoQ (x - a.2) s = (x - a.2) / s := by unfold quoQ; rw [if_neg hs, cut_sm s2]
  rw [e2] at h3
  have s3 := smB_iff.1 h3
  refine ⟨hs, ?_⟩
  unfold xP
  rw [cut_sm s1, e2, cut_sm s3]
theorem midG_ok {c : List Pt} {i : Nat} : ∀ {l : List Pt} {g : Bool}, midG c i l g = false → g = false ∧ ∀ k ∈ l, xG false (at' c i) (slP (at' c i) (at' c (i + 1))) k.1 = false
  | [], g, h => ⟨h, fun k hk => by cases hk⟩
  | k :: l, g, h => by
    obtain ⟨h1, h2⟩ := midG_ok (l := l) (g := xG g (at' c i) (slP (at' c i) (at' c (i + 1))) k.1) h
    rw [xG_or, Bool.or_eq_false_iff] at h1
    refine ⟨h1.1, fun k' hk => ?_⟩
    rcases List.mem_cons.1 hk with rfl | hk
    · exact h1.2
    · exact h2 k' hk
theorem slG_or {g : Bool} {a b : Pt} (h : slG g a b = false) : g = false ∧ slG false a b = false := by
  cases g with
  | false => exact ⟨rfl, h⟩
  | true => rw [slG_true] at h; cases h
theorem vG_true (c : List Pt) (x : Rat) : vG true c x = true := by
  unfold vG
  simp only
  split
  · rfl
  · split
    · rfl
    · rw [Bool.true_or, slG_true]; simp
theorem vG_or {g : Bool} {c : List Pt} {x : Rat} (h : vG g c x = false) : g = false := by
  cases g with
  | false => rfl
  | true => rw [vG_true] at h; cases h
theorem sub_pos {a b : Rat} (h : a < b) : 0 < b - a := by grind
/-- the stretch of a curve between two corners, its slope -/
theorem slP_mul {c : List Pt} (h : Valid c) {i : Nat} (hi : i + 1 < c.length) : slP (at' c i) (at' c (i + 1)) * ((at' c (i + 1)).1 - (at' c i).1) = (at' c (i + 1)).2 - (at' c i).2 := by
  rw [(slP_ok (h.sl i hi) (h.up i hi) false).1]
  unfold sl
  exact Rat.div_mul_cancel (sub_ne (h.up i hi))
theorem pos_of_mul {s d : Rat} (hd : 0 < d) (h : 0 < s * d) : 0 < s := by
  have := Rat.mul_lt_mul_right (a := 0) (b := s) hd
  rw [Rat.zero_mul] at this
  exact this.1 h
/-- where a number between two corners' Y lies: between their X, and in its order -/
theorem stretch_in {a b : Pt} {s k x : Rat} (hab : a.1 < b.1) (hs : s * (b.1 - a.1) = b.2 - a.2) (hx : x = (k - a.2) / s + a.1) (hs0 : s ≠ 0) (hk : a.2 < k ∧ k < b.2 ∨ b.2 < k ∧ k < a.2) : a.1 < x ∧ x < b.1 := by
  have hd := sub_pos hab
  have ht : (x - a.1) * s = k - a.2 := by rw [hx]; have := Rat.div_mul_cancel (a := k - a.2) hs0; grind
  rcases hk with hk | hk
  · have h1 : 0 < s := pos_of_mul hd (by rw [hs]; grind)
    have e1 := Rat.mul_lt_mul_right (a := 0) (b := x - a.1) h1
    have e2 := Rat.mul_lt_mul_right (a := x - a.1) (b := b.1 - a.1) h1
    grind
  · have h1 : 0 < -s := pos_of_mul hd (by grind)
    have e1 := Rat.mul_lt_mul_right (a := 0) (b := x - a.1) h1
    have e2 := Rat.mul_lt_mul_right (a := x - a.1) (b := b.1 - a.1) h1
    grind
theorem stretch_lt {a b : Pt} {s k l x y : Rat} (hab : a.1 < b.1) (hs : s * (b.1 - a.1) = b.2 - a.2) (hx : x = (k - a.2) / s + a.1) (hy : y = (l - a.2) / s + a.1) (hs0 : s ≠ 0) (hk : a.2 < b.2 ∧ k < l ∨ b.2 < a.2 ∧ l < k) : x < y := by
  have hd := sub_pos hab
  have ht : (x - a.1) * s = k - a.2 := by rw [hx]; have := Rat.div_mul_cancel (a := k - a.2) hs0; grind
  have hu : (y - a.1) * s = l - a.2 := by rw [hy]; have := Rat.div_mul_cancel (a := l - a.2) hs0; grind
  rcases hk with hk | hk
  · have h1 : 0 < s := pos_of_mul hd (by rw [hs]; grind)
    have e2 := Rat.mul_lt_mul_right (a := x - a.1) (b := y - a.1) h1
    grind
  · have h1 : 0 < -s := pos_of_mul hd (by grind)
    have e2 := Rat.mul_lt_mul_right (a := x - a.1) (b := y - a.1) h1
    grind
theorem mid_asc {o c : List Pt} (ho : Valid o) (hc : Valid c) {i : Nat} (hi : i + 1 < c.length) {g : Bool} (hg : midG c i (midK o c i) g = false) :
    AscL (midL o c i (midK o c i)) ∧ ∀ p ∈ midL o c i (midK o c i), (at' c i).1 < p.1 ∧ p.1 < (at' c (i + 1)).1 := by
  obtain ⟨_, hk⟩ := midG_ok hg
  have hx := fun k h => xG_ok (hk k h)
  have hm := slP_mul hc hi
  have hu := hc.up i hi
  have hbt : ∀ k ∈ midK o c i, (at' c i).2 < k.1 ∧ k.1 < (at' c (i + 1)).2 ∨ (at' c (i + 1)).2 < k.1 ∧ k.1 < (at' c i).2 := by
    intro k h
    unfold midK betwP at h
    split at h
    · exact .inr (betw_mem (List.mem_reverse.1 h)).2
    · exact .inl (betw_mem h).2
  refine ⟨?_, fun p hp => ?_⟩
  · unfold midL
    rw [AscL, List.pairwise_map]
    have hpw : (midK o c i).Pairwise fun k l => (at' c i).2 < (at' c (i + 1)).2 ∧ k.1 < l.1 ∨ (at' c (i + 1)).2 < (at' c i).2 ∧ l.1 < k.1 := by
      unfold midK betwP
      split
      · rename_i h
        rw [List.pairwise_reverse]
        exact (betw_asc ho _ _).imp fun h2 => .inr ⟨h, h2⟩
      · rename_i h
        refine (betw_asc ho (at' c i).2 (at' c (i + 1)).2).imp_of_mem fun {k l} hk hl h2 => .inl ⟨?_, h2⟩
        have := (betw_mem hk).2
        grind
    refine hpw.imp_of_mem fun {k l} h1 h2 h3 => ?_
    exact stretch_lt hu hm (hx k h1).2 (hx l h2).2 (hx k h1).1 h3
  · unfold midL at hp
    obtain ⟨k, h1, rfl⟩ := List.mem_map.1 hp
    exact stretch_in hu hm (hx k h1).2 (hx k h1).1 (hbt k h1)
theorem cmpG_step {o c : List Pt} {i : Nat} (h : cmpG o c (i + 1) = false) : cmpG o c i = false ∧ valG o c i (cmpG o c i) = false ∧ (i + 1 < c.length → midG c i (midK o c i) (slG (valG o c i (cmpG o c i)) (at' c i) (at' c (i + 1))) = false) := by
  simp only [cmpG] at h
  by_cases hi : i + 1 < c.length
  · rw [if_pos hi] at h
    have h1 := (midG_ok h).1
    have h2 := (slG_or h1).1
    exact ⟨vG_or h2, h2, fun _ => h⟩
  · rw [if_neg hi] at h
    exact ⟨vG_or h, h, fun h => (hi h).elim⟩
theorem cmpL_asc {o c : List Pt} (ho : Valid o) (hc : Valid c) : ∀ {i : Nat}, i ≤ c.length → cmpG o c i = false → AscL (cmpL o c i) ∧ ∀ p ∈ cmpL o c i, i < c.length → p.1 < (at' c i).1
  | 0, _, _ => ⟨by simp [cmpL, AscL], fun p hp => by simp [cmpL] at hp⟩
  | i + 1, hi, hg => by
    obtain ⟨g1, g2, g3⟩ := cmpG_step hg
    obtain ⟨a1, a2⟩ := cmpL_asc ho hc (i := i) (by omega) g1
    simp only [cmpL]
    by_cases h1 : i + 1 < c.length
    · rw [if_pos h1]
      obtain ⟨m1, m2⟩ := mid_asc ho hc h1 (g3 h1)
      have hu := hc.up i h1
      refine ⟨?_, fun p hp _ => ?_⟩
      · rw [AscL, List.pairwise_append, List.pairwise_cons]
        refine ⟨a1, ⟨fun p hp => (m2 p hp).1, m1⟩, fun p hp q hq => ?_⟩
        have h2 := a2 p hp (by omega)
        rcases List.mem_cons.1 hq with rfl | hq
        · exact h2
        · have := (m2 q hq).1
          grind
      · rcases List.mem_append.1 hp with hp | hp
        · have h2 := a2 p hp (by omega)
          grind
        · rcases List.mem_cons.1 hp with rfl | hp
          · exact hu
          · exact (m2 p hp).2
    · rw [if_neg h1]
      refine ⟨?_, fun p hp h => (h1 h).elim⟩
      rw [AscL, List.pairwise_append, List.pairwise_cons]
      refine ⟨a1, ⟨fun p hp => (by cases hp), .nil⟩, fun p hp q hq => ?_⟩
      have h2 := a2 p hp (by omega)
      rcases List.mem_cons.1 hq with rfl | hq
      · exact h2
      · cases hq
theorem slsG_ok {l : List Pt} : ∀ {n : Nat} {g : Bool}, slsG l n g = false → ∀ i, i < n → slG false (at' l i) (at' l (i + 1)) = false
  | 0, g, _, i, hi => by omega
  | n + 1, g, h, i, hi => by
    obtain ⟨h1, h2⟩ := slG_or h
    rcases Nat.lt_or_ge i n with q | q
    · exact slsG_ok h1 i q
    · have : i = n := by omega
      subst this; exact h2
theorem compP_some {o c l : List Pt} (h : compP o c = some l) : cmpG o c c.length = false ∧ l = cmpL o c c.length ∧ l.length ≤ 60 ∧ slsG l (l.length - 1) false = false := by
  unfold compP at h
  split at h
  · cases h
  · rename_i hn
    cases h
    rw [not_or, not_or] at hn
    refine ⟨by simpa using hn.1, rfl, by omega, by simpa using hn.2.2⟩
theorem compP_valid {o c l : List Pt} (ho : Valid o) (hc : Valid c) (h : compP o c = some l) : Valid l := by
  obtain ⟨h1, h2, h3, h4⟩ := compP_some h
  obtain ⟨a1, _⟩ := cmpL_asc ho hc (Nat.le_refl _) h1
  rw [← h2] at a1
  have hup : ∀ i, i + 1 < l.length → (at' l i).1 < (at' l (i + 1)).1 := by
    intro i hi
    have := (List.pairwise_iff_getElem.1 a1) i (i + 1) (by omega) hi (by omega)
    rw [at_getE, at_getE] at this
    exact this
  refine ⟨?_, h3, ?_, hup, ?_⟩
  · rw [h2]
    have hp := hc.ne
    obtain ⟨n, hn⟩ : ∃ n, c.length = n + 1 := ⟨c.length - 1, by omega⟩
    rw [hn]
    simp [cmpL]
    omega
  · intro i hi
    exact sm_cmpL ho hc (Nat.le_refl _) _ (by rw [← h2]; exact mem_at hi)
  · intro i hi
    exact (slG_iff (hup i hi)).1 (slsG_ok h4 i (by omega))
end Go.Proofs.YtihbeoplchiikaaGreatDoor
/- right parts have right curves; the curve of a part -/
namespace Go.Proofs.YtihbeoplchiikaaGreatDoor
theorem tdiv_bd2 (a b : Int) : (a.tdiv b).natAbs ≤ a.natAbs := by
  rw [Int.natAbs_tdiv]; exact Nat.div_le_self _ _
theorem sm_divInt {p q : Int} (hq : 1 ≤ q ∧ q ≤ 1000000000) (hp : -1000000000 ≤ p ∧ p ≤ 1000000000) : sm (Rat.divInt p q) := by
  have h1 := tdiv_bd2 p (if q < 0 then -(Int.gcd p q : Int) else Int.gcd p q)
  have h2 := tdiv_bd2 q (if q < 0 then -(Int.gcd p q : Int) else Int.gcd p q)
  rw [← fit_num (by omega)] at h1
  rw [← fit_den (by omega)] at h2
  unfold sm
  omega
theorem sm_int {n : Int} (h : -1000000000 ≤ n ∧ n ≤ 1000000000) : sm (n : Rat) := ⟨h.1, h.2, by rw [(whole_num n).2]; decide⟩
theorem toQ_one (n : Int) : toQ (n, 1) = (n : Rat) := by
  have h := fit_low (n := n) (d := 1) (by omega) (by simp)
  exact rat_ext h.1 (by rw [show (toQ (n, 1)).den = (Rat.divInt n 1).den from rfl, h.2]; rfl)
theorem knErrAt_zero {l : List Rk} {i : Nat} (h : knErrAt l i = 0) : ((l.getD i rk0).1.2 = 1 ∧ (l.getD i rk0).2.2 = 1) ∧ ((-10000 ≤ (l.getD i rk0).1.1 ∧ (l.getD i rk0).1.1 ≤ 10000) ∧ (-10000 ≤ (l.getD i rk0).2.1 ∧ (l.getD i rk0).2.1 ≤ 10000)) ∧ (0 < i → (l.getD (i - 1) rk0).1.1 < (l.getD i rk0).1.1) := by
  unfold knErrAt at h
  split at h
  · simp at h
  · split at h
    · simp at h
    · split at h
      · simp at h
      · omega
theorem frErr_whole {n : Int} (h : -10000 ≤ n ∧ n ≤ 10000) : frErr n 1 = 0 := by
  unfold frErr
  rw [if_neg (by simp), if_neg (by omega)]
theorem slOk_whole {a b c d : Int} (ha : -10000 ≤ a ∧ a ≤ 10000) (hb : -10000 ≤ b ∧ b ≤ 10000) (hc : -10000 ≤ c ∧ c ≤ 10000) (hd : -10000 ≤ d ∧ d ≤ 10000) (h : a < c) : slOk ((a : Rat), (b : Rat)) ((c : Rat), (d : Rat)) := by
  have e1 : (d : Rat) - (b : Rat) = ((d - b : Int) : Rat) := (Rat.intCast_sub d b).symm
  have e2 : (c : Rat) - (a : Rat) = ((c - a : Int) : Rat) := (Rat.intCast_sub c a).symm
  refine ⟨?_, ?_, ?_⟩
  · show sm ((d : Rat) - (b : Rat))
    rw [e1]; exact sm_int (by omega)
  · show sm ((c : Rat) - (a : Rat))
    rw [e2]; exact sm_int (by omega)
  · show sm (((d : Rat) - (b : Rat)) / ((c : Rat) - (a : Rat)))
    rw [e1, e2, ← div_fit]
    have h1 := (whole_num (d - b)).1
    have h2 := (whole_num (c - a)).1
    have h3 := (whole_num (d - b)).2
    have h4 := (whole_num (c - a)).2
    rw [h1, h2, h3, h4]
    exact sm_divInt (by omega) (by omega)
/-- the corners of a right part are a right curve -/
theorem knee_valid {l : List Rk} (h : knErr l = 0) : Valid (l.map toP) ∧ (l.map toP).map raw = l := by
  refine cuErr_ok ?_
  unfold knErr at h
  split at h
  · simp at h
  · rename_i hn
    have hz := firstE_zero.1 h
    unfold cuErr
    rw [if_neg (by omega), firstE_zero]
    intro i hi
    obtain ⟨⟨h1, h2⟩, ⟨h3, h4⟩, h5⟩ := knErrAt_zero (hz i hi)
    rw [cuErrAt_zero, h1, h2]
    refine ⟨frErr_whole h3, frErr_whole h4, ?_⟩
    rcases Nat.eq_zero_or_pos i with h0 | h0
    · exact .inl h0
    · obtain ⟨⟨k1, k2⟩, ⟨k3, k4⟩, _⟩ := knErrAt_zero (hz (i - 1) (by omega))
      have h6 := h5 h0
      refine .inr ?_
      generalize l.getD i rk0 = x at *
      generalize l.getD (i - 1) rk0 = y at *
      obtain ⟨⟨a, a1⟩, ⟨b, b1⟩⟩ := x
      obtain ⟨⟨c, c1⟩, ⟨d, d1⟩⟩ := y
      dsimp only at *
      subst h1 h2 k1 k2
      unfold toP
      dsimp only
      rw [toQ_one, toQ_one, toQ_one, toQ_one]
      exact ⟨Rat.intCast_lt_intCast.2 h6, slOk_whole k3 k4 h3 h4 h6⟩
/-- the number of a part's driver -/
def drv (a : ActR) (p : PartR) : Nat := (fidx (isP p.driver) a.parts).toNat
def dipC (a : ActR) : List Pt := [(0, 0), ((a.dip : Rat), (a.dip : Rat))]
/-- the curve of the part i (fuel n) -/
def curP (a : ActR) : Nat → Nat → Option (List Pt)
  | 0, _ => none
  | n + 1, i => (if (a.parts.getD i p0).driver = [] then some (dipC a) else curP a n (drv a (a.parts.getD i p0))).bind fun d => compP ((a.parts.getD i p0).cor.map toP) d
/-- what the parts of a right action are -/
structure PtsOk (a : ActR) : Prop where
  dip : 1 ≤ a.dip ∧ a.dip ≤ 2000
  few : a.parts.length ≤ 12
  pt : ∀ i, i < a.parts.length → ptErr (a.parts.take i) (a.parts.getD i p0) = 0
theorem acErr_pts {a : ActR} (h : acErr a = 0) : PtsOk a := by
  unfold acErr at h
  split at h
  · simp at h
  · split at h
    · simp at h
    · split at h
      · contradiction
      · rename_i h1 h2 h3
        exact ⟨by omega, by omega, fun i hi => firstE_zero.1 (Decidable.not_not.1 h3) i hi⟩
theorem ptErr_zero {b : List PartR} {p : PartR} (h : ptErr b p = 0) : nameP p.name ∧ fidx (isP p.name) b < 0 ∧ (p.driver ≠ [] → 0 ≤ fidx (isP p.driver) b) ∧ knErr p.cor = 0 ∧ (0 ≤ p.wt ∧ p.wt ≤ 100000) ∧ 0 ≤ p.fr ∧ p.fr ≤ 10000 := by
  unfold ptErr at h
  split at h
  · simp at h
  · split at h
    · simp at h
    · split at h
      · simp at h
      · split at h
        · contradiction
        · split at h
          · simp at h
          · rename_i h1 h2 h3 h4 h5
            exact ⟨Decidable.not_not.1 h1, by omega, fun hd => Int.not_lt.1 fun hl => h3 ⟨hd, hl⟩, by omega, by omega, by omega⟩
theorem take_getD {α : Type} {l : List α} {d : α} {i j : Nat} (h : j < i) : (l.take i).getD j d = l.getD j d := by
  rw [List.getD_eq_getElem?_getD, List.getD_eq_getElem?_getD, List.getElem?_take_of_lt h]
/-- a driver comes before -/
theorem drv_lt {a : ActR} (h : PtsOk a) {i : Nat} (hi : i < a.parts.length) (hd : (a.parts.getD i p0).driver ≠ []) : drv a (a.parts.getD i p0) < i ∧ fidx (isP (a.parts.getD i p0).driver) a.parts = (drv a (a.parts.getD i p0) : Int) := by
  obtain ⟨_, _, h1, _⟩ := ptErr_zero (h.pt i hi)
  have h2 := h1 hd
  rcases fidx_cases (isP (a.parts.getD i p0).driver) (a.parts.take i) p0 with ⟨e, _⟩ | ⟨k, hk, e, h3, h4⟩
  · omega
  · rw [List.length_take] at hk
    have hk1 : k < i := by omega
    rw [take_getD hk1] at h3
    have : fidx (isP (a.parts.getD i p0).driver) a.parts = k := fidx_at (d := p0) (by omega) (fun j hj => by have h5 := h4 j hj; rw [take_getD (by omega)] at h5; exact h5) h3
    unfold drv
    rw [this]
    exact ⟨by omega, by omega⟩
theorem dipC_valid {a : ActR} (h : PtsOk a) : Valid (dipC a) := by
  have hk : knErr [((0, 1), (0, 1)), ((a.dip, 1), (a.dip, 1))] = 0 := by
    unfold knErr
    rw [if_neg (by simp), firstE_zero]
    have hd := h.dip
    intro i hi
    simp only [List.length_cons, List.length_nil] at hi
    have : i = 0 ∨ i = 1 := by omega
    rcases this with rfl | rfl
    · rfl
    · unfold knErrAt
      simp only [List.getD_cons_succ, List.getD_cons_zero]
      rw [if_neg (by simp), if_neg (by omega), if_neg (by simp only [Nat.sub_self, List.getD_cons_zero]; omega)]
  have := (knee_valid hk).1
  simp only [List.map_cons, List.map_nil, toP, toQ_one] at this
  exact this
theorem curP_valid {a : ActR} (h : PtsOk a) : ∀ {n i : Nat} {l : List Pt}, i < a.parts.length → curP a n i = some l → Valid l
  | 0, i, l, _, hc => by simp [curP] at hc
  | n + 1, i, l, hi, hc => by
    simp only [curP, Option.bind_eq_some_iff] at hc
    obtain ⟨d, h1, h2⟩ := hc
    obtain ⟨_, _, _, hk, _⟩ := ptErr_zero (h.pt i hi)
    refine compP_valid (knee_valid hk).1 ?_ h2
    by_cases hd : (a.parts.getD i p0).driver = []
    · rw [if_pos hd] at h1
      cases h1
      exact dipC_valid h
    · rw [if_neg hd] at h1
      exact curP_valid h (by have := (drv_lt h hi hd).1; omega) h1
end Go.Proofs.YtihbeoplchiikaaGreatDoor
/- a curve of a curve, as the reference makes it -/
namespace Go.Proofs.YtihbeoplchiikaaGreatDoor
def alOk (a b : Pt) (y : Rat) : Prop := sm (y - a.2) ∧ sm ((y - a.2) / sl a b) ∧ sm (a.1 + (y - a.2) / sl a b)
instance (a b : Pt) (y : Rat) : Decidable (alOk a b y) := inferInstanceAs (Decidable (_ ∧ _ ∧ _))
def alE (a b : Pt) (y : Rat) : Rat := a.1 + (y - a.2) / sl a b
theorem xG_al {a b : Pt} {x : Rat} (h0 : sl a b ≠ 0) (g : Bool) : (alOk a b x → xG g a (sl a b) x = g ∧ xP a (sl a b) x = alE a b x) ∧ (¬ alOk a b x → xG g a (sl a b) x = true) := by
  unfold xG xP alOk alE
  refine ⟨fun ⟨h1, h2, h3⟩ => ?_, fun h => ?_⟩
  · rw [cut_sm h1, smB_of h1]
    unfold quoB quoQ
    rw [if_neg h0, if_neg h0, cut_sm h2, smB_of h2, Rat.add_comm _ a.1, smB_of h3, cut_sm h3]
    simp
  · by_cases h1 : sm (x - a.2)
    · rw [cut_sm h1]
      unfold quoB quoQ
      rw [if_neg h0, if_neg h0]
      by_cases h2 : sm ((x - a.2) / sl a b)
      · rw [cut_sm h2, Rat.add_comm _ a.1, smB_no fun h3 => h ⟨h1, h2, h3⟩]; simp
      · rw [smB_no h2]; simp
    · rw [smB_no h1]; simp
theorem sl_ne {a b : Pt} (hab : a.1 < b.1) (h : a.2 ≠ b.2) : sl a b ≠ 0 := by
  have hd := sub_ne hab
  intro h0
  have h1 : sl a b * (b.1 - a.1) = b.2 - a.2 := by unfold sl; rw [Rat.div_mul_cancel hd]
  rw [h0, Rat.zero_mul] at h1
  exact h (by grind)
theorem slsG_of {l : List Pt} : ∀ {n : Nat}, (∀ i, i < n → slG false (at' l i) (at' l (i + 1)) = false) → slsG l n false = false
  | 0, _ => rfl
  | n + 1, h => by
    simp only [slsG]
    rw [slsG_of fun i hi => h i (by omega)]
    exact h n (by omega)
theorem map_toP_raw (l : List Pt) : (l.map raw).map toP = l := by
  rw [List.map_map]
  refine (List.map_congr_left fun p _ => ?_).trans (List.map_id l)
  exact toP_raw p
end Go.Proofs.YtihbeoplchiikaaGreatDoor
/- where a curve reaches a level; the dips of events -/
namespace Go.Proofs.YtihbeoplchiikaaGreatDoor
def rchd (f : Bool) (lv : Rat) (p : Pt) : Bool := if f then decide (p.2 ≤ lv) else decide (lv ≤ p.2)
/-- the place, or the error -/
def rch (c : List Pt) (lv : Rat) (f : Bool) : Option Rat × Int :=
  match c.findIdx? (rchd f lv) with
  | none => (none, 12)
  | some 0 => (some (at' c 0).1, 0)
  | some (i + 1) => if alOk (at' c i) (at' c (i + 1)) lv then (some (alE (at' c i) (at' c (i + 1)) lv), 0) else (none, 8)
theorem find_some {α : Type} {f : α → Bool} {l : List α} {d : α} {i : Nat} (hi : i < l.length) (h0 : ∀ j, j < i → f (l.getD j d) = false) (h : f (l.getD i d) = true) : l.findIdx? f = some i := by
  rw [List.findIdx?_eq_some_iff_getElem]
  have hg : ∀ j (hj : j < l.length), l[j] = l.getD j d := fun j hj => by rw [List.getD_eq_getElem?_getD, List.getElem?_eq_getElem hj]; rfl
  refine ⟨hi, by rw [hg i hi]; exact h, fun j hj => ?_⟩
  rw [hg j (by omega), h0 j hj]; simp
theorem find_none {α : Type} {f : α → Bool} {l : List α} {d : α} (h0 : ∀ j, j < l.length → f (l.getD j d) = false) : l.findIdx? f = none := by
  rw [List.findIdx?_eq_none_iff]
  intro x hx
  obtain ⟨j, hj, rfl⟩ := List.getElem_of_mem hx
  have := h0 j hj
  rw [List.getD_eq_getElem?_getD, List.getElem?_eq_getElem hj] at this
  exact this
theorem rch_none {c : List Pt} {lv : Rat} {f : Bool} (h : ∀ j, j < c.length → rchd f lv (at' c j) = false) : rch c lv f = (none, 12) := by
  unfold rch; rw [find_none (d := (0, 0)) h]
theorem rch_zero {c : List Pt} {lv : Rat} {f : Bool} (hp : 0 < c.length) (h : rchd f lv (at' c 0) = true) : rch c lv f = (some (at' c 0).1, 0) := by
  unfold rch; rw [find_some (d := (0, 0)) hp (fun j h => absurd h (Nat.not_lt_zero _)) h]
theorem rch_succ {c : List Pt} {lv : Rat} {f : Bool} {i : Nat} (hi : i + 1 < c.length) (h0 : ∀ j, j < i + 1 → rchd f lv (at' c j) = false) (h : rchd f lv (at' c (i + 1)) = true) : rch c lv f = if alOk (at' c i) (at' c (i + 1)) lv then (some (alE (at' c i) (at' c (i + 1)) lv), 0) else (none, 8) := by
  unfold rch; rw [find_some (d := (0, 0)) hi h0 h]
/-- the cases -/
theorem rch_cases (c : List Pt) (lv : Rat) (f : Bool) : (∀ j, j < c.length → rchd f lv (at' c j) = false) ∨ (0 < c.length ∧ rchd f lv (at' c 0) = true) ∨ ∃ i, i + 1 < c.length ∧ (∀ j, j < i + 1 → rchd f lv (at' c j) = false) ∧ rchd f lv (at' c (i + 1)) = true := by
  rcases fidx_cases (rchd f lv) c (0, 0) with ⟨_, h⟩ | ⟨i, h1, _, h2, h3⟩
  · exact .inl h
  · rcases i with _ | i
    · exact .inr (.inl ⟨h1, h2⟩)
    · exact .inr (.inr ⟨i, h1, h3, h2⟩)
theorem rch_fidx {c : List Pt} {lv : Rat} {f : Bool} {i : Nat} (hi : i < c.length) (h0 : ∀ j, j < i → rchd f lv (at' c j) = false) (h : rchd f lv (at' c i) = true) : fidx (rchd f lv) c = (i : Int) := fidx_at (d := (0, 0)) hi h0 h
theorem rchd_y {f : Bool} {lv : Rat} {p q : Pt} (h1 : rchd f lv p = false) (h2 : rchd f lv q = true) : p.2 ≠ q.2 ∧ (f = false → p.2 < lv ∧ lv ≤ q.2) ∧ (f = true → q.2 ≤ lv ∧ lv < p.2) := by
  unfold rchd at h1 h2
  cases f with
  | false =>
    simp only [Bool.false_eq_true, if_false, decide_eq_false_iff_not, decide_eq_true_eq] at h1 h2
    refine ⟨by intro e; rw [e] at h1; exact h1 h2, fun _ => ⟨Rat.not_le.1 h1, h2⟩, fun h => (by cases h)⟩
  | true =>
    simp only [if_true, decide_eq_false_iff_not, decide_eq_true_eq] at h1 h2
    refine ⟨by intro e; rw [e] at h1; exact h1 h2, fun h => (by cases h), fun _ => ⟨h2, Rat.not_le.1 h1⟩⟩
theorem sl_mul {a b : Pt} (hab : a.1 < b.1) : sl a b * (b.1 - a.1) = b.2 - a.2 := by
  unfold sl; rw [Rat.div_mul_cancel (sub_ne hab)]
/-- the place between two corners -/
theorem alE_in {a b : Pt} {y : Rat} (hab : a.1 < b.1) (h : a.2 < y ∧ y ≤ b.2 ∨ b.2 ≤ y ∧ y < a.2) : a.1 < alE a b y ∧ alE a b y ≤ b.1 := by
  have hn : a.2 ≠ b.2 := by grind
  have h0 := sl_ne hab hn
  have hs := sl_mul hab
  by_cases hy : y = b.2
  · have e : alE a b y = b.1 := by
      unfold alE
      rw [hy, ← hs]
      have : sl a b * (b.1 - a.1) / sl a b = b.1 - a.1 := by rw [Rat.mul_comm, Rat.mul_div_cancel h0]
      rw [this]; grind
    rw [e]; exact ⟨hab, Rat.le_refl⟩
  · have := stretch_in (s := sl a b) (k := y) (x := alE a b y) hab hs (by unfold alE; rw [Rat.add_comm]) h0 (by grind)
    exact ⟨this.1, Rat.le_of_lt this.2⟩
theorem sm_rch {c : List Pt} (hc : Valid c) {lv x : Rat} {f : Bool} {e : Int} (h : rch c lv f = (some x, e)) : sm x ∧ e = 0 ∧ (at' c 0).1 ≤ x ∧ x ≤ (at' c (c.length - 1)).1 := by
  rcases rch_cases c lv f with h1 | ⟨h1, h2⟩ | ⟨i, h1, h2, h3⟩
  · rw [rch_none h1] at h; cases h
  · rw [rch_zero h1 h2] at h; cases h
    exact ⟨(hc.sm 0 h1).1, rfl, Rat.le_refl, hc.asc.le (by omega) (by omega)⟩
  · rw [rch_succ h1 h2 h3] at h
    split at h
    · rename_i ho
      cases h
      obtain ⟨k1, k2, k3⟩ := rchd_y (h2 i (by omega)) h3
      have hin := alE_in (y := lv) (hc.up i h1) (by cases f <;> simp_all)
      have l1 := hc.asc.le (i := 0) (j := i) (by omega) (by omega)
      have l2 := hc.asc.le (i := i + 1) (j := c.length - 1) (by omega) (by omega)
      exact ⟨ho.2.2, rfl, by grind, by grind⟩
    · cases h
theorem rch_code (c : List Pt) (lv : Rat) (f : Bool) : (∃ x, rch c lv f = (some x, 0)) ∨ rch c lv f = (none, 8) ∨ rch c lv f = (none, 12) := by
  rcases rch_cases c lv f with h1 | ⟨h1, h2⟩ | ⟨i, h1, h2, h3⟩
  · exact .inr (.inr (rch_none h1))
  · exact .inl ⟨_, rch_zero h1 h2⟩
  · rw [rch_succ h1 h2 h3]
    split
    · exact .inl ⟨_, rfl⟩
    · exact .inr (.inl rfl)
/-- the curve of a part, the dip of an event -/
def cvP (a : ActR) (i : Nat) : Option (List Pt) := curP a 13 i
def prtN (a : ActR) (x : EvR) : Nat := (fidx (isP x.part) a.parts).toNat
def evtP (a : ActR) (i : Nat) : Option Rat × Int :=
  match cvP a (prtN a (a.evs.getD i e0)) with
  | none => (none, 8)
  | some c => rch c ((a.evs.getD i e0).lev : Rat) (a.evs.getD i e0).fall
theorem evtP_code (a : ActR) (i : Nat) : (∃ x, evtP a i = (some x, 0)) ∨ evtP a i = (none, 8) ∨ evtP a i = (none, 12) := by
  unfold evtP
  split
  · exact .inr (.inl rfl)
  · exact rch_code _ _ _
/-- what the events of a right action are -/
theorem acErr_evs {a : ActR} (h : acErr a = 0) : a.evs.length ≤ 20 ∧ (∀ i, i < a.evs.length → evErrAt a i = 0) ∧ ldsErr a.leads = 0 := by
  unfold acErr at h
  split at h
  · simp at h
  · split at h
    · simp at h
    · split at h
      · contradiction
      · split at h
        · simp at h
        · split at h
          · contradiction
          · rename_i h1 h2
            exact ⟨by omega, firstE_zero.1 (by simpa using h2), h⟩
theorem evErrAt_zero {a : ActR} {i : Nat} (h : evErrAt a i = 0) : nameP (a.evs.getD i e0).name ∧ fidx (isE (a.evs.getD i e0).name) (a.evs.take i) < 0 ∧ 0 ≤ fidx (isP (a.evs.getD i e0).part) a.parts ∧ (-10000 ≤ (a.evs.getD i e0).lev ∧ (a.evs.getD i e0).lev ≤ 10000) := by
  unfold evErrAt at h
  simp only at h
  split at h
  · simp at h
  · split at h
    · simp at h
    · split at h
      · simp at h
      · split at h
        · simp at h
        · rename_i h1 h2 h3 h4
          exact ⟨Classical.not_not.1 h1, by omega, by omega, by omega⟩
theorem prtN_lt {a : ActR} {i : Nat} (h : evErrAt a i = 0) : prtN a (a.evs.getD i e0) < a.parts.length ∧ fidx (isP (a.evs.getD i e0).part) a.parts = (prtN a (a.evs.getD i e0) : Int) := by
  obtain ⟨_, _, h3, _⟩ := evErrAt_zero h
  have := fidx_bd (isP (a.evs.getD i e0).part) a.parts
  unfold prtN
  omega
theorem compP_ends {o c l : List Pt} (hc : Valid c) (h : compP o c = some l) : (at' l 0).1 = (at' c 0).1 ∧ (at' l (l.length - 1)).1 = (at' c (c.length - 1)).1 := by
  obtain ⟨_, h2, _, _⟩ := compP_some h
  subst h2
  have hp := hc.pos
  have hd : ∀ n, (cmpL o c (n + 1))[0]? = some (valK o c 0) := by
    intro n
    induction n with
    | zero => simp [cmpL]
    | succ n ih =>
      show (cmpL o c (n + 1) ++ _)[0]? = _
      have hlt : 0 < (cmpL o c (n + 1)).length := (List.getElem?_eq_some_iff.1 ih).1
      rw [List.getElem?_append_left hlt, ih]
  obtain ⟨n, hn⟩ : ∃ n, c.length = n + 1 := ⟨c.length - 1, by omega⟩
  rw [hn]
  refine ⟨?_, ?_⟩
  · unfold at'
    rw [List.getD_eq_getElem?_getD, hd n]; rfl
  · have : cmpL o c (n + 1) = cmpL o c n ++ [valK o c n] := by
      show cmpL o c n ++ valK o c n :: _ = _
      rw [if_neg (by omega)]
    rw [this]
    unfold at'
    rw [List.getD_eq_getElem?_getD]
    simp [valK, at']
/-- a part's curve goes from 0 to the dip -/
theorem curP_ends {a : ActR} (h : PtsOk a) : ∀ {n i : Nat} {l : List Pt}, i < a.parts.length → curP a n i = some l → (at' l 0).1 = 0 ∧ (at' l (l.length - 1)).1 = (a.dip : Rat)
  | 0, i, l, _, hl => by simp [curP] at hl
  | n + 1, i, l, hi, hl => by
    unfold curP at hl
    by_cases hd : (a.parts.getD i p0).driver = []
    · rw [if_pos hd] at hl
      exact compP_ends (dipC_valid h) hl
    · rw [if_neg hd] at hl
      cases hc : curP a n (drv a (a.parts.getD i p0)) with
      | none => rw [hc] at hl; cases hl
      | some d =>
        rw [hc] at hl
        have hlt := (drv_lt h hi hd).1
        have ih := curP_ends h (n := n) (i := drv a (a.parts.getD i p0)) (by omega) hc
        have hv := curP_valid h (n := n) (i := drv a (a.parts.getD i p0)) (by omega) hc
        have := compP_ends hv (show compP _ d = some l from hl)
        rw [this.1, this.2]
        exact ih
theorem cvP_valid {a : ActR} (h : PtsOk a) {i : Nat} {l : List Pt} (hi : i < a.parts.length) (hl : cvP a i = some l) : Valid l := curP_valid h hi hl
theorem evtP_sm {a : ActR} (h : acErr a = 0) {i : Nat} {x : Rat} {e : Int} (hi : i < a.evs.length) (hx : evtP a i = (some x, e)) : sm x ∧ e = 0 ∧ 0 ≤ x ∧ x ≤ (a.dip : Rat) := by
  have hp := acErr_pts h
  obtain ⟨_, h2, _⟩ := acErr_evs h
  have hl := (prtN_lt (h2 i hi)).1
  unfold evtP at hx
  split at hx
  · cases hx
  · rename_i c hc
    obtain ⟨q1, q2, q3, q4⟩ := sm_rch (cvP_valid hp hl hc) hx
    obtain ⟨e1, e2⟩ := curP_ends hp hl hc
    rw [e1] at q3
    rw [e2] at q4
    exact ⟨q1, q2, q3, q4⟩
end Go.Proofs.YtihbeoplchiikaaGreatDoor
/- balance, friction, touch -/
namespace Go.Proofs.YtihbeoplchiikaaGreatDoor
/-- a sum, and whether a number on the way was large, as the program finds them -/
def adP (s : Rat × Bool) (p : Rat) : Rat × Bool := (cut (s.1 + cut p), (s.2 || !smB p) || !smB (s.1 + cut p))
def sbP (s : Rat × Bool) (p : Rat) : Rat × Bool := (cut (s.1 - cut p), (s.2 || !smB p) || !smB (s.1 - cut p))
/-- .. and whether all was small, as the reference finds them -/
def adR (s : Rat × Bool) (p : Rat) : Rat × Bool := if s.2 = true then (if sm p then (s.1 + p, smB (s.1 + p)) else (s.1, false)) else s
def sbR (s : Rat × Bool) (p : Rat) : Rat × Bool := if s.2 = true then (if sm p then (s.1 - p, smB (s.1 - p)) else (s.1, false)) else s
def Agr (s r : Rat × Bool) : Prop := (s.2 = false ∧ r.2 = true ∧ s.1 = r.1 ∧ sm s.1) ∨ (s.2 = true ∧ r.2 = false)
theorem adP_agr {s r : Rat × Bool} (p : Rat) (h : Agr s r) : Agr (adP s p) (adR r p) := by
  unfold adP adR
  rcases h with ⟨h1, h2, h3, h4⟩ | ⟨h1, h2⟩
  · rw [if_pos h2]
    by_cases hp : sm p
    · rw [if_pos hp, cut_sm hp, smB_of hp, h3, h1]
      by_cases hs : sm (r.1 + p)
      · exact .inl ⟨by rw [smB_of hs]; rfl, smB_of hs, cut_sm hs, sm_cut _⟩
      · exact .inr ⟨by rw [smB_no hs]; rfl, smB_no hs⟩
    · rw [if_neg hp]
      exact .inr ⟨by rw [smB_no hp]; simp, rfl⟩
  · rw [if_neg (by rw [h2]; decide)]
    exact .inr ⟨by rw [h1]; simp, h2⟩
theorem sbP_agr {s r : Rat × Bool} (p : Rat) (h : Agr s r) : Agr (sbP s p) (sbR r p) := by
  unfold sbP sbR
  rcases h with ⟨h1, h2, h3, h4⟩ | ⟨h1, h2⟩
  · rw [if_pos h2]
    by_cases hp : sm p
    · rw [if_pos hp, cut_sm hp, smB_of hp, h3, h1]
      by_cases hs : sm (r.1 - p)
      · exact .inl ⟨by rw [smB_of hs]; rfl, smB_of hs, cut_sm hs, sm_cut _⟩
      · exact .inr ⟨by rw [smB_no hs]; rfl, smB_no hs⟩
    · rw [if_neg hp]
      exact .inr ⟨by rw [smB_no hp]; simp, rfl⟩
  · rw [if_neg (by rw [h2]; decide)]
    exact .inr ⟨by rw [h1]; simp, h2⟩
def absQ (q : Rat) : Rat := if q.num < 0 then -q else q
theorem absQ_num (q : Rat) : (absQ q).num = (if q.num < 0 then -q.num else q.num) ∧ ((absQ q).den : Int) = q.den := by
  unfold absQ
  split
  · rw [Rat.neg_num, Rat.neg_den]; exact ⟨rfl, rfl⟩
  · exact ⟨rfl, rfl⟩
theorem sm_abs {q : Rat} (h : sm q) : sm (absQ q) := by
  obtain ⟨h1, h2, h3⟩ := h
  obtain ⟨e1, e2⟩ := absQ_num q
  unfold sm
  rw [e1, e2]
  split <;> omega
/-- the ratio of the part i -/
def slpA (a : ActR) (x : Rat) (i : Nat) : Rat := slopeE ((cvP a i).getD []) x
/-- the curves of all parts are there -/
def allC (a : ActR) (n : Nat) : Prop := ∀ i, i < n → (cvP a i).isSome = true
instance (a : ActR) (n : Nat) : Decidable (allC a n) := inferInstanceAs (Decidable (∀ i, i < n → _))
def balP (a : ActR) (l : List Rat) (g : Bool) : Nat → Rat × Bool
  | 0 => (0, g)
  | i + 1 => adP (balP a l g i) (((a.parts.getD i p0).wt : Rat) * l.getD i 0)
def ldQ (l : Int × Int) : Rat := ((l.1 * l.2 : Int) : Rat) / ((1000 : Int) : Rat)
def ldP (a : ActR) (s : Rat × Bool) : Nat → Rat × Bool
  | 0 => s
  | i + 1 => sbP (ldP a s i) (ldQ (a.leads.getD i l0))
def frcP (a : ActR) (l : List Rat) (g : Bool) : Nat → Rat × Bool
  | 0 => (0, g)
  | i + 1 => adP (frcP a l g i) (((a.parts.getD i p0).fr : Rat) * absQ (l.getD i 0))
def rts (a : ActR) (x : Rat) (n : Nat) : List Rat := (List.range n).map (slpA a x)
theorem rts_len (a : ActR) (x : Rat) (n : Nat) : (rts a x n).length = n := by simp [rts]
theorem rts_get {a : ActR} {x : Rat} {n i : Nat} (h : i < n) : (rts a x n).getD i 0 = slpA a x i := by
  unfold rts; rw [List.getD_eq_getElem?_getD, List.getElem?_map, List.getElem?_range h]; rfl
theorem rts_succ (a : ActR) (x : Rat) (n : Nat) : rts a x (n + 1) = rts a x n ++ [slpA a x n] := by
  simp [rts, List.range_succ]
theorem sm_slpA {a : ActR} (h : PtsOk a) {i : Nat} (hi : i < a.parts.length) (x : Rat) : sm (slpA a x i) := by
  unfold slpA
  cases hc : cvP a i with
  | none =>
    have : slopeE [] x = 0 := by unfold slopeE cnt; simp
    show sm (slopeE [] x)
    rw [this]; exact sm_zero
  | some c => exact sm_slopeE (cvP_valid h hi hc) x
/-- the balance, and whether a number on the way was large -/
def balA (a : ActR) (l : List Rat) (g : Bool) : Rat × Bool := ldP a (balP a l g l.length) a.leads.length
def touP (a : ActR) (x : Rat) : Option (Rat × Rat) :=
  if allC a a.parts.length then
    let l := rts a x a.parts.length
    let b := balA a l false
    let f := frcP a l b.2 a.parts.length
    if ((f.2 || !smB (b.1 + f.1)) || !smB (b.1 - f.1)) = true then none else some (cut (b.1 + f.1), cut (b.1 - f.1))
  else none
/-! the reference -/
def balR (a : ActR) (x : Rat) : Nat → Rat × Bool
  | 0 => (0, true)
  | i + 1 => if (balR a x i).2 = true then (match cvP a i with
      | none => ((balR a x i).1, false)
      | some c => adR (balR a x i) (((a.parts.getD i p0).wt : Rat) * slopeE c x)) else balR a x i
def ldR (a : ActR) (s : Rat × Bool) : Nat → Rat × Bool
  | 0 => s
  | i + 1 => sbR (ldR a s i) (ldQ (a.leads.getD i l0))
def frcR (a : ActR) (x : Rat) : Nat → Rat × Bool
  | 0 => (0, true)
  | i + 1 => if (frcR a x i).2 = true then (match cvP a i with
      | none => ((frcR a x i).1, false)
      | some c => adR (frcR a x i) (((a.parts.getD i p0).fr : Rat) * absQ (slopeE c x))) else frcR a x i
def balRA (a : ActR) (x : Rat) : Rat × Bool := ldR a (balR a x a.parts.length) a.leads.length
def frcRA (a : ActR) (x : Rat) : Rat × Bool := frcR a x a.parts.length
/-- what the reference's Weights returns: nothing, or the weights and whether they are small -/
def wtsR (a : ActR) (x : Rat) : Option ((Rat × Rat) × Bool) :=
  if (balRA a x).2 = true ∧ (frcRA a x).2 = true then some (((balRA a x).1 + (frcRA a x).1, (balRA a x).1 - (frcRA a x).1), smB ((balRA a x).1 + (frcRA a x).1) && smB ((balRA a x).1 - (frcRA a x).1)) else none
theorem slpA_some {a : ActR} {i : Nat} {c : List Pt} (x : Rat) (h : cvP a i = some c) : slpA a x i = slopeE c x := by unfold slpA; rw [h]; rfl
theorem balP_agr {a : ActR} (x : Rat) {n : Nat} (hc : allC a n) : ∀ {i : Nat}, i ≤ n → Agr (balP a (rts a x n) false i) (balR a x i)
  | 0, _ => .inl ⟨rfl, rfl, rfl, sm_zero⟩
  | i + 1, hi => by
    have ih := balP_agr x hc (i := i) (by omega)
    obtain ⟨c, hcv⟩ := Option.isSome_iff_exists.1 (hc i (by omega))
    simp only [balP, balR]
    rw [rts_get (by omega), slpA_some x hcv]
    by_cases h2 : (balR a x i).2 = true
    · rw [if_pos h2, hcv]; exact adP_agr _ ih
    · rw [if_neg h2]
      rcases ih with ⟨_, h, _⟩ | ⟨h3, h4⟩
      · exact absurd h h2
      · refine .inr ⟨?_, by simpa using h2⟩
        unfold adP; rw [h3]; simp
theorem frcP_agr {a : ActR} (x : Rat) {n : Nat} (hc : allC a n) : ∀ {i : Nat}, i ≤ n → Agr (frcP a (rts a x n) false i) (frcR a x i)
  | 0, _ => .inl ⟨rfl, rfl, rfl, sm_zero⟩
  | i + 1, hi => by
    have ih := frcP_agr x hc (i := i) (by omega)
    obtain ⟨c, hcv⟩ := Option.isSome_iff_exists.1 (hc i (by omega))
    simp only [frcP, frcR]
    rw [rts_get (by omega), slpA_some x hcv]
    by_cases h2 : (frcR a x i).2 = true
    · rw [if_pos h2, hcv]; exact adP_agr _ ih
    · rw [if_neg h2]
      rcases ih with ⟨_, h, _⟩ | ⟨h3, h4⟩
      · exact absurd h h2
      · refine .inr ⟨?_, by simpa using h2⟩
        unfold adP; rw [h3]; simp
theorem ldP_agr {a : ActR} {s r : Rat × Bool} (h : Agr s r) : ∀ i : Nat, Agr (ldP a s i) (ldR a r i)
  | 0 => h
  | i + 1 => sbP_agr _ (ldP_agr h i)
theorem balA_agr {a : ActR} (x : Rat) (hc : allC a a.parts.length) : Agr (balA a (rts a x a.parts.length) false) (balRA a x) := by
  unfold balA balRA
  rw [rts_len]
  exact ldP_agr (balP_agr x hc (Nat.le_refl _)) _
theorem frcP_true (a : ActR) (l : List Rat) : ∀ i, (frcP a l true i).2 = true
  | 0 => rfl
  | i + 1 => by simp only [frcP, adP]; rw [frcP_true a l i]; simp
theorem balR_none {a : ActR} (x : Rat) : ∀ {n : Nat}, ¬ allC a n → (balR a x n).2 = false
  | 0, h => absurd (fun i hi => absurd hi (Nat.not_lt_zero _)) h
  | n + 1, h => by
    simp only [balR]
    by_cases h2 : (balR a x n).2 = true
    · rw [if_pos h2]
      cases hc : cvP a n with
      | none => rfl
      | some c =>
        have hn : ¬ allC a n := fun h3 => h fun i hi => by
          rcases Nat.lt_or_ge i n with q | q
          · exact h3 i q
          · have : i = n := by omega
            subst this; rw [hc]; rfl
        rw [balR_none x hn] at h2; cases h2
    · rw [if_neg h2]; simpa using h2
theorem ldR_bad {a : ActR} {s : Rat × Bool} (h : s.2 = false) : ∀ n, (ldR a s n).2 = false
  | 0 => h
  | n + 1 => by simp only [ldR, sbR]; rw [if_neg (by rw [ldR_bad h n]; decide)]; exact ldR_bad h n
theorem touP_eq (a : ActR) (x : Rat) : (∀ p, wtsR a x = some (p, true) → touP a x = some p) ∧ ((wtsR a x = none ∨ ∃ p, wtsR a x = some (p, false)) → touP a x = none) := by
  unfold touP wtsR
  by_cases hc : allC a a.parts.length
  · rw [if_pos hc]
    simp only
    have hf := frcP_agr x hc (Nat.le_refl a.parts.length)
    rcases balA_agr x hc with ⟨h1, h2, h3, h4⟩ | ⟨h1, h2⟩
    · rw [h1, h2, h3]
      unfold frcRA
      rcases hf with ⟨k1, k2, k3, k4⟩ | ⟨k1, k2⟩
      · rw [k1, k2, k3, if_pos ⟨rfl, rfl⟩]
        by_cases s1 : sm ((balRA a x).1 + (frcR a x a.parts.length).1)
        · by_cases s2 : sm ((balRA a x).1 - (frcR a x a.parts.length).1)
          · rw [smB_of s1, smB_of s2, cut_sm s1, cut_sm s2, if_neg (by decide)]
            refine ⟨fun p hp => ?_, fun h => ?_⟩
            · cases hp; rfl
            · rcases h with h | ⟨p, h⟩ <;> cases h
          · rw [smB_no s2, if_pos (by simp)]
            refine ⟨fun p hp => ?_, fun _ => rfl⟩
            simp at hp
        · rw [smB_no s1, if_pos (by simp)]
          refine ⟨fun p hp => ?_, fun _ => rfl⟩
          simp at hp
      · rw [k1, k2, if_neg (by simp), if_pos (by simp)]
        exact ⟨fun p hp => (by cases hp), fun _ => rfl⟩
    · rw [h1, h2, frcP_true, if_neg (by simp), if_pos (by simp)]
      exact ⟨fun p hp => (by cases hp), fun _ => rfl⟩
  · rw [if_neg hc]
    have : (balRA a x).2 = false := by unfold balRA; exact ldR_bad (balR_none x hc) _
    rw [this, if_neg (by simp)]
    exact ⟨fun p hp => (by cases hp), fun _ => rfl⟩
end Go.Proofs.YtihbeoplchiikaaGreatDoor
/- the events that happen, in their order -/
namespace Go.Proofs.YtihbeoplchiikaaGreatDoor
open Go.RowKit
abbrev Hp := Nat × Rat
def hp0 : Hp := (0, 0)
def hpV (h : Hp) : List V := [.int .i64 (h.1 : Int), .int .i64 h.2.num, .int .i64 (h.2.den : Int)]
def hpsV (l : List Hp) : List (List V) := l.map hpV
theorem hpsV_length {l : List Hp} : (hpsV l).length = l.length := by simp [hpsV]
theorem hpsV_get {l : List Hp} {i : Nat} (h : i < l.length) : (hpsV l)[i]? = some (hpV (l.getD i hp0)) := by
  unfold hpsV; rw [List.getElem?_map, list_get h]; rfl
/-- the events before the one with number n that happen, or nothing if one is too large -/
def hapP (a : ActR) : Nat → Option (List Hp)
  | 0 => some []
  | i + 1 => match hapP a i with
    | none => none
    | some l => match evtP a i with
      | (some x, _) => some (l ++ [(i, x)])
      | (none, e) => if e = 12 then some l else none
/-- an event put into ordered ones -/
def insHN (l : List Hp) (x : Rat) : Nat := (l.takeWhile fun p => decide (p.2 ≤ x)).length
def insH (l : List Hp) (d : Hp) : List Hp := l.take (insHN l d.2) ++ d :: l.drop (insHN l d.2)
def srtH (l : List Hp) : List Hp := l.foldl insH []
theorem srtH_snoc (l : List Hp) (d : Hp) : srtH (l ++ [d]) = insH (srtH l) d := by unfold srtH; rw [List.foldl_append]; rfl
theorem insHN_le (l : List Hp) (x : Rat) : insHN l x ≤ l.length := (List.takeWhile_prefix _).length_le
theorem insH_len (l : List Hp) (d : Hp) : (insH l d).length = l.length + 1 := by
  have := insHN_le l d.2
  simp [insH]; omega
abbrev SrtL (l : List Hp) : Prop := l.Pairwise fun p q => p.2 ≤ q.2
theorem take_while : ∀ {l : List Hp} {x : Rat}, ∀ p ∈ l.take (insHN l x), p.2 ≤ x
  | [], x, p, h => by simp at h
  | q :: l, x, p, h => by
    unfold insHN at h
    rw [List.takeWhile_cons] at h
    split at h
    · rename_i hq
      rw [List.length_cons, List.take_succ_cons, List.mem_cons] at h
      rcases h with h | h
      · subst h; simpa using hq
      · exact take_while p h
    · simp at h
theorem srt_getD {l : List Hp} (h : SrtL l) {i j : Nat} (hij : i ≤ j) (hj : j < l.length) : (l.getD i hp0).2 ≤ (l.getD j hp0).2 := by
  have hg : ∀ k (hk : k < l.length), l.getD k hp0 = l[k] := fun k hk => by rw [List.getD_eq_getElem?_getD, List.getElem?_eq_getElem hk]; rfl
  rcases Nat.lt_or_ge i j with h1 | h1
  · rw [hg i (by omega), hg j hj]
    exact List.pairwise_iff_getElem.1 h i j (by omega) hj h1
  · have : i = j := by omega
    subst this; exact Rat.le_refl
theorem insHN_at {l : List Hp} {x : Rat} (h : insHN l x < l.length) : x < (l.getD (insHN l x) hp0).2 := by
  induction l with
  | nil => simp at h
  | cons p l ih =>
    unfold insHN at h ⊢
    rw [List.takeWhile_cons] at h ⊢
    split at h
    · rename_i hp
      rw [if_pos hp]
      simp only [List.length_cons] at h ⊢
      exact ih (by simpa [insHN] using h)
    · rename_i hp
      rw [if_neg hp]
      exact Rat.not_le.1 (by simpa using hp)
theorem insHN_uniq {l : List Hp} (hs : SrtL l) {x : Rat} {n : Nat} (hn : n ≤ l.length) (h1 : 0 < n → (l.getD (n - 1) hp0).2 ≤ x) (h2 : n < l.length → x < (l.getD n hp0).2) : n = insHN l x := by
  have hc := insHN_le l x
  rcases Nat.lt_trichotomy n (insHN l x) with h3 | h3 | h3
  · exfalso
    have h4 := h2 (by omega)
    have h5 : l.getD n hp0 ∈ l.take (insHN l x) := by
      have hg : l.getD n hp0 = l[n]'(by omega) := by rw [List.getD_eq_getElem?_getD, List.getElem?_eq_getElem (by omega)]; rfl
      rw [hg]
      exact List.mem_take_iff_getElem.2 ⟨n, by omega, rfl⟩
    have := take_while _ h5
    grind
  · exact h3
  · exfalso
    have h4 := h1 (by omega)
    have h5 := insHN_at (l := l) (x := x) (by omega)
    have h6 := srt_getD hs (i := insHN l x) (j := n - 1) (by omega) (by omega)
    grind
theorem drop_while {l : List Hp} (hs : SrtL l) {x : Rat} : ∀ p ∈ l.drop (insHN l x), x < p.2 := by
  intro p hp
  obtain ⟨i, hi, rfl⟩ := List.getElem_of_mem hp
  rw [List.getElem_drop]
  rw [List.length_drop] at hi
  have h1 := insHN_at (l := l) (x := x) (by omega)
  have h2 := srt_getD hs (i := insHN l x) (j := insHN l x + i) (by omega) (by omega)
  have hg : l.getD (insHN l x + i) hp0 = l[insHN l x + i]'(by omega) := by rw [List.getD_eq_getElem?_getD, List.getElem?_eq_getElem (by omega)]; rfl
  rw [hg] at h2
  grind
theorem insH_srt {l : List Hp} (hs : SrtL l) (d : Hp) : SrtL (insH l d) := by
  have hs' := hs
  rw [← List.take_append_drop (insHN l d.2) l, SrtL, List.pairwise_append] at hs'
  obtain ⟨a1, a2, a3⟩ := hs'
  unfold insH
  rw [SrtL, List.pairwise_append, List.pairwise_cons]
  refine ⟨a1, ⟨fun p hp => Rat.le_of_lt (drop_while hs p hp), a2⟩, fun p hp q hq => ?_⟩
  rcases List.mem_cons.1 hq with hq | hq
  · subst hq; exact take_while p hp
  · exact a3 p hp q hq
theorem insH_mem {l : List Hp} {d p : Hp} : p ∈ insH l d ↔ p = d ∨ p ∈ l := by
  unfold insH
  rw [List.mem_append, List.mem_cons]
  constructor
  · rintro (h | h | h)
    · exact .inr (List.mem_of_mem_take h)
    · exact .inl h
    · exact .inr (List.mem_of_mem_drop h)
  · rintro (h | h)
    · exact .inr (.inl h)
    · rw [← List.take_append_drop (insHN l d.2) l, List.mem_append] at h
      rcases h with h | h
      · exact .inl h
      · exact .inr (.inr h)
theorem foldl_srt {l r : List Hp} (h : SrtL r) : SrtL (l.foldl insH r) := by
  induction l generalizing r with
  | nil => exact h
  | cons d l ih => exact ih (insH_srt h d)
theorem srtH_srt (l : List Hp) : SrtL (srtH l) := foldl_srt List.Pairwise.nil
theorem foldl_mem {l r : List Hp} {p : Hp} : p ∈ l.foldl insH r ↔ p ∈ l ∨ p ∈ r := by
  induction l generalizing r with
  | nil => simp
  | cons d l ih =>
    rw [List.foldl_cons, ih, insH_mem, List.mem_cons]
    constructor
    · rintro (h | h | h)
      · exact .inl (.inr h)
      · exact .inl (.inl h)
      · exact .inr h
    · rintro ((h | h) | h)
      · exact .inr (.inl h)
      · exact .inl h
      · exact .inr (.inr h)
theorem srtH_mem {l : List Hp} {p : Hp} : p ∈ srtH l ↔ p ∈ l := by unfold srtH; rw [foldl_mem]; simp
theorem foldl_len {l r : List Hp} : (l.foldl insH r).length = l.length + r.length := by
  induction l generalizing r with
  | nil => simp
  | cons d l ih => rw [List.foldl_cons, ih, insH_len, List.length_cons]; omega
theorem srtH_len (l : List Hp) : (srtH l).length = l.length := by unfold srtH; rw [foldl_len]; simp
/-- the numbers ascend -/
abbrev NumL (l : List Hp) : Prop := l.Pairwise fun p q => p.1 < q.1
theorem hapP_num {a : ActR} : ∀ {n : Nat} {l : List Hp}, hapP a n = some l → NumL l ∧ ∀ p ∈ l, p.1 < n ∧ evtP a p.1 = (some p.2, (evtP a p.1).2)
  | 0, l, h => by simp [hapP] at h; subst h; simp
  | n + 1, l, h => by
    unfold hapP at h
    cases hl : hapP a n with
    | none => rw [hl] at h; cases h
    | some l0 =>
      rw [hl] at h
      obtain ⟨h1, h2⟩ := hapP_num hl
      have up : ∀ p ∈ l0, p.1 < n + 1 ∧ evtP a p.1 = (some p.2, (evtP a p.1).2) := fun p hp => ⟨by have := (h2 p hp).1; omega, (h2 p hp).2⟩
      simp only at h
      split at h
      · rename_i x e he
        cases h
        refine ⟨?_, fun p hp => ?_⟩
        · rw [NumL, List.pairwise_append]
          refine ⟨h1, by simp, fun p hp q hq => ?_⟩
          rw [List.mem_singleton] at hq; subst hq
          exact (h2 p hp).1
        · rcases List.mem_append.1 hp with hp | hp
          · exact up p hp
          · rw [List.mem_singleton] at hp; subst hp
            exact ⟨Nat.lt_succ_self _, by rw [he]⟩
      · split at h
        · cases h; exact ⟨h1, up⟩
        · cases h
theorem hapP_len {a : ActR} : ∀ {n : Nat} {l : List Hp}, hapP a n = some l → l.length ≤ n
  | 0, l, h => by simp [hapP] at h; subst h; simp
  | n + 1, l, h => by
    unfold hapP at h
    cases hl : hapP a n with
    | none => rw [hl] at h; cases h
    | some l0 =>
      rw [hl] at h
      have := hapP_len hl
      simp only at h
      split at h
      · cases h; simp; omega
      · split at h
        · cases h; omega
        · cases h
/-- all events that happen, in their order -/
def hapS (a : ActR) : Option (List Hp) := (hapP a a.evs.length).map srtH
def nmH (a : ActR) (h : Hp) : List UInt8 := (a.evs.getD h.1 e0).name
theorem hapP_up {a : ActR} {n : Nat} (h : hapP a n = none) : ∀ {m : Nat}, n ≤ m → hapP a m = none
  | 0, hm => by
    have : n = 0 := by omega
    subst this; exact h
  | m + 1, hm => by
    rcases Nat.lt_or_ge n (m + 1) with q | q
    · unfold hapP
      rw [hapP_up h (m := m) (by omega)]
    · have : n = m + 1 := by omega
      subst this; exact h
end Go.Proofs.YtihbeoplchiikaaGreatDoor
/- insertion sort of events by their dips -/
namespace Go.Proofs.YtihbeoplchiikaaGreatDoor
open Go.RowKit
/-- an event on its way through ordered ones -/
def mvH (s : List Hp) (d : Hp) (r : List Hp) (j : Nat) : List Hp := s.take j ++ d :: (s.drop j ++ r)
theorem mvH_end (s r : List Hp) (d : Hp) : mvH s d r s.length = s ++ d :: r := by simp [mvH]
theorem mvH_ins (s r : List Hp) (d : Hp) : mvH s d r (insHN s d.2) = insH s d ++ r := by simp [mvH, insH]
theorem mvH_at {s r : List Hp} {d : Hp} {j : Nat} (h : j ≤ s.length) : (mvH s d r j)[j]? = some d := by
  unfold mvH
  rw [List.getElem?_append_right (by rw [List.length_take]; omega), List.length_take, Nat.min_eq_left h, Nat.sub_self]; rfl
theorem mvH_bef {s r : List Hp} {d : Hp} {j : Nat} (h0 : 0 < j) (h : j ≤ s.length) : (mvH s d r j)[j - 1]? = some (s.getD (j - 1) hp0) := by
  unfold mvH
  rw [List.getElem?_append_left (by rw [List.length_take]; omega), List.getElem?_take_of_lt (by omega), list_get (d := hp0) (by omega)]
theorem mvH_step {s r : List Hp} {d : Hp} {j : Nat} (h0 : 0 < j) (h : j ≤ s.length) : ((mvH s d r j).set j (s.getD (j - 1) hp0)).set (j - 1) d = mvH s d r (j - 1) := by
  obtain ⟨i, rfl⟩ : ∃ i, j = i + 1 := ⟨j - 1, by omega⟩
  rw [Nat.add_sub_cancel]
  have hi : i < s.length := by omega
  have hg : s.getD i hp0 = s[i] := by rw [List.getD_eq_getElem?_getD, List.getElem?_eq_getElem hi]; rfl
  rw [hg]
  unfold mvH
  have e1 : s.take (i + 1) = s.take i ++ [s[i]] := List.take_succ_eq_append_getElem hi
  have e2 : s.drop i = s[i] :: s.drop (i + 1) := List.drop_eq_getElem_cons hi
  have l1 : (s.take (i + 1)).length = i + 1 := by rw [List.length_take]; omega
  have l2 : (s.take i).length = i := by rw [List.length_take]; omega
  rw [List.set_append_right _ _ (by omega), l1, Nat.sub_self, List.set_cons_zero, e1, List.append_assoc, List.set_append_right _ _ (by omega), l2, Nat.sub_self, e2]
  rfl
theorem hpsV_set {c : List Hp} {i : Nat} {p : Hp} : (hpsV c).set i (hpV p) = hpsV (c.set i p) := by simp [hpsV, List.map_set]
theorem hpsV_flat (l : List Hp) : (hpsV l).all flatL = true := by simp [hpsV, hpV, flatL, V.flat]
theorem hpsV_plain (l : List Hp) : plainLL (hpsV l) = true := by
  induction l with
  | nil => rfl
  | cons x xs ih => simp only [hpsV, List.map_cons, plainLL, hpV, plainL, V.plain, Bool.true_and] at ih ⊢; exact ih
/-- how two events are compared -/
def cmpH (x y : Hp) : Int := if cmpQ x.2 y.2 ≠ 0 then cmpQ x.2 y.2 else cmpI x.1 y.1
theorem cmpH_neg {x y : Hp} (h : y.1 < x.1) : cmpH x y < 0 ↔ x.2 < y.2 := by
  unfold cmpH
  split
  · exact cmpQ_lt
  · rename_i h0
    have h1 := Decidable.not_not.1 h0
    have h2 := cmpQ_zero.1 h1
    rw [cmpI_lt]
    constructor
    · intro h3; omega
    · intro h3; rw [h2] at h3; exact absurd h3 Rat.lt_irrefl
theorem srtH_take_succ {l : List Hp} {i : Nat} (h : i < l.length) : srtH (l.take (i + 1)) = insH (srtH (l.take i)) (l.getD i hp0) := by
  rw [List.take_succ_eq_append_getElem h, srtH_snoc]
  congr 1
  rw [List.getD_eq_getElem?_getD, List.getElem?_eq_getElem h]; rfl
/-- the list when the first i are ordered -/
def insS (l : List Hp) (i : Nat) : List Hp := srtH (l.take i) ++ l.drop i
theorem insS_len (l : List Hp) (i : Nat) : (insS l i).length = l.length := by
  unfold insS
  rw [List.length_append, srtH_len, List.length_take, List.length_drop]; omega
theorem insS_one (l : List Hp) : insS l 1 = l := by
  unfold insS
  cases l with
  | nil => rfl
  | cons p l => rfl
theorem insS_end (l : List Hp) : insS l l.length = srtH l := by simp [insS]
theorem insS_mv {l : List Hp} {i : Nat} (h : i < l.length) : insS l i = mvH (srtH (l.take i)) (l.getD i hp0) (l.drop (i + 1)) i := by
  have hl : (srtH (l.take i)).length = i := by rw [srtH_len, List.length_take]; omega
  have := mvH_end (srtH (l.take i)) (l.drop (i + 1)) (l.getD i hp0)
  rw [hl] at this
  rw [this]
  unfold insS
  rw [List.drop_eq_getElem_cons h]
  congr 2
  rw [List.getD_eq_getElem?_getD, List.getElem?_eq_getElem h]; rfl
theorem insS_next {l : List Hp} {i j : Nat} (h : i < l.length) (hj : j = insHN (srtH (l.take i)) (l.getD i hp0).2) : mvH (srtH (l.take i)) (l.getD i hp0) (l.drop (i + 1)) j = insS l (i + 1) := by
  subst hj
  rw [mvH_ins]
  unfold insS
  rw [srtH_take_succ h]
/-- the numbers of the ordered ones are lesser -/
theorem ins_num {l : List Hp} (hn : NumL l) {i j : Nat} (h : i < l.length) (hj : j < i) : ((srtH (l.take i)).getD j hp0).1 < (l.getD i hp0).1 := by
  have hl : (srtH (l.take i)).length = i := by rw [srtH_len, List.length_take]; omega
  have hm : (srtH (l.take i)).getD j hp0 ∈ srtH (l.take i) := by
    rw [List.getD_eq_getElem?_getD, List.getElem?_eq_getElem (by omega)]
    exact List.getElem_mem _
  rw [srtH_mem] at hm
  obtain ⟨k, hk, e⟩ := List.mem_take_iff_getElem.1 hm
  rw [← e]
  have hg : l.getD i hp0 = l[i] := by rw [List.getD_eq_getElem?_getD, List.getElem?_eq_getElem h]; rfl
  rw [hg]
  exact List.pairwise_iff_getElem.1 hn k i (by omega) h (by omega)
end Go.Proofs.YtihbeoplchiikaaGreatDoor
/- the gaps of events, two ways; orders of events -/
namespace Go.Proofs.YtihbeoplchiikaaGreatDoor
open Go.RowKit
/-! the first one that is wrong, with its number -/
/-- names of events -/
abbrev Nms := List (List UInt8)
end Go.Proofs.YtihbeoplchiikaaGreatDoor
/- the events that have happened -/
namespace Go.Proofs.YtihbeoplchiikaaGreatDoor
open Go.RowKit
theorem hapP_has {a : ActR} : ∀ {n : Nat} {l : List Hp}, hapP a n = some l → ∀ {i : Nat} {x : Rat} {e : Int}, i < n → evtP a i = (some x, e) → (i, x) ∈ l
  | 0, l, _, i, x, e, hi, _ => by omega
  | n + 1, l, h, i, x, e, hi, hx => by
    unfold hapP at h
    cases hl : hapP a n with
    | none => rw [hl] at h; cases h
    | some l0 =>
      rw [hl] at h
      simp only at h
      rcases Nat.lt_or_ge i n with h1 | h1
      · have ih := hapP_has hl h1 hx
        split at h
        · cases h; exact List.mem_append_left _ ih
        · split at h
          · cases h; exact ih
          · cases h
      · have e1 : i = n := by omega
        subst e1
        rw [hx] at h
        cases h
        exact List.mem_append_right _ (List.mem_singleton.2 rfl)
/-- none is too large -/
theorem hapP_ok {a : ActR} : ∀ {n : Nat} {l : List Hp}, hapP a n = some l → ∀ {i : Nat}, i < n → (∃ x, evtP a i = (some x, 0)) ∨ evtP a i = (none, 12)
  | 0, l, _, i, hi => by omega
  | n + 1, l, h, i, hi => by
    unfold hapP at h
    cases hl : hapP a n with
    | none => rw [hl] at h; cases h
    | some l0 =>
      rw [hl] at h
      rcases Nat.lt_or_ge i n with h1 | h1
      · exact hapP_ok hl h1
      · have e1 : i = n := by omega
        subst e1
        simp only at h
        rcases evtP_code a i with ⟨x, hx⟩ | hx | hx
        · exact .inl ⟨x, hx⟩
        · rw [hx] at h; simp at h
        · exact .inr hx
/-- what has happened at a dip: the names -/
def hapN (a : ActR) (l : List Hp) : Nms := l.map (nmH a)
theorem hapN_len (a : ActR) (l : List Hp) : (hapN a l).length = l.length := by simp [hapN]
theorem hapS_srt {a : ActR} {l : List Hp} (h : hapS a = some l) : SrtL l ∧ l.length ≤ a.evs.length := by
  unfold hapS at h
  cases hp : hapP a a.evs.length with
  | none => rw [hp] at h; cases h
  | some l0 =>
    rw [hp] at h
    cases h
    exact ⟨srtH_srt _, by rw [srtH_len]; exact hapP_len hp⟩
theorem hapS_mem {a : ActR} {l : List Hp} (h : hapS a = some l) {i : Nat} {x : Rat} : (i, x) ∈ l ↔ i < a.evs.length ∧ evtP a i = (some x, 0) := by
  unfold hapS at h
  cases hp : hapP a a.evs.length with
  | none => rw [hp] at h; cases h
  | some l0 =>
    rw [hp] at h
    cases h
    rw [srtH_mem]
    constructor
    · intro hm
      obtain ⟨_, h2⟩ := hapP_num hp
      obtain ⟨h3, h4⟩ := h2 _ hm
      rcases hapP_ok hp h3 with ⟨y, hy⟩ | hy
      · rw [hy] at h4
        simp only at h4
        dsimp only at hy
        refine ⟨h3, ?_⟩
        rw [hy]
        injection h4 with h5 _
        rw [h5]
      · rw [hy] at h4; cases h4
    · rintro ⟨h1, h2⟩
      exact hapP_has hp h1 h2
end Go.Proofs.YtihbeoplchiikaaGreatDoor
/- what an order that is accepted says -/
namespace Go.Proofs.YtihbeoplchiikaaGreatDoor
open Go.RowKit
end Go.Proofs.YtihbeoplchiikaaGreatDoor
/- a curve of a curve, as the reference makes it: corner by corner, each put into its place -/
namespace Go.Proofs.YtihbeoplchiikaaGreatDoor
open Go.RowKit
theorem tw_at {α : Type} {f : α → Bool} {d : α} : ∀ {l : List α} {n : Nat}, n ≤ l.length → (∀ j, j < n → f (l.getD j d) = true) → (n = l.length ∨ f (l.getD n d) = false) → (l.takeWhile f).length = n
  | [], n, hn, _, _ => by simp at hn; subst hn; rfl
  | a :: l, 0, _, _, h2 => by
    rcases h2 with h2 | h2
    · simp at h2
    · have : f a = false := h2
      rw [List.takeWhile_cons_of_neg (by rw [this]; decide)]; rfl
  | a :: l, n + 1, hn, h, h2 => by
    have h0 : f a = true := h 0 (Nat.succ_pos _)
    rw [List.takeWhile_cons_of_pos h0, List.length_cons]
    have hn' : n ≤ l.length := by simpa using hn
    rw [tw_at (d := d) hn' (fun j hj => h (j + 1) (by omega)) (by
      rcases h2 with h2 | h2
      · exact .inl (by simpa using h2)
      · exact .inr h2)]
/-- the place of a corner among ascending ones -/
def kinN (l : List Pt) (x : Rat) : Nat := (l.takeWhile fun p => decide (p.1 < x)).length
def kinP (l : List Pt) (k : Pt) : List Pt := l.take (kinN l k.1) ++ k :: l.drop (kinN l k.1)
theorem kinN_at {l : List Pt} {x : Rat} {n : Nat} (hn : n ≤ l.length) (h : ∀ j, j < n → (at' l j).1 < x) (h2 : n = l.length ∨ ¬ (at' l n).1 < x) : kinN l x = n :=
  tw_at (d := (0, 0)) hn (fun j hj => decide_eq_true (h j hj)) (h2.imp_right fun h => decide_eq_false h)
theorem kinP_mid {L M : List Pt} {k : Pt} (h1 : ∀ p ∈ L, p.1 < k.1) (h2 : ∀ p ∈ M, ¬ p.1 < k.1) : kinP (L ++ M) k = L ++ k :: M := by
  have e : kinN (L ++ M) k.1 = L.length := by
    unfold kinN
    rw [List.takeWhile_append_of_pos fun p hp => decide_eq_true (h1 p hp), List.length_append]
    have : M.takeWhile (fun p => decide (p.1 < k.1)) = [] := by
      cases M with
      | nil => rfl
      | cons q r => exact List.takeWhile_cons_of_neg (by simpa using h2 q List.mem_cons_self)
    rw [this]; rfl
  unfold kinP
  rw [e, List.take_left, List.drop_left]
theorem kinP_end {L : List Pt} {k : Pt} (h1 : ∀ p ∈ L, p.1 < k.1) : kinP L k = L ++ [k] := by
  have := kinP_mid (M := []) h1 (fun p hp => by cases hp)
  rw [List.append_nil] at this
  exact this
/-- a corner of the outer curve that lies within the stretch -/
def inR (u v x : Rat) : Prop := u < x ∧ x < v ∨ v < x ∧ x < u
theorem betwP_zero (o : List Pt) (u v : Rat) : betwP (o.take 0) u v = [] := by unfold betwP; split <;> rfl
theorem betwP_no {o : List Pt} {u v : Rat} {n : Nat} (hn : n < o.length) (h : ¬ inR u v (at' o n).1) : betwP (o.take (n + 1)) u v = betwP (o.take n) u v := by
  unfold inR at h
  unfold betwP
  split
  · rw [betw_succ hn, if_neg (by grind), List.append_nil]
  · rw [betw_succ hn, if_neg (by grind), List.append_nil]
theorem betwP_yes {o : List Pt} {u v : Rat} {n : Nat} (hn : n < o.length) (h : inR u v (at' o n).1) : betwP (o.take (n + 1)) u v = if v < u then at' o n :: betwP (o.take n) u v else betwP (o.take n) u v ++ [at' o n] := by
  unfold inR at h
  unfold betwP
  by_cases hv : v < u
  · rw [if_pos hv, if_pos hv, if_pos hv, betw_succ hn, if_pos (by grind), List.reverse_append]
    rfl
  · rw [if_neg hv, if_neg hv, if_neg hv, betw_succ hn, if_pos (by grind)]
theorem betwP_mem {o : List Pt} {u v : Rat} {n : Nat} {k : Pt} (h : k ∈ betwP (o.take n) u v) : inR u v k.1 ∧ ∃ j, j < n ∧ j < o.length ∧ at' o j = k := by
  have key : k ∈ o.take n ∧ inR u v k.1 := by
    unfold betwP at h
    unfold inR
    split at h
    · have := betw_mem (List.mem_reverse.1 h); exact ⟨this.1, .inr this.2⟩
    · have := betw_mem h; exact ⟨this.1, .inl this.2⟩
  refine ⟨key.2, ?_⟩
  obtain ⟨j, hj, e⟩ := List.getElem_of_mem key.1
  rw [List.length_take] at hj
  refine ⟨j, by omega, by omega, ?_⟩
  rw [← e, List.getElem_take]
  exact (at_getE (by omega)).symm
def alAll (o c : List Pt) (i n : Nat) : Prop := ∀ k ∈ betwP (o.take n) (at' c i).2 (at' c (i + 1)).2, alOk (at' c i) (at' c (i + 1)) k.1
/-- all corners before the outer one with number n, on the stretch behind corner i -/
def rcm (o c : List Pt) (i n : Nat) : List Pt := cmpL o c i ++ valK o c i :: midL o c i (betwP (o.take n) (at' c i).2 (at' c (i + 1)).2)
section
variable {o c : List Pt} {i n : Nat}
theorem rcm_zero : rcm o c i 0 = cmpL o c i ++ [valK o c i] := by unfold rcm; rw [betwP_zero]; rfl
theorem val_ins (ho : Valid o) (hc : Valid c) (hi : i < c.length) (hg : cmpG o c i = false) : kinP (cmpL o c i) (valK o c i) = rcm o c i 0 := by
  rw [rcm_zero]
  exact kinP_end fun p hp => (cmpL_asc ho hc (by omega) hg).2 p hp hi
theorem rcm_no (hn : n < o.length) (h : ¬ inR (at' c i).2 (at' c (i + 1)).2 (at' o n).1) : rcm o c i (n + 1) = rcm o c i n := by unfold rcm; rw [betwP_no hn h]
theorem alAll_no (hn : n < o.length) (h : ¬ inR (at' c i).2 (at' c (i + 1)).2 (at' o n).1) (ha : alAll o c i n) : alAll o c i (n + 1) := by unfold alAll at *; rw [betwP_no hn h]; exact ha
theorem alAll_yes (hn : n < o.length) (h : inR (at' c i).2 (at' c (i + 1)).2 (at' o n).1) (ha : alAll o c i n) (hk : alOk (at' c i) (at' c (i + 1)) (at' o n).1) : alAll o c i (n + 1) := by
  unfold alAll at *
  rw [betwP_yes hn h]
  split
  · intro k hm
    rcases List.mem_cons.1 hm with rfl | hm
    · exact hk
    · exact ha k hm
  · intro k hm
    rcases List.mem_append.1 hm with hm | hm
    · exact ha k hm
    · rw [List.mem_singleton.1 hm]; exact hk
theorem inR_ne {u v x : Rat} (h : inR u v x) : u ≠ v := by unfold inR at h; grind
theorem al_x (hc : Valid c) (hi : i + 1 < c.length) {x : Rat} (hx : inR (at' c i).2 (at' c (i + 1)).2 x) (hk : alOk (at' c i) (at' c (i + 1)) x) : xG false (at' c i) (slP (at' c i) (at' c (i + 1))) x = false ∧ xP (at' c i) (slP (at' c i) (at' c (i + 1))) x = alE (at' c i) (at' c (i + 1)) x := by
  rw [(slP_ok (hc.sl i hi) (hc.up i hi) false).1]
  exact (xG_al (sl_ne (hc.up i hi) (inR_ne hx)) false).1 hk
theorem rcm_yes (ho : Valid o) (hc : Valid c) (hi : i + 1 < c.length) (hg : cmpG o c i = false) (hn : n < o.length) (h : inR (at' c i).2 (at' c (i + 1)).2 (at' o n).1) (ha : alAll o c i n) (hk : alOk (at' c i) (at' c (i + 1)) (at' o n).1) :
    kinP (rcm o c i n) (alE (at' c i) (at' c (i + 1)) (at' o n).1, (at' o n).2) = rcm o c i (n + 1) := by
  have hu := hc.up i hi
  have hm := slP_mul hc hi
  obtain ⟨x1, x2⟩ := al_x hc hi h hk
  have hs0 : slP (at' c i) (at' c (i + 1)) ≠ 0 := (xG_ok x1).1
  have hval : ∀ x, xG false (at' c i) (slP (at' c i) (at' c (i + 1))) x = false → xP (at' c i) (slP (at' c i) (at' c (i + 1))) x = (x - (at' c i).2) / slP (at' c i) (at' c (i + 1)) + (at' c i).1 := fun x h => (xG_ok h).2
  have hin : (at' c i).1 < xP (at' c i) (slP (at' c i) (at' c (i + 1))) (at' o n).1 := (stretch_in hu hm (hval _ x1) hs0 h).1
  have hL : ∀ p ∈ cmpL o c i ++ [valK o c i], p.1 < xP (at' c i) (slP (at' c i) (at' c (i + 1))) (at' o n).1 := by
    intro p hp
    rcases List.mem_append.1 hp with hp | hp
    · have := (cmpL_asc ho hc (by omega) hg).2 p hp (by omega)
      grind
    · rw [List.mem_singleton.1 hp]; exact hin
  have hM : ∀ p ∈ midL o c i (betwP (o.take n) (at' c i).2 (at' c (i + 1)).2), ((at' c (i + 1)).2 < (at' c i).2 → ¬ p.1 < xP (at' c i) (slP (at' c i) (at' c (i + 1))) (at' o n).1) ∧ (¬ (at' c (i + 1)).2 < (at' c i).2 → p.1 < xP (at' c i) (slP (at' c i) (at' c (i + 1))) (at' o n).1) := by
    intro p hp
    unfold midL at hp
    obtain ⟨k, hk1, rfl⟩ := List.mem_map.1 hp
    obtain ⟨b1, j, b2, b3, rfl⟩ := betwP_mem hk1
    obtain ⟨y1, _⟩ := al_x hc hi b1 (ha _ hk1)
    have hjn := ho.asc.lt b2 hn
    refine ⟨fun hv => ?_, fun hv => ?_⟩
    · exact Rat.not_lt.2 (Rat.le_of_lt (stretch_lt hu hm (hval _ x1) (hval _ y1) hs0 (.inr ⟨hv, hjn⟩)))
    · have hne := inR_ne h
      exact stretch_lt hu hm (hval _ y1) (hval _ x1) hs0 (.inl ⟨by grind, hjn⟩)
  rw [← x2]
  unfold rcm
  rw [betwP_yes hn h]
  have e : ∀ M : List Pt, cmpL o c i ++ valK o c i :: M = (cmpL o c i ++ [valK o c i]) ++ M := fun M => by simp
  rw [e (midL o c i (betwP (o.take n) (at' c i).2 (at' c (i + 1)).2))]
  split
  · rename_i hv
    rw [kinP_mid hL fun p hp => (hM p hp).1 hv, List.append_assoc]
    rfl
  · rename_i hv
    rw [kinP_end fun p hp => by
      rcases List.mem_append.1 hp with hp | hp
      · exact hL p hp
      · exact (hM p hp).2 hv]
    rw [midL_snoc, List.append_assoc, List.append_assoc]
    rfl
theorem rcm_all (hi : i + 1 < c.length) : rcm o c i o.length = cmpL o c (i + 1) := by
  unfold rcm
  rw [List.take_of_length_le (Nat.le_refl _)]
  simp only [cmpL]
  rw [if_pos hi]
  rfl
theorem rcm_last (hi : ¬ i + 1 < c.length) : rcm o c i 0 = cmpL o c (i + 1) := by
  rw [rcm_zero]
  simp only [cmpL]
  rw [if_neg hi]
theorem midG_of {l : List Pt} (h : ∀ k ∈ l, xG false (at' c i) (slP (at' c i) (at' c (i + 1))) k.1 = false) : midG c i l false = false := by
  induction l with
  | nil => rfl
  | cons k l ih =>
    unfold midG
    rw [List.foldl_cons, h k List.mem_cons_self]
    exact ih fun k hk => h k (List.mem_cons_of_mem _ hk)
theorem cmpG_next (ho : Valid o) (hc : Valid c) (hi : i < c.length) (hg : cmpG o c i = false) (hv : valOk o (at' c i).2) (ha : i + 1 < c.length → alAll o c i o.length) : cmpG o c (i + 1) = false := by
  have hvg : valG o c i (cmpG o c i) = false := by unfold valG; rw [hg]; exact (vP_ok ho hv false).2
  simp only [cmpG]
  rw [hvg]
  split
  · rename_i h
    rw [(slP_ok (hc.sl i h) (hc.up i h) false).2]
    have ha := ha h
    unfold alAll at ha
    rw [List.take_of_length_le (Nat.le_refl _)] at ha
    refine midG_of fun k hk => ?_
    have hk' : k ∈ betwP (o.take o.length) (at' c i).2 (at' c (i + 1)).2 := by rw [List.take_of_length_le (Nat.le_refl _)]; exact hk
    exact (al_x hc h (betwP_mem hk').1 (ha k hk)).1
  · rfl
theorem cmpG_dn {j : Nat} (h : cmpG o c j = false) (hij : i ≤ j) : cmpG o c i = false := by
  induction j with
  | zero => have : i = 0 := by omega
            subst this; exact h
  | succ j ih =>
    rcases Nat.lt_or_ge i (j + 1) with q | q
    · exact ih (cmpG_step h).1 (by omega)
    · have : i = j + 1 := by omega
      subst this; exact h
theorem cmpG_badV (ho : Valid o) (hi : i < c.length) (hv : ¬ valOk o (at' c i).2) : cmpG o c c.length = true := by
  cases h : cmpG o c c.length with
  | true => rfl
  | false =>
    exfalso
    have h1 := cmpG_dn (i := i + 1) h (by omega)
    have h2 := (cmpG_step h1).2.1
    unfold valG at h2
    rw [vG_bad ho hv] at h2
    cases h2
theorem cmpG_badA (hc : Valid c) (hi : i + 1 < c.length) (hn : n < o.length) (h : inR (at' c i).2 (at' c (i + 1)).2 (at' o n).1) (hk : ¬ alOk (at' c i) (at' c (i + 1)) (at' o n).1) : cmpG o c c.length = true := by
  cases hcp : cmpG o c c.length with
  | true => rfl
  | false =>
    exfalso
    have h1 := cmpG_dn (i := i + 1) hcp (by omega)
    obtain ⟨_, h2⟩ := midG_ok ((cmpG_step h1).2.2 hi)
    have hm : at' o n ∈ midK o c i := by
      have h3 : at' o n ∈ betwP (o.take (n + 1)) (at' c i).2 (at' c (i + 1)).2 := by
        rw [betwP_yes hn h]
        split <;> simp
      unfold midK
      unfold betwP betw at h3 ⊢
      split at h3
      · rw [if_pos (by assumption), List.mem_reverse, List.mem_filter] at *
        exact ⟨mem_at hn, h3.2⟩
      · rw [if_neg (by assumption), List.mem_filter] at *
        exact ⟨mem_at hn, h3.2⟩
    have h4 := h2 _ hm
    rw [(slP_ok (hc.sl i hi) (hc.up i hi) false).1] at h4
    rw [(xG_al (sl_ne (hc.up i hi) (inR_ne h)) false).2 hk] at h4
    cases h4
theorem rcm_len : (rcm o c i n).length ≤ (cmpL o c i).length + 1 + o.length := by
  unfold rcm
  rw [List.length_append, List.length_cons, midL_len]
  have : (betwP (o.take n) (at' c i).2 (at' c (i + 1)).2).length ≤ o.length := by
    unfold betwP
    split
    · rw [List.length_reverse]; have := betw_len (o.take n) (at' c (i + 1)).2 (at' c i).2; rw [List.length_take] at this; omega
    · have := betw_len (o.take n) (at' c i).2 (at' c (i + 1)).2; rw [List.length_take] at this; omega
  omega
theorem cmpL_len : ∀ {i : Nat}, (cmpL o c i).length ≤ i * (o.length + 1)
  | 0 => by simp [cmpL]
  | i + 1 => by
    have h1 := cmpL_len (i := i)
    have h2 := midK_len o c i
    simp only [cmpL, List.length_append, List.length_cons]
    rw [Nat.succ_mul]
    split
    · rw [midL_len]; omega
    · simp; omega
theorem rcm_sm (ho : Valid o) (hc : Valid c) (hi : i < c.length) : ∀ p ∈ rcm o c i n, sm p.1 ∧ sm p.2 := by
  intro p hp
  unfold rcm at hp
  rcases List.mem_append.1 hp with hp | hp
  · exact sm_cmpL ho hc (by omega) p hp
  · rcases List.mem_cons.1 hp with rfl | hp
    · exact ⟨(hc.sm i hi).1, sm_vP ho _⟩
    · unfold midL at hp
      obtain ⟨k, hk, rfl⟩ := List.mem_map.1 hp
      obtain ⟨_, j, _, b3, rfl⟩ := betwP_mem hk
      exact ⟨sm_cut _, (ho.sm j b3).2⟩
theorem compP_cu (ho : Valid o) (hc : Valid c) (hg : cmpG o c c.length = false) : (cuErr ((cmpL o c c.length).map raw) = 0 ∧ compP o c = some (cmpL o c c.length)) ∨ (cuErr ((cmpL o c c.length).map raw) ≠ 0 ∧ compP o c = none) := by
  by_cases h : cuErr ((cmpL o c c.length).map raw) = 0
  · refine .inl ⟨h, ?_⟩
    obtain ⟨hv, _⟩ := cuErr_ok h
    rw [map_toP_raw] at hv
    unfold compP
    rw [if_neg]
    rintro (h1 | h1 | h1)
    · rw [hg] at h1; cases h1
    · have := hv.few; omega
    · rw [slsG_of fun i hi => (slG_iff (hv.up i (by omega))).2 (hv.sl i (by omega))] at h1
      cases h1
  · refine .inr ⟨h, ?_⟩
    cases hcp : compP o c with
    | none => rfl
    | some l =>
      exfalso
      have h1 := (compP_some hcp).2.1
      have h2 := cuErr_valid (compP_valid ho hc hcp)
      rw [h1] at h2
      exact h h2
end
end Go.Proofs.YtihbeoplchiikaaGreatDoor
/- balance and friction of the reference, round by round -/
namespace Go.Proofs.YtihbeoplchiikaaGreatDoor
open Go.RowKit
theorem sbR_no {s : Rat × Bool} {p : Rat} (h : s.2 = false) : sbR s p = s := by unfold sbR; rw [if_neg (by rw [h]; decide)]
theorem adR_sm {s : Rat × Bool} {p : Rat} (h : (adR s p).2 = true) : sm (adR s p).1 := by
  unfold adR at *
  by_cases h1 : s.2 = true
  · rw [if_pos h1] at *
    by_cases h2 : sm p
    · rw [if_pos h2] at *; exact smB_iff.1 h
    · rw [if_neg h2] at h; cases h
  · rw [if_neg h1] at h; exact absurd h h1
theorem sbR_sm {s : Rat × Bool} {p : Rat} (h : (sbR s p).2 = true) : sm (sbR s p).1 := by
  unfold sbR at *
  by_cases h1 : s.2 = true
  · rw [if_pos h1] at *
    by_cases h2 : sm p
    · rw [if_pos h2] at *; exact smB_iff.1 h
    · rw [if_neg h2] at h; cases h
  · rw [if_neg h1] at h; exact absurd h h1
theorem balR_sm {a : ActR} {x : Rat} : ∀ {i : Nat}, (balR a x i).2 = true → sm (balR a x i).1
  | 0, _ => sm_zero
  | i + 1, h => by
    simp only [balR] at *
    split at h
    · rename_i h0
      rw [if_pos h0]
      cases hc : cvP a i with
      | none => rw [hc] at h; cases h
      | some c => rw [hc] at h; exact adR_sm h
    · rename_i h0; exact absurd h h0
theorem frcR_sm {a : ActR} {x : Rat} : ∀ {i : Nat}, (frcR a x i).2 = true → sm (frcR a x i).1
  | 0, _ => sm_zero
  | i + 1, h => by
    simp only [frcR] at *
    split at h
    · rename_i h0
      rw [if_pos h0]
      cases hc : cvP a i with
      | none => rw [hc] at h; cases h
      | some c => rw [hc] at h; exact adR_sm h
    · rename_i h0; exact absurd h h0
theorem ldR_sm {a : ActR} {s : Rat × Bool} (hs : s.2 = true → sm s.1) : ∀ {i : Nat}, (ldR a s i).2 = true → sm (ldR a s i).1
  | 0, h => hs h
  | i + 1, h => sbR_sm h
theorem balR_stay {a : ActR} {x : Rat} {i : Nat} (h : (balR a x i).2 = false) : ∀ {n : Nat}, i ≤ n → balR a x n = balR a x i
  | 0, hn => by have : i = 0 := by omega
                subst this; rfl
  | n + 1, hn => by
    rcases Nat.lt_or_ge i (n + 1) with q | q
    · have ih := balR_stay h (n := n) (by omega)
      simp only [balR]
      rw [ih, if_neg (by rw [h]; decide)]
    · have : i = n + 1 := by omega
      subst this; rfl
theorem frcR_stay {a : ActR} {x : Rat} {i : Nat} (h : (frcR a x i).2 = false) : ∀ {n : Nat}, i ≤ n → frcR a x n = frcR a x i
  | 0, hn => by have : i = 0 := by omega
                subst this; rfl
  | n + 1, hn => by
    rcases Nat.lt_or_ge i (n + 1) with q | q
    · have ih := frcR_stay h (n := n) (by omega)
      simp only [frcR]
      rw [ih, if_neg (by rw [h]; decide)]
    · have : i = n + 1 := by omega
      subst this; rfl
theorem ldR_stay {a : ActR} {s : Rat × Bool} {i : Nat} (h : (ldR a s i).2 = false) : ∀ {n : Nat}, i ≤ n → ldR a s n = ldR a s i
  | 0, hn => by have : i = 0 := by omega
                subst this; rfl
  | n + 1, hn => by
    rcases Nat.lt_or_ge i (n + 1) with q | q
    · have ih := ldR_stay h (n := n) (by omega)
      simp only [ldR]
      rw [ih, sbR_no h]
    · have : i = n + 1 := by omega
      subst this; rfl
theorem balR_none' {a : ActR} {x : Rat} {i : Nat} (h : (balR a x i).2 = true) (hc : cvP a i = none) : balR a x (i + 1) = ((balR a x i).1, false) := by
  simp only [balR]; rw [if_pos h, hc]
theorem frcR_none' {a : ActR} {x : Rat} {i : Nat} (h : (frcR a x i).2 = true) (hc : cvP a i = none) : frcR a x (i + 1) = ((frcR a x i).1, false) := by
  simp only [frcR]; rw [if_pos h, hc]
theorem balR_some {a : ActR} {x : Rat} {i : Nat} (h : (balR a x i).2 = true) {c : List Pt} (hc : cvP a i = some c) : balR a x (i + 1) = if sm (((a.parts.getD i p0).wt : Rat) * slopeE c x) then ((balR a x i).1 + ((a.parts.getD i p0).wt : Rat) * slopeE c x, smB ((balR a x i).1 + ((a.parts.getD i p0).wt : Rat) * slopeE c x)) else ((balR a x i).1, false) := by
  simp only [balR]; rw [if_pos h, hc]
  dsimp only
  unfold adR
  rw [if_pos h]
theorem frcR_some {a : ActR} {x : Rat} {i : Nat} (h : (frcR a x i).2 = true) {c : List Pt} (hc : cvP a i = some c) : frcR a x (i + 1) = if sm (((a.parts.getD i p0).fr : Rat) * absQ (slopeE c x)) then ((frcR a x i).1 + ((a.parts.getD i p0).fr : Rat) * absQ (slopeE c x), smB ((frcR a x i).1 + ((a.parts.getD i p0).fr : Rat) * absQ (slopeE c x))) else ((frcR a x i).1, false) := by
  simp only [frcR]; rw [if_pos h, hc]
  dsimp only
  unfold adR
  rw [if_pos h]
theorem ldR_some {a : ActR} {s : Rat × Bool} {i : Nat} (h : (ldR a s i).2 = true) : ldR a s (i + 1) = if sm (ldQ (a.leads.getD i l0)) then ((ldR a s i).1 - ldQ (a.leads.getD i l0), smB ((ldR a s i).1 - ldQ (a.leads.getD i l0))) else ((ldR a s i).1, false) := by
  simp only [ldR]
  unfold sbR
  rw [if_pos h]
end Go.Proofs.YtihbeoplchiikaaGreatDoor
/- plain reading: sets of holes, the fewest first -/
namespace Go.Proofs.YtihbeoplchiikaaGreatDoor
/-- the members of a set of bits -/
def mem (s : Nat) : List Nat := (List.range 8).filter fun i => s.testBit i
def lexC : List Nat → List Nat → Int
  | [], [] => 0
  | [], _ :: _ => -1
  | _ :: _, [] => 1
  | a :: r, b :: s => if a < b then -1 else if b < a then 1 else lexC r s
def cmpK (l b : List Nat) : Int := if l.length < b.length then -1 else if b.length < l.length then 1 else lexC l b
/-- where further members begin -/
def frm (set : List Nat) : Nat := match set.getLast? with
  | none => 0
  | some x => x + 1
/-- the sets with so many members more, in their order -/
def cmb (n : Nat) : Nat → List Nat → List (List Nat)
  | 0, set => [set]
  | k + 1, set => ((List.range n).filter fun i => decide (frm set ≤ i)).flatMap fun i => cmb n k (set ++ [i])
def ordL (n : Nat) : List (List Nat) := (List.range (n + 1)).flatMap fun k => cmb n k []
/-- the best of the first sets of bits -/
def bstL (acc : List Nat → Bool) : Nat → Option (List Nat)
  | 0 => none
  | s + 1 => match bstL acc s with
    | none => if acc (mem s) = true then some (mem s) else none
    | some b => if acc (mem s) = true ∧ cmpK (mem s) b ≤ 0 then some (mem s) else some b
/-- the first one with so many members more -/
def chz (acc : List Nat → Bool) (n : Nat) : Nat → List Nat → Option (List Nat)
  | 0, set => if acc set = true then some set else none
  | k + 1, set => ((List.range n).filter fun i => decide (frm set ≤ i)).findSome? fun i => chz acc n k (set ++ [i])
def allN (n : Nat) (p : Nat → Bool) : Bool := (List.range n).all p
theorem allN_iff {n : Nat} {p : Nat → Bool} (h : allN n p = true) : ∀ i, i < n → p i = true := fun i hi => List.all_eq_true.1 h i (List.mem_range.2 hi)
def okOrd (n : Nat) : Bool :=
  let L := ordL n
  allN (2 ^ n) (fun s => L.contains (mem s)) && L.all (fun x => (List.range (2 ^ n)).any fun s => mem s == x) &&
  L.all (fun x => L.all fun y => decide (cmpK x y ≤ 0) == decide (L.idxOf x ≤ L.idxOf y)) &&
  L.all (fun x => allN x.length fun i => L.contains (x.eraseIdx i) && decide (L.idxOf (x.eraseIdx i) < L.idxOf x)) &&
  L.all (fun x => x.all (fun i => decide (i < n)) && decide (x.length ≤ n) && allN x.length fun i => i == 0 || decide (x.getD (i - 1) 0 < x.getD i 0))
theorem okOrd_0 : okOrd 0 = true := by decide +kernel
theorem okOrd_1 : okOrd 1 = true := by decide +kernel
theorem okOrd_2 : okOrd 2 = true := by decide +kernel
theorem okOrd_3 : okOrd 3 = true := by decide +kernel
theorem okOrd_4 : okOrd 4 = true := by decide +kernel
theorem okOrd_5 : okOrd 5 = true := by decide +kernel
theorem okOrd_all {n : Nat} (h : n ≤ 5) : okOrd n = true := by
  match n, h with
  | 0, _ => exact okOrd_0
  | 1, _ => exact okOrd_1
  | 2, _ => exact okOrd_2
  | 3, _ => exact okOrd_3
  | 4, _ => exact okOrd_4
  | 5, _ => exact okOrd_5
structure OrdOk (n : Nat) : Prop where
  has : ∀ s, s < 2 ^ n → mem s ∈ ordL n
  all : ∀ x ∈ ordL n, ∃ s, s < 2 ^ n ∧ mem s = x
  cmp : ∀ x ∈ ordL n, ∀ y ∈ ordL n, (cmpK x y ≤ 0 ↔ (ordL n).idxOf x ≤ (ordL n).idxOf y)
  less : ∀ x ∈ ordL n, ∀ i, i < x.length → x.eraseIdx i ∈ ordL n ∧ (ordL n).idxOf (x.eraseIdx i) < (ordL n).idxOf x
  lt : ∀ x ∈ ordL n, (∀ i ∈ x, i < n) ∧ x.length ≤ n ∧ ∀ i, 0 < i → i < x.length → x.getD (i - 1) 0 < x.getD i 0
theorem ord_ok {n : Nat} (h : n ≤ 5) : OrdOk n := by
  have h := okOrd_all h
  unfold okOrd at h
  simp only [Bool.and_eq_true] at h
  obtain ⟨⟨⟨⟨h1, h2⟩, h3⟩, h4⟩, h5⟩ := h
  refine ⟨fun s hs => ?_, fun x hx => ?_, fun x hx y hy => ?_, fun x hx i hi => ?_, fun x hx => ?_⟩
  · exact List.contains_iff_mem.1 (allN_iff h1 s hs)
  · obtain ⟨s, hs, he⟩ := List.any_eq_true.1 (List.all_eq_true.1 h2 x hx)
    exact ⟨s, List.mem_range.1 hs, eq_of_beq he⟩
  · exact decide_eq_decide.1 (eq_of_beq (List.all_eq_true.1 (List.all_eq_true.1 h3 x hx) y hy))
  · have := allN_iff (List.all_eq_true.1 h4 x hx) i hi
    simp only [Bool.and_eq_true, decide_eq_true_eq] at this
    exact ⟨List.contains_iff_mem.1 this.1, this.2⟩
  · have := List.all_eq_true.1 h5 x hx
    simp only [Bool.and_eq_true, decide_eq_true_eq] at this
    refine ⟨fun i hi => of_decide_eq_true (List.all_eq_true.1 this.1.1 i hi), this.1.2, fun i h0 hi => ?_⟩
    have h6 := allN_iff this.2 i hi
    simp only [Bool.or_eq_true, beq_iff_eq, decide_eq_true_eq] at h6
    rcases h6 with h6 | h6
    · omega
    · exact h6
theorem find_first {p : List Nat → Bool} : ∀ {L : List (List Nat)} {x y : List Nat}, L.find? p = some x → y ∈ L → p y = true → L.idxOf x ≤ L.idxOf y
  | a :: r, x, y, h, hy, hp => by
    by_cases ha : p a = true
    · rw [List.find?_cons_of_pos ha] at h
      cases h
      rw [List.idxOf_cons_self]
      exact Nat.zero_le _
    · rw [List.find?_cons_of_neg ha] at h
      have hx : p x = true := List.find?_some h
      have e1 : a ≠ x := fun e => ha (e ▸ hx)
      have e2 : a ≠ y := fun e => ha (e ▸ hp)
      rcases List.mem_cons.1 hy with rfl | hy
      · exact absurd rfl e2
      · rw [List.idxOf_cons, List.idxOf_cons, beq_false_of_ne e1, beq_false_of_ne e2, cond_false, cond_false]
        exact Nat.succ_le_succ (find_first h hy hp)
theorem idx_inj {L : List (List Nat)} {x y : List Nat} (hx : x ∈ L) (hy : y ∈ L) (h : L.idxOf x = L.idxOf y) : x = y := by
  have h1 := List.getElem_idxOf (List.idxOf_lt_length_of_mem hx)
  have h2 := List.getElem_idxOf (List.idxOf_lt_length_of_mem hy)
  rw [← h1, ← h2]
  congr 1
theorem bst_inv (acc : List Nat → Bool) {n : Nat} (O : OrdOk n) : ∀ s, s ≤ 2 ^ n → (bstL acc s = none → ∀ j, j < s → acc (mem j) = false) ∧ (∀ b, bstL acc s = some b → acc b = true ∧ b ∈ ordL n ∧ (∃ j, j < s ∧ mem j = b) ∧ ∀ j, j < s → acc (mem j) = true → (ordL n).idxOf b ≤ (ordL n).idxOf (mem j))
  | 0, _ => ⟨fun _ j h => absurd h (Nat.not_lt_zero _), fun b h => by cases h⟩
  | s + 1, hs => by
    obtain ⟨h1, h2⟩ := bst_inv acc O s (by omega)
    have hm := O.has s (by omega)
    rw [bstL]
    cases hb : bstL acc s with
    | none =>
      have h1 := h1 hb
      dsimp only
      split
      · rename_i ha
        refine ⟨fun h => (by cases h), fun b h => ?_⟩
        cases h
        refine ⟨ha, hm, ⟨s, by omega, rfl⟩, fun j hj hja => ?_⟩
        rcases Nat.lt_or_ge j s with q | q
        · rw [h1 j q] at hja; cases hja
        · rw [show j = s by omega]; exact Nat.le_refl _
      · rename_i ha
        refine ⟨fun _ j hj => ?_, fun b h => by cases h⟩
        rcases Nat.lt_or_ge j s with q | q
        · exact h1 j q
        · rw [show j = s by omega]; simpa using ha
    | some b0 =>
      obtain ⟨g1, g2, ⟨j0, g3, g3'⟩, g4⟩ := h2 b0 hb
      dsimp only
      split
      · rename_i ha
        refine ⟨fun h => (by cases h), fun b h => ?_⟩
        cases h
        have hc := (O.cmp _ hm _ g2).1 ha.2
        refine ⟨ha.1, hm, ⟨s, by omega, rfl⟩, fun j hj hja => ?_⟩
        rcases Nat.lt_or_ge j s with q | q
        · exact Nat.le_trans hc (g4 j q hja)
        · rw [show j = s by omega]; exact Nat.le_refl _
      · rename_i ha
        refine ⟨fun h => (by cases h), fun b h => ?_⟩
        cases h
        refine ⟨g1, g2, ⟨j0, by omega, g3'⟩, fun j hj hja => ?_⟩
        rcases Nat.lt_or_ge j s with q | q
        · exact g4 j q hja
        · rw [show j = s by omega] at hja ⊢
          rcases Nat.lt_or_ge ((ordL n).idxOf (mem s)) ((ordL n).idxOf b0) with q2 | q2
          · exact absurd ⟨hja, (O.cmp _ hm _ g2).2 (Nat.le_of_lt q2)⟩ ha
          · exact q2
/-- the program's best set is the first one in the order -/
theorem bst_find (acc : List Nat → Bool) {n : Nat} (O : OrdOk n) : bstL acc (2 ^ n) = (ordL n).find? acc := by
  obtain ⟨h1, h2⟩ := bst_inv acc O (2 ^ n) (Nat.le_refl _)
  cases hb : bstL acc (2 ^ n) with
  | none =>
    refine (List.find?_eq_none.2 fun x hx => ?_).symm
    obtain ⟨s, hs, rfl⟩ := O.all x hx
    rw [h1 hb s hs]
    exact Bool.false_ne_true
  | some b =>
    obtain ⟨g1, g2, _, g4⟩ := h2 b hb
    cases hf : (ordL n).find? acc with
    | none => exact absurd g1 (List.find?_eq_none.1 hf b g2)
    | some x =>
      have hx := List.mem_of_find?_eq_some hf
      have e1 := find_first hf g2 g1
      obtain ⟨s, hs, rfl⟩ := O.all x hx
      have e2 := g4 s hs (List.find?_some hf)
      rw [idx_inj hx g2 (by omega)]
theorem chz_find (acc : List Nat → Bool) (n : Nat) : ∀ (k : Nat) (set : List Nat), chz acc n k set = (cmb n k set).find? acc
  | 0, set => by
    rw [chz, cmb, List.find?_cons]
    cases acc set <;> rfl
  | k + 1, set => by
    rw [chz, cmb, List.find?_flatMap]
    congr 1
    funext i
    exact chz_find acc n k (set ++ [i])
theorem ord_find (acc : List Nat → Bool) (n : Nat) : (ordL n).find? acc = (List.range (n + 1)).findSome? fun k => chz acc n k [] := by
  unfold ordL
  rw [List.find?_flatMap]
  congr 1
  funext k
  exact (chz_find acc n k []).symm
end Go.Proofs.YtihbeoplchiikaaGreatDoor
/- plain reading: the reference's search, as its loops run -/
namespace Go.Proofs.YtihbeoplchiikaaGreatDoor
/-- the first i from n - r on -/
def chJ (f : Nat → List Nat × Bool) (n : Nat) : Nat → List Nat × Bool
  | 0 => ([], false)
  | r + 1 => if (f (n - (r + 1))).2 = true then ((f (n - (r + 1))).1, true) else chJ f n r
def chO (acc : List Nat → Bool) (n : Nat) : Nat → List Nat → List Nat × Bool
  | 0, set => (set, acc set)
  | k + 1, set => chJ (fun i => chO acc n k (set ++ [i])) n (n - frm set)
def opt (p : List Nat × Bool) : Option (List Nat) := if p.2 = true then some p.1 else none
theorem chJ_eq (f : Nat → List Nat × Bool) (n : Nat) : ∀ r, r ≤ n → opt (chJ f n r) = (List.range' (n - r) r).findSome? fun i => opt (f i)
  | 0, _ => rfl
  | r + 1, h => by
    rw [List.range'_succ, List.findSome?_cons, show n - (r + 1) + 1 = n - r by omega, ← chJ_eq f n r (by omega), chJ]
    by_cases hf : (f (n - (r + 1))).2 = true
    · rw [if_pos hf]
      unfold opt
      rw [if_pos rfl, if_pos hf]
    · rw [if_neg hf]
      have : opt (f (n - (r + 1))) = none := by unfold opt; rw [if_neg hf]
      rw [this]
theorem range_from (s : Nat) : ∀ n : Nat, (List.range n).filter (fun i => decide (s ≤ i)) = List.range' s (n - s)
  | 0 => by simp
  | n + 1 => by
    rw [List.range_succ, List.filter_append, range_from s n]
    by_cases h : s ≤ n
    · rw [show n + 1 - s = (n - s) + 1 by omega, List.range'_concat, show s + 1 * (n - s) = n by omega]
      simp [h]
    · rw [show n + 1 - s = 0 by omega, show n - s = 0 by omega]
      simp [h]
theorem range_end (f : Nat → Option (List Nat)) (s n : Nat) : (List.range' (n - (n - s)) (n - s)).findSome? f = (List.range' s (n - s)).findSome? f := by
  rcases Nat.le_total s n with h | h
  · rw [show n - (n - s) = s by omega]
  · rw [show n - s = 0 by omega]
    rfl
theorem chO_chz (acc : List Nat → Bool) (n : Nat) : ∀ (k : Nat) (set : List Nat), opt (chO acc n k set) = chz acc n k set
  | 0, set => rfl
  | k + 1, set => by
    rw [chO, chz, chJ_eq _ _ _ (Nat.sub_le _ _), range_end, range_from]
    congr 1
    funext i
    exact chO_chz acc n k (set ++ [i])
theorem chK_find (acc : List Nat → Bool) (n : Nat) : opt (chJ (fun k => chO acc n k []) (n + 1) (n + 1)) = (ordL n).find? acc := by
  rw [ord_find, chJ_eq _ _ _ (Nat.le_refl _), Nat.sub_self, List.range_eq_range']
  congr 1
  funext k
  exact chO_chz acc n k []
/-- the members of a set are below n -/
theorem frm_le {n : Nat} {set : List Nat} (h : ∀ i ∈ set, i < n) : frm set ≤ n := by
  unfold frm
  cases hl : set.getLast? with
  | none => exact Nat.zero_le _
  | some x => exact h x (List.mem_of_getLast? hl)
theorem frm_last {set : List Nat} (h : set ≠ []) : frm set = set.getD (set.length - 1) 0 + 1 := by
  have hp := List.length_pos_iff.2 h
  unfold frm
  rw [List.getLast?_eq_getElem?, List.getD_eq_getElem?_getD, List.getElem?_eq_getElem (by omega)]
  rfl
end Go.Proofs.YtihbeoplchiikaaGreatDoor
