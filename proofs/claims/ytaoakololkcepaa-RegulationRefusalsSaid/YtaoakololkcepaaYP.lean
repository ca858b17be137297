import Derived.Test.YtaoakololkcepaaYC
import Derived.Test.YtaoakololkcepaaYN
set_option linter.unusedSimpArgs false
set_option linter.unusedVariables false
/- benches: the plain reading -/
namespace Go.Proofs.Ytaoakololkcepaa
open Go.RowKit
abbrev Txt := List UInt8
structure MsR where
  name : Txt
  val : Int
  low : Int
  high : Int
structure EfR where
  meas : Txt
  by_ : Int
structure AdR where
  name : Txt
  effs : List EfR
  least : Int
  most : Int
  pass : Int
  after : List Txt
structure BnR where
  ms : List MsR
  ads : List AdR
def msz : MsR := ⟨[], 0, 0, 0⟩
def efz : EfR := ⟨[], 0⟩
def adz : AdR := ⟨[], [], 0, 0, 0, []⟩
def msV (m : MsR) : List V := [.str m.name, .int .i64 m.val, .int .i64 m.low, .int .i64 m.high]
def efV (e : EfR) : List V := [.str e.meas, .int .i64 e.by_]
def mssV (l : List MsR) : List (List V) := l.map msV
def efsV (l : List EfR) : List (List V) := l.map efV
def tsV (l : List Txt) : List (List V) := l.map fun s => [V.str s]
def nsV (l : List Int) : List (List V) := l.map fun n => [V.int .i64 n]
def adV (a : AdR) : List V := [.str a.name, .lst (efsV a.effs), .int .i64 a.least, .int .i64 a.most, .int .i64 a.pass, .lst (tsV a.after)]
def adsV (l : List AdR) : List (List V) := l.map adV
def bnV (b : BnR) : List V := [.lst (mssV b.ms), .lst (adsV b.ads)]
theorem lst_get {α : Type} {l : List α} {d : α} {i : Nat} (h : i < l.length) : l[i]? = some (l.getD i d) := by
  rw [List.getD_eq_getElem?_getD, List.getElem?_eq_getElem h]; rfl
theorem mssV_length {l : List MsR} : (mssV l).length = l.length := by simp [mssV]
theorem efsV_length {l : List EfR} : (efsV l).length = l.length := by simp [efsV]
theorem adsV_length {l : List AdR} : (adsV l).length = l.length := by simp [adsV]
theorem tsV_length {l : List Txt} : (tsV l).length = l.length := by simp [tsV]
theorem nsV_length {l : List Int} : (nsV l).length = l.length := by simp [nsV]
theorem mssV_get {l : List MsR} {i : Nat} (h : i < l.length) : (mssV l)[i]? = some (msV (l.getD i msz)) := by
  unfold mssV; rw [List.getElem?_map, lst_get h]; rfl
theorem efsV_get {l : List EfR} {i : Nat} (h : i < l.length) : (efsV l)[i]? = some (efV (l.getD i efz)) := by
  unfold efsV; rw [List.getElem?_map, lst_get h]; rfl
theorem adsV_get {l : List AdR} {i : Nat} (h : i < l.length) : (adsV l)[i]? = some (adV (l.getD i adz)) := by
  unfold adsV; rw [List.getElem?_map, lst_get h]; rfl
theorem tsV_get {l : List Txt} {i : Nat} (h : i < l.length) : (tsV l)[i]? = some [V.str (l.getD i [])] := by
  unfold tsV; rw [List.getElem?_map, lst_get (d := []) h]; rfl
theorem nsV_get {l : List Int} {i : Nat} (h : i < l.length) : (nsV l)[i]? = some [V.int .i64 (l.getD i 0)] := by
  unfold nsV; rw [List.getElem?_map, lst_get (d := 0) h]; rfl
theorem mssV_take (l : List MsR) (i : Nat) : (mssV l).take i = mssV (l.take i) := by simp [mssV, List.map_take]
theorem efsV_take (l : List EfR) (i : Nat) : (efsV l).take i = efsV (l.take i) := by simp [efsV, List.map_take]
theorem tsV_take (l : List Txt) (i : Nat) : (tsV l).take i = tsV (l.take i) := by simp [tsV, List.map_take]
theorem mssV_all {l : List MsR} {n : Nat} (h : n = 4) : (mssV l).all (fun e => e.length == n) = true := by subst h; simp [mssV, msV]
theorem efsV_all {l : List EfR} {n : Nat} (h : n = 2) : (efsV l).all (fun e => e.length == n) = true := by subst h; simp [efsV, efV]
theorem tsV_all {l : List Txt} {n : Nat} (h : n = 1) : (tsV l).all (fun e => e.length == n) = true := by subst h; simp [tsV]
theorem nsV_all {l : List Int} {n : Nat} (h : n = 1) : (nsV l).all (fun e => e.length == n) = true := by subst h; simp [nsV]
theorem plainLL_of {es : List (List V)} (h : ∀ e ∈ es, plainL e = true) : plainLL es = true := by
  induction es with
  | nil => rfl
  | cons x xs ih => simp only [plainLL, Bool.and_eq_true]; exact ⟨h x List.mem_cons_self, ih fun e he => h e (List.mem_cons_of_mem _ he)⟩
theorem tsV_plain (l : List Txt) : plainLL (tsV l) = true := plainLL_of fun e he => by obtain ⟨x, _, rfl⟩ := List.mem_map.1 he; rfl
theorem nsV_plain (l : List Int) : plainLL (nsV l) = true := plainLL_of fun e he => by obtain ⟨x, _, rfl⟩ := List.mem_map.1 he; rfl
theorem mssV_plain (l : List MsR) : plainLL (mssV l) = true := plainLL_of fun e he => by obtain ⟨x, _, rfl⟩ := List.mem_map.1 he; rfl
theorem efsV_plain (l : List EfR) : plainLL (efsV l) = true := plainLL_of fun e he => by obtain ⟨x, _, rfl⟩ := List.mem_map.1 he; rfl
theorem adsV_plain (l : List AdR) : plainLL (adsV l) = true := plainLL_of fun e he => by
  obtain ⟨x, _, rfl⟩ := List.mem_map.1 he
  simp [adV, plainL, V.plain, efsV_plain, tsV_plain]
/-- the number of the first one that is such, or -1 -/
def fdx {α : Type} (f : α → Bool) (l : List α) : Int := match l.findIdx? f with
  | some i => (i : Int)
  | none => -1
theorem fdx_at {α : Type} {f : α → Bool} {l : List α} {d : α} {i : Nat} (hi : i < l.length) (h0 : ∀ j, j < i → f (l.getD j d) = false) (h : f (l.getD i d) = true) : fdx f l = i := by
  have : l.findIdx? f = some i := by
    rw [List.findIdx?_eq_some_iff_getElem]
    have hg : ∀ j (hj : j < l.length), l[j] = l.getD j d := fun j hj => by rw [List.getD_eq_getElem?_getD, List.getElem?_eq_getElem hj]; rfl
    refine ⟨hi, by rw [hg i hi]; exact h, fun j hj => ?_⟩
    rw [hg j (by omega), h0 j hj]; simp
  unfold fdx; rw [this]
theorem fdx_no {α : Type} {f : α → Bool} {l : List α} {d : α} (h0 : ∀ j, j < l.length → f (l.getD j d) = false) : fdx f l = -1 := by
  have : l.findIdx? f = none := by
    rw [List.findIdx?_eq_none_iff]
    intro x hx
    obtain ⟨j, hj, rfl⟩ := List.getElem_of_mem hx
    have := h0 j hj
    rw [List.getD_eq_getElem?_getD, List.getElem?_eq_getElem hj] at this
    exact this
  unfold fdx; rw [this]
theorem fdx_cases {α : Type} (f : α → Bool) (l : List α) (d : α) : fdx f l = -1 ∧ (∀ j, j < l.length → f (l.getD j d) = false) ∨ ∃ i, i < l.length ∧ fdx f l = (i : Int) ∧ f (l.getD i d) = true ∧ ∀ j, j < i → f (l.getD j d) = false := by
  have hg : ∀ j (hj : j < l.length), l[j] = l.getD j d := fun j hj => by rw [List.getD_eq_getElem?_getD, List.getElem?_eq_getElem hj]; rfl
  cases h : l.findIdx? f with
  | none =>
    refine .inl ⟨by unfold fdx; rw [h], fun j hj => ?_⟩
    rw [List.findIdx?_eq_none_iff] at h
    rw [← hg j hj]
    exact h _ (List.getElem_mem hj)
  | some i =>
    obtain ⟨h1, h2, h3⟩ := List.findIdx?_eq_some_iff_getElem.1 h
    refine .inr ⟨i, h1, by unfold fdx; rw [h], by rw [← hg i h1]; exact h2, fun j hj => ?_⟩
    have := h3 j hj
    rw [hg j (by omega)] at this
    simpa using this
theorem fdx_bd {α : Type} (f : α → Bool) (l : List α) : -1 ≤ fdx f l ∧ fdx f l < l.length := by
  unfold fdx
  split
  · rename_i i h
    obtain ⟨h1, _⟩ := List.findIdx?_eq_some_iff_getElem.1 h
    omega
  · omega
theorem fdx_any {α : Type} (f : α → Bool) (l : List α) : l.any f = decide (0 ≤ fdx f l) := by
  unfold fdx
  cases h : l.findIdx? f with
  | none =>
    rw [List.findIdx?_eq_none_iff] at h
    simp only [decide_eq_false (show ¬ (0 : Int) ≤ -1 by omega)]
    rw [List.any_eq_false]
    intro x hx
    simpa using h x hx
  | some i =>
    obtain ⟨h1, h2, h3⟩ := List.findIdx?_eq_some_iff_getElem.1 h
    simp only [decide_eq_true (show (0 : Int) ≤ (i : Int) by omega)]
    exact List.any_eq_true.2 ⟨_, List.getElem_mem h1, h2⟩
/-- the first code that is not 0 -/
def fE (f : Nat → Int) : Nat → Int
  | 0 => 0
  | n + 1 => if fE f n ≠ 0 then fE f n else f n
theorem fE_zero {f : Nat → Int} : ∀ {n : Nat}, fE f n = 0 ↔ ∀ i, i < n → f i = 0
  | 0 => ⟨fun _ i h => absurd h (Nat.not_lt_zero _), fun _ => rfl⟩
  | n + 1 => by
    unfold fE
    by_cases h : fE f n = 0
    · rw [if_neg (by omega)]
      rw [fE_zero] at h
      refine ⟨fun h1 i hi => ?_, fun h1 => h1 n (by omega)⟩
      rcases Nat.lt_or_ge i n with q | q
      · exact h i q
      · obtain rfl : i = n := by omega
        exact h1
    · rw [if_pos h]
      exact ⟨fun h1 => absurd h1 h, fun h1 => absurd (fE_zero.2 fun i hi => h1 i (by omega)) h⟩
theorem fE_at {f : Nat → Int} {i : Nat} (h0 : ∀ j, j < i → f j = 0) (h : f i ≠ 0) : ∀ {n : Nat}, i < n → fE f n = f i
  | 0, hi => by omega
  | n + 1, hi => by
    unfold fE
    rcases Nat.lt_or_ge i n with q | q
    · rw [fE_at h0 h q, if_pos h]
    · obtain rfl : i = n := by omega
      rw [if_neg (by rw [fE_zero.2 h0]; omega)]
theorem fE_is {f : Nat → Int} {i n : Nat} {e : Int} (hi : i < n) (h0 : ∀ j, j < i → f j = 0) (h : f i = e) (he : e ≠ 0) : fE f n = e := by
  rw [fE_at h0 (by rw [h]; exact he) hi, h]
theorem up_zero {f : Nat → Int} {i : Nat} (h : ∀ j, j < i → f j = 0) (hi : f i = 0) : ∀ j, j < i + 1 → f j = 0 := by
  intro j hj
  rcases Nat.lt_or_ge j i with h2 | h2
  · exact h j h2
  · obtain rfl : j = i := by omega
    exact hi
theorem up_false {f : Nat → Bool} {i : Nat} (h : ∀ j, j < i → f j = false) (hi : f i = false) : ∀ j, j < i + 1 → f j = false := by
  intro j hj
  rcases Nat.lt_or_ge j i with h2 | h2
  · exact h j h2
  · obtain rfl : j = i := by omega
    exact hi
def byt (s : Txt) (i : Nat) : Int := ((s.getD i 0).toNat : Int)
theorem byt_get {s : Txt} {i : Nat} (h : i < s.length) : s[i]? = some (s.getD i 0) := by
  rw [List.getD_eq_getElem?_getD, List.getElem?_eq_getElem h]; rfl
def letP (c : Int) : Prop := (97 ≤ c ∧ c ≤ 122) ∨ (65 ≤ c ∧ c ≤ 90)
def digP (c : Int) : Prop := 48 ≤ c ∧ c ≤ 57
instance (c : Int) : Decidable (letP c) := inferInstanceAs (Decidable (_ ∨ _))
instance (c : Int) : Decidable (digP c) := inferInstanceAs (Decidable (_ ∧ _))
def okC (s : Txt) (i : Nat) : Prop := letP (byt s i) ∨ (i ≠ 0 ∧ (digP (byt s i) ∨ byt s i = 45))
instance (s : Txt) (i : Nat) : Decidable (okC s i) := inferInstanceAs (Decidable (_ ∨ _))
/-- is a text a name -/
def nameP (s : Txt) : Prop := 1 ≤ s.length ∧ s.length ≤ 12 ∧ ∀ i, i < s.length → okC s i
instance (s : Txt) : Decidable (nameP s) := inferInstanceAs (Decidable (_ ∧ _ ∧ _))
theorem nameP_bad {s : Txt} {i : Nat} (h : i < s.length) (hn : ¬ okC s i) : decide (nameP s) = false := decide_eq_false fun h1 => hn (h1.2.2 i h)
theorem str_eq_nil {s : Txt} : (s = []) ↔ s.length = 0 := by simp
def isM (s : Txt) (m : MsR) : Bool := decide (m.name = s)
def isA (s : Txt) (a : AdR) : Bool := decide (a.name = s)
def isF (s : Txt) (e : EfR) : Bool := decide (e.meas = s)
def isT (s : Txt) (t : Txt) : Bool := decide (t = s)
/-! errors: name 4, exists 5, missing 6, range 2, large 8, order 9, zero 11, circle 21 -/
def msErr (b : List MsR) (m : MsR) : Int :=
  if ¬ nameP m.name then 4 else if 0 ≤ fdx (isM m.name) b then 5 else
  if ¬ (-100000 ≤ m.val ∧ m.val ≤ 100000) ∨ ¬ (-100000 ≤ m.low ∧ m.low ≤ 100000) ∨ ¬ (-100000 ≤ m.high ∧ m.high ≤ 100000) then 2 else if m.high < m.low then 9 else 0
def msErrAt (l : List MsR) (i : Nat) : Int := msErr (l.take i) (l.getD i msz)
def mssErr (l : List MsR) : Int := if 12 < l.length then 8 else fE (msErrAt l) l.length
def efErrAt (ms : List MsR) (l : List EfR) (i : Nat) : Int :=
  if fdx (isM (l.getD i efz).meas) ms < 0 then 6 else if 0 ≤ fdx (isF (l.getD i efz).meas) (l.take i) then 5 else
  if ¬ (-1000 ≤ (l.getD i efz).by_ ∧ (l.getD i efz).by_ ≤ 1000) then 2 else if (l.getD i efz).by_ = 0 then 11 else 0
def efErr (ms : List MsR) (l : List EfR) : Int := if 12 < l.length then 8 else fE (efErrAt ms l) l.length
def afErrAt (ads : List AdR) (l : List Txt) (i : Nat) : Int :=
  if fdx (isA (l.getD i [])) ads < 0 then 6 else if 0 ≤ fdx (isT (l.getD i [])) (l.take i) then 5 else 0
def afErr (ads : List AdR) (l : List Txt) : Int := if 12 < l.length then 8 else fE (afErrAt ads l) l.length
def adErr (ms : List MsR) (ads : List AdR) (i : Nat) : Int :=
  if ¬ nameP (ads.getD i adz).name then 4 else if 0 ≤ fdx (isA (ads.getD i adz).name) (ads.take i) then 5 else
  if efErr ms (ads.getD i adz).effs ≠ 0 then efErr ms (ads.getD i adz).effs else
  if ¬ (-1000 ≤ (ads.getD i adz).least ∧ (ads.getD i adz).least ≤ 0) ∨ ¬ (0 ≤ (ads.getD i adz).most ∧ (ads.getD i adz).most ≤ 1000) ∨ ¬ (1 ≤ (ads.getD i adz).pass ∧ (ads.getD i adz).pass ≤ 1000) then 2 else
  afErr ads (ads.getD i adz).after
/-- which adjustment comes next behind some, by the names of these -/
def hasT (ns : List Txt) (s : Txt) : Bool := ns.any (isT s)
def rdyA (ns : List Txt) (a : AdR) : Bool := !hasT ns a.name && a.after.all (hasT ns)
def adN (ads : List AdR) (i : Nat) : Txt := (ads.getD i adz).name
def outN (ads : List AdR) (out : List Nat) : List Txt := out.map (adN ads)
def nxtI (ads : List AdR) (out : List Nat) : Int := fdx (rdyA (outN ads out)) ads
def ordF (ads : List AdR) : Nat → List Nat → List Nat
  | 0, out => out
  | n + 1, out => if nxtI ads out < 0 then out else ordF ads n (out ++ [(nxtI ads out).toNat])
/-- the order of the adjustments; it is short if there is a circle -/
def ordB (ads : List AdR) : List Nat := ordF ads (ads.length + 1) []
/-- how many are left -/
def leftN (ads : List AdR) (out : List Nat) : Nat := (ads.filter fun a => !hasT (outN ads out) a.name).length
theorem filter_lt {α : Type} {p q : α → Bool} : ∀ {l : List α}, (∀ x ∈ l, q x = true → p x = true) → (∃ x ∈ l, p x = true ∧ q x = false) → (l.filter q).length < (l.filter p).length
  | [], _, h => by obtain ⟨x, hx, _⟩ := h; cases hx
  | y :: l, h1, h2 => by
    have hle : ∀ {l : List α}, (∀ x ∈ l, q x = true → p x = true) → (l.filter q).length ≤ (l.filter p).length := by
      intro l
      induction l with
      | nil => intro _; exact Nat.le_refl _
      | cons z l ih =>
        intro h
        have ih := ih fun x hx => h x (List.mem_cons_of_mem _ hx)
        simp only [List.filter_cons]
        cases hq : q z with
        | true => rw [h z List.mem_cons_self hq]; simpa using ih
        | false => cases p z <;> simp <;> omega
    have h1' := fun x hx => h1 x (List.mem_cons_of_mem _ hx)
    obtain ⟨x, hx, hp, hq⟩ := h2
    simp only [List.filter_cons]
    rcases List.mem_cons.1 hx with rfl | hx
    · rw [hp, hq]
      have := hle h1'
      simp; omega
    · have ih := filter_lt h1' ⟨x, hx, hp, hq⟩
      cases hqy : q y with
      | true => rw [h1 y List.mem_cons_self hqy]; simpa using ih
      | false => cases p y <;> simp <;> omega
theorem hasT_snoc (ns : List Txt) (t s : Txt) : hasT (ns ++ [t]) s = (hasT ns s || decide (t = s)) := by simp [hasT, isT]
theorem outN_snoc (ads : List AdR) (out : List Nat) (i : Nat) : outN ads (out ++ [i]) = outN ads out ++ [adN ads i] := by simp [outN]
theorem leftN_lt {ads : List AdR} {out : List Nat} {i : Nat} (hi : i < ads.length) (h : rdyA (outN ads out) (ads.getD i adz) = true) : leftN ads (out ++ [i]) < leftN ads out := by
  unfold leftN
  rw [outN_snoc]
  unfold rdyA at h
  simp only [Bool.and_eq_true, Bool.not_eq_true'] at h
  have hm : ads.getD i adz ∈ ads := by rw [List.getD_eq_getElem?_getD, List.getElem?_eq_getElem hi]; exact List.getElem_mem hi
  refine filter_lt (fun x _ hx => ?_) ⟨_, hm, by rw [h.1]; rfl, ?_⟩
  · rw [hasT_snoc] at hx
    simp only [Bool.not_eq_true', Bool.or_eq_false_iff] at hx ⊢
    exact hx.1
  · rw [hasT_snoc]
    simp [adN]
theorem leftN_le (ads : List AdR) (out : List Nat) : leftN ads out ≤ ads.length := List.length_filter_le _ _
/-- .. of a bench -/
def bnErr (b : BnR) : Int :=
  if mssErr b.ms ≠ 0 then mssErr b.ms else if 12 < b.ads.length then 8 else if fE (adErr b.ms b.ads) b.ads.length ≠ 0 then fE (adErr b.ms b.ads) b.ads.length else
  if (ordB b.ads).length < b.ads.length then 21 else 0
/-- lists and names that are not too long for the walks -/
structure Bl (b : BnR) : Prop where
  nm : b.ms.length ≤ 1000
  na : b.ads.length ≤ 1000
  mn : ∀ i, i < b.ms.length → (b.ms.getD i msz).name.length ≤ 1000
  an : ∀ i, i < b.ads.length → (b.ads.getD i adz).name.length ≤ 1000
  ae : ∀ i, i < b.ads.length → (b.ads.getD i adz).effs.length ≤ 1000
  aa : ∀ i, i < b.ads.length → (b.ads.getD i adz).after.length ≤ 1000
end Go.Proofs.Ytaoakololkcepaa
/- contracts: names, small numbers -/
namespace Go.Proofs.Ytaoakololkcepaa
open Go.RowKit
attribute [local irreducible] WA WOs WDs WAn qThen qBlock tput
set_option maxHeartbeats 1000000
set_option maxRecDepth 20000
set_option linter.unusedSimpArgs false
set_option linter.unusedVariables false

theorem gisname_c (s : List UInt8) (hs : s.length ≤ 1000) (m : Mem) : Gives Try.prog 158 [.str s] m (.bool (decide (nameP s))) := by
  have hgi := hs
  refine Gives_in Try.func158 rfl Try.ntmps158 Try.results158 (by kernel_rfl) (by simp) rfl fun Q hQ => ?_
  (have FX := hgi; repeat' (first | (refine sx ?_ ?_ <;> intro h <;> first | (exfalso; omega) | skip) | refine ny ?_ | refine WA_block ?_))
  refine WA_while (σ := Nat) [0, 2, 6, 7] (fun i => [.str s, .bool false, .int .i64 s.length, .int .i64 i]) (fun _ => lend m ++ []) (fun i => i ≤ s.length ∧ ∀ j, j < i → okC s j) (fun i => s.length - i) 0 ⟨Nat.zero_le _, fun j h => absurd h (Nat.not_lt_zero _)⟩ tv_ rfl ?_
  rintro i ⟨hi, hj⟩ L hL
  simp only [zipT]
  clear FX
  rcases Nat.lt_or_ge i s.length with hlt | hge
  · have hgi := byt_get hlt
    have hok : okC s i ↔ (letP (byt s i) ∨ (i ≠ 0 ∧ (digP (byt s i) ∨ byt s i = 45))) := Iff.rfl
    unfold letP digP at hok
    unfold byt at hok
    (have FX := hgi; repeat' (first | (refine sx ?_ ?_ <;> intro h <;> first | (exfalso; omega) | skip) | refine ny ?_ | refine WA_block ?_))
    all_goals (try (exfalso; omega))
    all_goals try
      ((refine r_es hQ ?_; try with_reducible rfl)
       exact congrArg V.bool (nameP_bad hlt (fun h => by have := hok.1 h; omega)).symm)
    all_goals (refine next_ hL (i + 1) ⟨by omega, fun j h => ?_⟩ (by omega))
    all_goals (rcases Nat.lt_or_ge j i with h2 | h2)
    all_goals first
      | exact hj j h2
      | (obtain rfl : j = i := by omega
         exact hok.2 (by omega))
  · have e : i = s.length := by omega
    subst e
    have hgi := hs
    have hnm : nameP s ↔ (1 ≤ s.length ∧ s.length ≤ 12) := ⟨fun h => ⟨h.1, h.2.1⟩, fun h => ⟨h.1, h.2, hj⟩⟩
    have hne : s = [] ↔ s.length = 0 := str_eq_nil
    (have FX := hgi; repeat' (first | (refine sx ?_ ?_ <;> intro h <;> first | (exfalso; omega) | skip) | refine ny ?_ | refine WA_block ?_))
    all_goals (try (exfalso; omega))
    all_goals ((refine r_es hQ ?_; try with_reducible rfl))
    all_goals (clear hQ hL; simp only [hne] at *)
    all_goals first
      | exact congrArg V.bool (decide_eq_true (hnm.2 (by omega))).symm
      | exact congrArg V.bool (decide_eq_false (fun h => by have := hnm.1 h; omega)).symm

theorem bisletter_c (c : Int) (m : Mem) : Gives Try.prog 142 [.int .u8 c] m (.bool (decide (letP c))) := by
  refine Gives_in Try.func142 rfl Try.ntmps142 Try.results142 (by kernel_rfl) (by simp) rfl fun Q hQ => ?_
  (repeat' (first | (refine sx ?_ ?_ <;> intro h <;> first | (exfalso; omega) | skip) | refine ny ?_ | refine WA_block ?_))
  all_goals ((refine r_es hQ ?_; try with_reducible rfl); unfold letP)
  all_goals (first | exact congrArg V.bool (decide_eq_true (by first | omega | simp_all)).symm | exact congrArg V.bool (decide_eq_false (by first | omega | simp_all)).symm | exact congrArg V.bool (decide_eq_decide.2 (by omega)))

theorem bisdigit_c (c : Int) (m : Mem) : Gives Try.prog 143 [.int .u8 c] m (.bool (decide (digP c))) := by
  refine Gives_in Try.func143 rfl Try.ntmps143 Try.results143 (by kernel_rfl) (by simp) rfl fun Q hQ => ?_
  (repeat' (first | (refine sx ?_ ?_ <;> intro h <;> first | (exfalso; omega) | skip) | refine ny ?_ | refine WA_block ?_))
  all_goals ((refine r_es hQ ?_; try with_reducible rfl); unfold digP)
  all_goals (first | exact congrArg V.bool (decide_eq_true (by first | omega | simp_all)).symm | exact congrArg V.bool (decide_eq_false (by first | omega | simp_all)).symm | exact congrArg V.bool (decide_eq_decide.2 (by omega)))

theorem bisname_c (s : List UInt8) (m : Mem) : Gives Try.prog 116 [.str s] m (.bool (decide (nameP s))) := by
  rcases Nat.eq_zero_or_pos s.length with hz | hz
  · have hgi := hz
    refine Gives_in Try.func116 rfl Try.ntmps116 Try.results116 (by kernel_rfl) (by simp) rfl fun Q hQ => ?_
    (have FX := hgi; repeat' (first | (refine sx ?_ ?_ <;> intro h <;> first | (exfalso; omega) | skip) | (refine g_op ?_; refine g_call ?_; refine g_args ?_; (first | refine s_fn (bisletter_c _ _) ?_ | refine s_fn (bisdigit_c _ _) ?_) <;> try first | omega | assumption) | refine ny ?_ | refine WA_block ?_))
    all_goals (try (exfalso; omega))
    all_goals ((refine r_es hQ ?_; try with_reducible rfl))
    all_goals (exact congrArg V.bool (decide_eq_false (fun h => by have := h.1; omega)).symm)
  · have hgi : s[0]? = some (s.getD 0 0) := byt_get hz
    have hbd : byt s 0 = ((s.getD 0 0).toNat : Int) := rfl
    have hn0 : nameP s → letP ((s.getD 0 0).toNat : Int) := fun hn => by
      rcases hn.2.2 0 hz with h2 | h2
      · exact h2
      · exact absurd rfl h2.1
    refine Gives_in Try.func116 rfl Try.ntmps116 Try.results116 (by kernel_rfl) (by simp) rfl fun Q hQ => ?_
    (have FX := hgi; repeat' (first | (refine sx ?_ ?_ <;> intro h <;> first | (exfalso; omega) | skip) | (refine g_op ?_; refine g_call ?_; refine g_args ?_; (first | refine s_fn (bisletter_c _ _) ?_ | refine s_fn (bisdigit_c _ _) ?_) <;> try first | omega | assumption) | refine ny ?_ | refine WA_block ?_))
    all_goals try
      ((refine r_es hQ ?_; try with_reducible rfl)
       exact congrArg V.bool (decide_eq_false (fun hn => by first | (have h1 := hn.2.1; omega) | exact absurd (hn0 hn) (by assumption))).symm)
    have h0 : letP ((s.getD 0 0).toNat : Int) := by assumption
    have h12 : s.length ≤ 12 := by omega
    refine WA_while (σ := Nat) [0, 2, 3] (fun i => [.str s, .bool false, .int .i64 i]) (fun _ => lend m ++ []) (fun i => i ≤ s.length ∧ ∀ j, j < i → okC s j) (fun i => s.length - i) 0 ⟨Nat.zero_le _, fun j h => absurd h (Nat.not_lt_zero _)⟩ tv_ rfl ?_
    rintro i ⟨hi, hj⟩ L hL
    simp only [zipT]
    clear FX hgi
    rcases Nat.lt_or_ge i s.length with hlt | hge
    · have hgi := byt_get hlt
      have hbi : byt s i = ((s.getD i 0).toNat : Int) := rfl
      have hok : okC s i ↔ (letP ((s.getD i 0).toNat : Int) ∨ (i ≠ 0 ∧ (digP ((s.getD i 0).toNat : Int) ∨ ((s.getD i 0).toNat : Int) = 45))) := Iff.rfl
      have hz0 : i = 0 → letP ((s.getD i 0).toNat : Int) := fun h => by subst h; exact h0
      (have FX := hgi; repeat' (first | (refine sx ?_ ?_ <;> intro h <;> first | (exfalso; omega) | skip) | (refine g_op ?_; refine g_call ?_; refine g_args ?_; (first | refine s_fn (bisletter_c _ _) ?_ | refine s_fn (bisdigit_c _ _) ?_) <;> try first | omega | assumption) | refine ny ?_ | refine WA_block ?_))
      all_goals (try (exfalso; omega))
      all_goals try
        ((refine r_es hQ ?_; try with_reducible rfl)
         exact congrArg V.bool (nameP_bad hlt (fun h => by have := hok.1 h; grind)).symm)
      all_goals (refine next_ hL (i + 1) ⟨by omega, fun j h => ?_⟩ (by omega))
      all_goals (rcases Nat.lt_or_ge j i with h2 | h2)
      all_goals first
        | exact hj j h2
        | (obtain rfl : j = i := by omega
           exact hok.2 (by grind))
    · have e : i = s.length := by omega
      subst e
      have hgi := hbd
      (have FX := hgi; repeat' (first | (refine sx ?_ ?_ <;> intro h <;> first | (exfalso; omega) | skip) | (refine g_op ?_; refine g_call ?_; refine g_args ?_; (first | refine s_fn (bisletter_c _ _) ?_ | refine s_fn (bisdigit_c _ _) ?_) <;> try first | omega | assumption) | refine ny ?_ | refine WA_block ?_))
      all_goals (try (exfalso; omega))
      all_goals ((refine r_es hQ ?_; try with_reducible rfl))
      all_goals (exact congrArg V.bool (decide_eq_true ⟨hz, h12, hj⟩).symm)

theorem gwithin_c (n lo hi : Int) (m : Mem) : Gives Try.prog 70 [.int .i64 n, .int .i64 lo, .int .i64 hi] m (.bool (decide (lo ≤ n ∧ n ≤ hi))) := by
  refine Gives_in Try.func70 rfl Try.ntmps70 Try.results70 (by kernel_rfl) (by simp) rfl fun Q hQ => ?_
  (repeat' (first | (refine sx ?_ ?_ <;> intro h <;> first | (exfalso; omega) | skip) | refine ny ?_ | refine WA_block ?_))
  all_goals ((refine r_es hQ ?_; try with_reducible rfl); simp only [V.bool.injEq, decide_eq_true_eq, decide_eq_false_iff_not, eq_comm]; first | omega | (simp; omega) | simp)

theorem bwithin_c (n lo hi : Int) (m : Mem) : Gives Try.prog 26 [.int .i64 n, .int .i64 lo, .int .i64 hi] m (.bool (decide (lo ≤ n ∧ n ≤ hi))) := by
  refine Gives_in Try.func26 rfl Try.ntmps26 Try.results26 (by kernel_rfl) (by simp) rfl fun Q hQ => ?_
  (repeat' (first | (refine sx ?_ ?_ <;> intro h <;> first | (exfalso; omega) | skip) | refine ny ?_ | refine WA_block ?_))
  all_goals ((refine r_es hQ ?_; try with_reducible rfl); simp only [V.bool.injEq, decide_eq_true_eq, decide_eq_false_iff_not, eq_comm]; first | omega | (simp; omega) | simp)

theorem babs_c (n : Int) (h1 : -9223372036854775807 ≤ n) (h2 : n ≤ 9223372036854775807) (m : Mem) : Gives Try.prog 75 [.int .i64 n] m (.int .i64 (n.natAbs : Int)) := by
  refine Gives_in Try.func75 rfl Try.ntmps75 Try.results75 (by kernel_rfl) (by simp) rfl fun Q hQ => ?_
  (repeat' (first | (refine sx ?_ ?_ <;> intro h <;> first | (exfalso; omega) | skip) | refine ny ?_ | refine WA_block ?_))
  all_goals ((refine r_es hQ ?_; try with_reducible rfl); all_goals (simp only [V.int.injEq, true_and]; omega))
def cmpI (x y : Int) : Int := if x < y then -1 else if y < x then 1 else 0
theorem cnan_c (n : Int) (m : Mem) : Gives Try.prog 131 [.int .i64 n] m (.bool false) := by
  refine Gives_in Try.func131 rfl Try.ntmps131 Try.results131 (by kernel_rfl) (by simp) rfl fun Q hQ => ?_
  (repeat' (first | (refine sx ?_ ?_ <;> intro h <;> first | (exfalso; omega) | skip) | refine ny ?_ | refine WA_block ?_))
  all_goals ((refine r_es hQ ?_; try with_reducible rfl); try simp)

theorem ccompare_c (x y : Int) (m : Mem) : Gives Try.prog 102 [.int .i64 x, .int .i64 y] m (.int .i64 (cmpI x y)) := by
  refine Gives_in Try.func102 rfl Try.ntmps102 Try.results102 (by kernel_rfl) (by simp) rfl fun Q hQ => ?_
  (repeat' (first | (refine sx ?_ ?_ <;> intro h <;> first | (exfalso; omega) | skip) | (refine g_op ?_; refine g_call ?_; refine g_args ?_; (first | refine s_fn (cnan_c _ _) ?_) <;> try first | omega | assumption) | refine ny ?_ | refine WA_block ?_))
  all_goals ((refine r_es hQ ?_; try with_reducible rfl); unfold cmpI; simp only [V.int.injEq, true_and]; repeat (first | rw [if_pos (by assumption)] | rw [if_neg (by assumption)]))

theorem gsize_c (n : Int) (h1 : -9223372036854775807 ≤ n) (h2 : n ≤ 9223372036854775807) (m : Mem) : Gives Try.prog 91 [.int .i64 n] m (.int .i64 (n.natAbs : Int)) := by
  refine Gives_in Try.func91 rfl Try.ntmps91 Try.results91 (by kernel_rfl) (by simp) rfl fun Q hQ => ?_
  (repeat' (first | (refine sx ?_ ?_ <;> intro h <;> first | (exfalso; omega) | skip) | refine ny ?_ | refine WA_block ?_))
  all_goals ((refine r_es hQ ?_; try with_reducible rfl); try (simp only [V.int.injEq, true_and]; split <;> omega))
end Go.Proofs.Ytaoakololkcepaa
/- contracts: searches with functions -/
namespace Go.Proofs.Ytaoakololkcepaa
open Go.RowKit
attribute [local irreducible] WA WOs WDs WAn qThen qBlock tput
set_option maxHeartbeats 1000000
set_option maxRecDepth 20000
set_option linter.unusedSimpArgs false
set_option linter.unusedVariables false
/-- what is to be read in a memory is so in the other one -/
def Sees (m M : Mem) : Prop := (∀ (k : Nat) st ty sz es, m[k]? = some (Blk.cells st ty sz es) → ∃ st', M[k]? = some (Blk.cells st' ty sz es)) ∧ ∀ (k : Nat) st vs φ, m[k]? = some (Blk.obj st vs φ) → ∃ st', M[k]? = some (Blk.obj st' vs φ)
theorem Sees.refl (m : Mem) : Sees m m := ⟨fun _ _ _ _ _ h => ⟨_, h⟩, fun _ _ _ _ h => ⟨_, h⟩⟩
theorem Sees.trans {a b c : Mem} (h : Sees a b) (k : Sees b c) : Sees a c :=
  ⟨fun _ _ _ _ _ q => (h.1 _ _ _ _ _ q).elim fun _ q => k.1 _ _ _ _ _ q, fun _ _ _ _ q => (h.2 _ _ _ _ q).elim fun _ q => k.2 _ _ _ _ q⟩
theorem Sees.lend (m X : Mem) : Sees m (lend m ++ X) := by
  refine ⟨fun k st ty sz es h => ?_, fun k st vs φ h => ?_⟩
  · have hlt : k < (Go.Proofs.Ytaoakololkcepaa.lend m).length := by
      have := (List.getElem?_eq_some_iff.1 h).1
      simpa [Go.Proofs.Ytaoakololkcepaa.lend] using this
    rw [List.getElem?_append_left hlt]
    simp only [Go.Proofs.Ytaoakololkcepaa.lend, List.getElem?_map, h, Option.map_some]
    cases st <;> exact ⟨_, rfl⟩
  · have hlt : k < (Go.Proofs.Ytaoakololkcepaa.lend m).length := by
      have := (List.getElem?_eq_some_iff.1 h).1
      simpa [Go.Proofs.Ytaoakololkcepaa.lend] using this
    rw [List.getElem?_append_left hlt]
    simp only [Go.Proofs.Ytaoakololkcepaa.lend, List.getElem?_map, h, Option.map_some]
    cases st <;> exact ⟨_, rfl⟩
theorem Sees.at {m M : Mem} (h : Sees m M) {k : Nat} {st : Sta} {ty sz : Nat} {es : List (List V)} (hk : m[k]? = some (.cells st ty sz es)) : ∃ st', M[k]? = some (.cells st' ty sz es) := h.1 _ _ _ _ _ hk
theorem at_last (M : Mem) (b : Blk) : (M ++ [b])[M.length]? = some b := by simp
theorem Gives_fz {P : Program} {f : FuncId} {vs : List V} {m : Mem} {b : Nat} {st : Sta} {ty sz : Nat} {es : List (List V)} {v : V} (hb : m[b]? = some (.cells st ty sz es)) (hv : v.flat = true) (h : Gives P f (vs.map (frzV b es)) (m.set b (.cells .ro ty sz es)) v) : Gives P f vs m v := by
  refine ⟨h.1, fun w ρ xs hM hA => ?_⟩
  have af := After.of_ro hM hb
  refine (h.2 w ρ xs af.mem ⟨by simpa using hA.1, fun i v x h1 h2 => ?_⟩).mono ?_
  · rw [List.getElem?_map, Option.map_eq_some_iff] at h1
    obtain ⟨v0, h1, rfl⟩ := h1
    exact frzV_rel hM hb (hA.2 i v0 x h1 h2)
  · rintro e w' ⟨v', mo, x, rfl, ⟨rfl, rfl⟩, hh⟩
    rcases hh with ⟨_, hbel, rv⟩ | ⟨m', ρ', e, _⟩
    · exact ⟨v', none, x, rfl, ⟨rfl, rfl⟩, .inl ⟨rfl, hbel, flat_rel rv hv⟩⟩
    · cases e

theorem ix_ns (l : List Int) (f : Int → Bool) (g : FuncId) (cs : List V) (m : Mem) (hlb : l.length ≤ 100000) (hc : ∀ i, i < l.length → ∀ M, Sees m M → Gives Try.prog g (.int .i64 (l.getD i 0) :: cs) M (.bool (f (l.getD i 0)))) : Gives Try.prog 144 [.lst (nsV l), .clo (.func g) [] cs] m (.int .i64 (fdx f l)) := by
  have hlen := nsV_length (l := l)
  have hget := hlen
  refine Gives_in Try.func144 rfl Try.ntmps144 Try.results144 (by kernel_rfl) (by simp) rfl fun Q hQ => ?_
  (have FX := And.intro hlen hget; repeat' (first | (refine sx ?_ ?_ <;> intro h <;> first | (exfalso; omega) | skip) | (refine g_op ?_; refine g_call ?_; refine g_args ?_; (first | refine s_fn (hcl ()) ?_) <;> try first | omega | assumption) | (refine g_op ?_; refine g_dyn ?_; refine g_dargs ?_; first | (refine s_fn (hcl ()) ?_ <;> try first | omega | assumption)) | refine ny ?_ | refine WA_block ?_))
  refine WA_while (σ := Nat) [0, 1, 6, 7, 8] (fun i => [.lst (nsV l), .clo (.func g) [] cs, .lst (nsV l), .int .i64 l.length, .int .i64 i]) (fun _ => lend m ++ []) (fun i => i ≤ l.length ∧ ∀ j, j < i → f (l.getD j 0) = false) (fun i => l.length - i) 0 ⟨Nat.zero_le _, fun j h => absurd h (Nat.not_lt_zero _)⟩ tv_ rfl ?_
  rintro i ⟨hi, hj⟩ L hL
  simp only [zipT]
  clear FX
  rcases Nat.lt_or_ge i l.length with hlt | hge
  · have hget := nsV_get hlt
    have hcl := fun (_ : Unit) => hc i hlt (lend m ++ []) (Sees.lend m [])
    cases hf : f (l.getD i 0) with
    | true =>
      rw [hf] at hcl
      (have FX := And.intro hlen hget; repeat' (first | (refine sx ?_ ?_ <;> intro h <;> first | (exfalso; omega) | skip) | (refine g_op ?_; refine g_call ?_; refine g_args ?_; (first | refine s_fn (hcl ()) ?_) <;> try first | omega | assumption) | (refine g_op ?_; refine g_dyn ?_; refine g_dargs ?_; first | (refine s_fn (hcl ()) ?_ <;> try first | omega | assumption)) | refine ny ?_ | refine WA_block ?_))
      all_goals (try (exfalso; omega))
      all_goals ((refine r_es hQ ?_; try with_reducible rfl))
      all_goals (exact congrArg (V.int .i64) (fdx_at hlt hj hf).symm)
    | false =>
      rw [hf] at hcl
      (have FX := And.intro hlen hget; repeat' (first | (refine sx ?_ ?_ <;> intro h <;> first | (exfalso; omega) | skip) | (refine g_op ?_; refine g_call ?_; refine g_args ?_; (first | refine s_fn (hcl ()) ?_) <;> try first | omega | assumption) | (refine g_op ?_; refine g_dyn ?_; refine g_dargs ?_; first | (refine s_fn (hcl ()) ?_ <;> try first | omega | assumption)) | refine ny ?_ | refine WA_block ?_))
      all_goals (try (exfalso; omega))
      all_goals (refine next_ hL (i + 1) ⟨by omega, up_false (f := fun j => f (l.getD j 0)) hj hf⟩ (by omega))
  · have e : i = l.length := by omega
    subst e
    have hcl := fun (_ : Unit) => True
    (have FX := And.intro hlen hget; repeat' (first | (refine sx ?_ ?_ <;> intro h <;> first | (exfalso; omega) | skip) | (refine g_op ?_; refine g_call ?_; refine g_args ?_; (first | refine s_fn (hcl ()) ?_) <;> try first | omega | assumption) | (refine g_op ?_; refine g_dyn ?_; refine g_dargs ?_; first | (refine s_fn (hcl ()) ?_ <;> try first | omega | assumption)) | refine ny ?_ | refine WA_block ?_))
    all_goals (try (exfalso; omega))
    all_goals ((refine r_es hQ ?_; try with_reducible rfl))
    all_goals (exact congrArg (V.int .i64) (fdx_no hj).symm)

theorem cf_ns (l : List Int) (f : Int → Bool) (g : FuncId) (cs : List V) (m : Mem) (hlb : l.length ≤ 100000) (hc : ∀ i, i < l.length → ∀ M, Sees m M → Gives Try.prog g (.int .i64 (l.getD i 0) :: cs) M (.bool (f (l.getD i 0)))) : Gives Try.prog 118 [.lst (nsV l), .clo (.func g) [] cs] m (.bool (decide (0 ≤ fdx f l))) := by
  refine Gives_in Try.func118 rfl Try.ntmps118 Try.results118 (by kernel_rfl) (by simp) rfl fun Q hQ => ?_
  (repeat' (first | (refine sx ?_ ?_ <;> intro h <;> first | (exfalso; omega) | skip) | (refine g_op ?_; refine g_call ?_; refine g_args ?_; (first | refine s_fn (ix_ns l f g cs _ hlb (fun i hi M hM => hc i hi M ((Sees.lend m []).trans hM))) ?_) <;> try first | omega | assumption) | refine ny ?_ | refine WA_block ?_))
  all_goals ((refine r_es hQ ?_; try with_reducible rfl))
  all_goals (exact congrArg V.bool (by first | rfl | (rw [decide_eq_true (by assumption)]; rfl) | (rw [decide_eq_false (by assumption)]; rfl) | exact (decide_eq_true (by assumption)).symm | exact (decide_eq_false (by assumption)).symm | exact (decide_eq_true (by omega)).symm | exact (decide_eq_false (by omega)).symm))

theorem ix_mss (l : List MsR) (f : MsR → Bool) (g : FuncId) (cs : List V) (m : Mem) (hlb : l.length ≤ 100000) (hc : ∀ i, i < l.length → ∀ M, Sees m M → Gives Try.prog g (.agg (msV (l.getD i msz)) :: cs) M (.bool (f (l.getD i msz)))) : Gives Try.prog 112 [.lst (mssV l), .clo (.func g) [] cs] m (.int .i64 (fdx f l)) := by
  have hlen := mssV_length (l := l)
  have hget := hlen
  refine Gives_in Try.func112 rfl Try.ntmps112 Try.results112 (by kernel_rfl) (by simp) rfl fun Q hQ => ?_
  (have FX := And.intro hlen hget; repeat' (first | (refine sx ?_ ?_ <;> intro h <;> first | (exfalso; omega) | skip) | (refine g_op ?_; refine g_call ?_; refine g_args ?_; (first | refine s_fn (hcl ()) ?_) <;> try first | omega | assumption) | (refine g_op ?_; refine g_dyn ?_; refine g_dargs ?_; first | (refine s_fn (hcl ()) ?_ <;> try first | omega | assumption)) | refine ny ?_ | refine WA_block ?_))
  refine WA_while (σ := Nat) [0, 1, 6, 7, 8] (fun i => [.lst (mssV l), .clo (.func g) [] cs, .lst (mssV l), .int .i64 l.length, .int .i64 i]) (fun _ => lend m ++ []) (fun i => i ≤ l.length ∧ ∀ j, j < i → f (l.getD j msz) = false) (fun i => l.length - i) 0 ⟨Nat.zero_le _, fun j h => absurd h (Nat.not_lt_zero _)⟩ tv_ rfl ?_
  rintro i ⟨hi, hj⟩ L hL
  simp only [zipT]
  clear FX
  rcases Nat.lt_or_ge i l.length with hlt | hge
  · have hget := mssV_get hlt
    have hcl := fun (_ : Unit) => hc i hlt (lend m ++ []) (Sees.lend m [])
    unfold msV at hcl hget
    cases hf : f (l.getD i msz) with
    | true =>
      rw [hf] at hcl
      (have FX := And.intro hlen hget; repeat' (first | (refine sx ?_ ?_ <;> intro h <;> first | (exfalso; omega) | skip) | (refine g_op ?_; refine g_call ?_; refine g_args ?_; (first | refine s_fn (hcl ()) ?_) <;> try first | omega | assumption) | (refine g_op ?_; refine g_dyn ?_; refine g_dargs ?_; first | (refine s_fn (hcl ()) ?_ <;> try first | omega | assumption)) | refine ny ?_ | refine WA_block ?_))
      all_goals (try (exfalso; omega))
      all_goals ((refine r_es hQ ?_; try with_reducible rfl))
      all_goals (exact congrArg (V.int .i64) (fdx_at hlt hj hf).symm)
    | false =>
      rw [hf] at hcl
      (have FX := And.intro hlen hget; repeat' (first | (refine sx ?_ ?_ <;> intro h <;> first | (exfalso; omega) | skip) | (refine g_op ?_; refine g_call ?_; refine g_args ?_; (first | refine s_fn (hcl ()) ?_) <;> try first | omega | assumption) | (refine g_op ?_; refine g_dyn ?_; refine g_dargs ?_; first | (refine s_fn (hcl ()) ?_ <;> try first | omega | assumption)) | refine ny ?_ | refine WA_block ?_))
      all_goals (try (exfalso; omega))
      all_goals (refine next_ hL (i + 1) ⟨by omega, up_false (f := fun j => f (l.getD j msz)) hj hf⟩ (by omega))
  · have e : i = l.length := by omega
    subst e
    have hcl := fun (_ : Unit) => True
    (have FX := And.intro hlen hget; repeat' (first | (refine sx ?_ ?_ <;> intro h <;> first | (exfalso; omega) | skip) | (refine g_op ?_; refine g_call ?_; refine g_args ?_; (first | refine s_fn (hcl ()) ?_) <;> try first | omega | assumption) | (refine g_op ?_; refine g_dyn ?_; refine g_dargs ?_; first | (refine s_fn (hcl ()) ?_ <;> try first | omega | assumption)) | refine ny ?_ | refine WA_block ?_))
    all_goals (try (exfalso; omega))
    all_goals ((refine r_es hQ ?_; try with_reducible rfl))
    all_goals (exact congrArg (V.int .i64) (fdx_no hj).symm)

theorem ix_ads (l : List AdR) (f : AdR → Bool) (g : FuncId) (cs : List V) (m : Mem) (hlb : l.length ≤ 100000) (hc : ∀ i, i < l.length → ∀ M, Sees m M → Gives Try.prog g (.agg (adV (l.getD i adz)) :: cs) M (.bool (f (l.getD i adz)))) : Gives Try.prog 139 [.lst (adsV l), .clo (.func g) [] cs] m (.int .i64 (fdx f l)) := by
  have hlen := adsV_length (l := l)
  have hget := hlen
  refine Gives_in Try.func139 rfl Try.ntmps139 Try.results139 (by kernel_rfl) (by simp) rfl fun Q hQ => ?_
  (have FX := And.intro hlen hget; repeat' (first | (refine sx ?_ ?_ <;> intro h <;> first | (exfalso; omega) | skip) | (refine g_op ?_; refine g_call ?_; refine g_args ?_; (first | refine s_fn (hcl ()) ?_) <;> try first | omega | assumption) | (refine g_op ?_; refine g_dyn ?_; refine g_dargs ?_; first | (refine s_fn (hcl ()) ?_ <;> try first | omega | assumption)) | refine ny ?_ | refine WA_block ?_))
  refine WA_while (σ := Nat) [0, 1, 6, 7, 8] (fun i => [.lst (adsV l), .clo (.func g) [] cs, .lst (adsV l), .int .i64 l.length, .int .i64 i]) (fun _ => lend m ++ []) (fun i => i ≤ l.length ∧ ∀ j, j < i → f (l.getD j adz) = false) (fun i => l.length - i) 0 ⟨Nat.zero_le _, fun j h => absurd h (Nat.not_lt_zero _)⟩ tv_ rfl ?_
  rintro i ⟨hi, hj⟩ L hL
  simp only [zipT]
  clear FX
  rcases Nat.lt_or_ge i l.length with hlt | hge
  · have hget := adsV_get hlt
    have hcl := fun (_ : Unit) => hc i hlt (lend m ++ []) (Sees.lend m [])
    unfold adV at hcl hget
    cases hf : f (l.getD i adz) with
    | true =>
      rw [hf] at hcl
      (have FX := And.intro hlen hget; repeat' (first | (refine sx ?_ ?_ <;> intro h <;> first | (exfalso; omega) | skip) | (refine g_op ?_; refine g_call ?_; refine g_args ?_; (first | refine s_fn (hcl ()) ?_) <;> try first | omega | assumption) | (refine g_op ?_; refine g_dyn ?_; refine g_dargs ?_; first | (refine s_fn (hcl ()) ?_ <;> try first | omega | assumption)) | refine ny ?_ | refine WA_block ?_))
      all_goals (try (exfalso; omega))
      all_goals ((refine r_es hQ ?_; try with_reducible rfl))
      all_goals (exact congrArg (V.int .i64) (fdx_at hlt hj hf).symm)
    | false =>
      rw [hf] at hcl
      (have FX := And.intro hlen hget; repeat' (first | (refine sx ?_ ?_ <;> intro h <;> first | (exfalso; omega) | skip) | (refine g_op ?_; refine g_call ?_; refine g_args ?_; (first | refine s_fn (hcl ()) ?_) <;> try first | omega | assumption) | (refine g_op ?_; refine g_dyn ?_; refine g_dargs ?_; first | (refine s_fn (hcl ()) ?_ <;> try first | omega | assumption)) | refine ny ?_ | refine WA_block ?_))
      all_goals (try (exfalso; omega))
      all_goals (refine next_ hL (i + 1) ⟨by omega, up_false (f := fun j => f (l.getD j adz)) hj hf⟩ (by omega))
  · have e : i = l.length := by omega
    subst e
    have hcl := fun (_ : Unit) => True
    (have FX := And.intro hlen hget; repeat' (first | (refine sx ?_ ?_ <;> intro h <;> first | (exfalso; omega) | skip) | (refine g_op ?_; refine g_call ?_; refine g_args ?_; (first | refine s_fn (hcl ()) ?_) <;> try first | omega | assumption) | (refine g_op ?_; refine g_dyn ?_; refine g_dargs ?_; first | (refine s_fn (hcl ()) ?_ <;> try first | omega | assumption)) | refine ny ?_ | refine WA_block ?_))
    all_goals (try (exfalso; omega))
    all_goals ((refine r_es hQ ?_; try with_reducible rfl))
    all_goals (exact congrArg (V.int .i64) (fdx_no hj).symm)

theorem ix_efs (l : List EfR) (f : EfR → Bool) (g : FuncId) (cs : List V) (m : Mem) (hlb : l.length ≤ 100000) (hc : ∀ i, i < l.length → ∀ M, Sees m M → Gives Try.prog g (.agg (efV (l.getD i efz)) :: cs) M (.bool (f (l.getD i efz)))) : Gives Try.prog 167 [.lst (efsV l), .clo (.func g) [] cs] m (.int .i64 (fdx f l)) := by
  have hlen := efsV_length (l := l)
  have hget := hlen
  refine Gives_in Try.func167 rfl Try.ntmps167 Try.results167 (by kernel_rfl) (by simp) rfl fun Q hQ => ?_
  (have FX := And.intro hlen hget; repeat' (first | (refine sx ?_ ?_ <;> intro h <;> first | (exfalso; omega) | skip) | (refine g_op ?_; refine g_call ?_; refine g_args ?_; (first | refine s_fn (hcl ()) ?_) <;> try first | omega | assumption) | (refine g_op ?_; refine g_dyn ?_; refine g_dargs ?_; first | (refine s_fn (hcl ()) ?_ <;> try first | omega | assumption)) | refine ny ?_ | refine WA_block ?_))
  refine WA_while (σ := Nat) [0, 1, 6, 7, 8] (fun i => [.lst (efsV l), .clo (.func g) [] cs, .lst (efsV l), .int .i64 l.length, .int .i64 i]) (fun _ => lend m ++ []) (fun i => i ≤ l.length ∧ ∀ j, j < i → f (l.getD j efz) = false) (fun i => l.length - i) 0 ⟨Nat.zero_le _, fun j h => absurd h (Nat.not_lt_zero _)⟩ tv_ rfl ?_
  rintro i ⟨hi, hj⟩ L hL
  simp only [zipT]
  clear FX
  rcases Nat.lt_or_ge i l.length with hlt | hge
  · have hget := efsV_get hlt
    have hcl := fun (_ : Unit) => hc i hlt (lend m ++ []) (Sees.lend m [])
    unfold efV at hcl hget
    cases hf : f (l.getD i efz) with
    | true =>
      rw [hf] at hcl
      (have FX := And.intro hlen hget; repeat' (first | (refine sx ?_ ?_ <;> intro h <;> first | (exfalso; omega) | skip) | (refine g_op ?_; refine g_call ?_; refine g_args ?_; (first | refine s_fn (hcl ()) ?_) <;> try first | omega | assumption) | (refine g_op ?_; refine g_dyn ?_; refine g_dargs ?_; first | (refine s_fn (hcl ()) ?_ <;> try first | omega | assumption)) | refine ny ?_ | refine WA_block ?_))
      all_goals (try (exfalso; omega))
      all_goals ((refine r_es hQ ?_; try with_reducible rfl))
      all_goals (exact congrArg (V.int .i64) (fdx_at hlt hj hf).symm)
    | false =>
      rw [hf] at hcl
      (have FX := And.intro hlen hget; repeat' (first | (refine sx ?_ ?_ <;> intro h <;> first | (exfalso; omega) | skip) | (refine g_op ?_; refine g_call ?_; refine g_args ?_; (first | refine s_fn (hcl ()) ?_) <;> try first | omega | assumption) | (refine g_op ?_; refine g_dyn ?_; refine g_dargs ?_; first | (refine s_fn (hcl ()) ?_ <;> try first | omega | assumption)) | refine ny ?_ | refine WA_block ?_))
      all_goals (try (exfalso; omega))
      all_goals (refine next_ hL (i + 1) ⟨by omega, up_false (f := fun j => f (l.getD j efz)) hj hf⟩ (by omega))
  · have e : i = l.length := by omega
    subst e
    have hcl := fun (_ : Unit) => True
    (have FX := And.intro hlen hget; repeat' (first | (refine sx ?_ ?_ <;> intro h <;> first | (exfalso; omega) | skip) | (refine g_op ?_; refine g_call ?_; refine g_args ?_; (first | refine s_fn (hcl ()) ?_) <;> try first | omega | assumption) | (refine g_op ?_; refine g_dyn ?_; refine g_dargs ?_; first | (refine s_fn (hcl ()) ?_ <;> try first | omega | assumption)) | refine ny ?_ | refine WA_block ?_))
    all_goals (try (exfalso; omega))
    all_goals ((refine r_es hQ ?_; try with_reducible rfl))
    all_goals (exact congrArg (V.int .i64) (fdx_no hj).symm)

theorem cf_efs (l : List EfR) (f : EfR → Bool) (g : FuncId) (cs : List V) (m : Mem) (hlb : l.length ≤ 100000) (hc : ∀ i, i < l.length → ∀ M, Sees m M → Gives Try.prog g (.agg (efV (l.getD i efz)) :: cs) M (.bool (f (l.getD i efz)))) : Gives Try.prog 159 [.lst (efsV l), .clo (.func g) [] cs] m (.bool (decide (0 ≤ fdx f l))) := by
  refine Gives_in Try.func159 rfl Try.ntmps159 Try.results159 (by kernel_rfl) (by simp) rfl fun Q hQ => ?_
  (repeat' (first | (refine sx ?_ ?_ <;> intro h <;> first | (exfalso; omega) | skip) | (refine g_op ?_; refine g_call ?_; refine g_args ?_; (first | refine s_fn (ix_efs l f g cs _ hlb (fun i hi M hM => hc i hi M ((Sees.lend m []).trans hM))) ?_) <;> try first | omega | assumption) | refine ny ?_ | refine WA_block ?_))
  all_goals ((refine r_es hQ ?_; try with_reducible rfl))
  all_goals (exact congrArg V.bool (by first | rfl | (rw [decide_eq_true (by assumption)]; rfl) | (rw [decide_eq_false (by assumption)]; rfl) | exact (decide_eq_true (by assumption)).symm | exact (decide_eq_false (by assumption)).symm | exact (decide_eq_true (by omega)).symm | exact (decide_eq_false (by omega)).symm))

theorem ix_ts (l : List Txt) (f : Txt → Bool) (g : FuncId) (cs : List V) (m : Mem) (hlb : l.length ≤ 100000) (hc : ∀ i, i < l.length → ∀ M, Sees m M → Gives Try.prog g (.str (l.getD i []) :: cs) M (.bool (f (l.getD i [])))) : Gives Try.prog 147 [.lst (tsV l), .clo (.func g) [] cs] m (.int .i64 (fdx f l)) := by
  have hlen := tsV_length (l := l)
  have hget := hlen
  refine Gives_in Try.func147 rfl Try.ntmps147 Try.results147 (by kernel_rfl) (by simp) rfl fun Q hQ => ?_
  (have FX := And.intro hlen hget; repeat' (first | (refine sx ?_ ?_ <;> intro h <;> first | (exfalso; omega) | skip) | (refine g_op ?_; refine g_call ?_; refine g_args ?_; (first | refine s_fn (hcl ()) ?_) <;> try first | omega | assumption) | (refine g_op ?_; refine g_dyn ?_; refine g_dargs ?_; first | (refine s_fn (hcl ()) ?_ <;> try first | omega | assumption)) | refine ny ?_ | refine WA_block ?_))
  refine WA_while (σ := Nat) [0, 1, 6, 7, 8] (fun i => [.lst (tsV l), .clo (.func g) [] cs, .lst (tsV l), .int .i64 l.length, .int .i64 i]) (fun _ => lend m ++ []) (fun i => i ≤ l.length ∧ ∀ j, j < i → f (l.getD j []) = false) (fun i => l.length - i) 0 ⟨Nat.zero_le _, fun j h => absurd h (Nat.not_lt_zero _)⟩ tv_ rfl ?_
  rintro i ⟨hi, hj⟩ L hL
  simp only [zipT]
  clear FX
  rcases Nat.lt_or_ge i l.length with hlt | hge
  · have hget := tsV_get hlt
    have hcl := fun (_ : Unit) => hc i hlt (lend m ++ []) (Sees.lend m [])
    cases hf : f (l.getD i []) with
    | true =>
      rw [hf] at hcl
      (have FX := And.intro hlen hget; repeat' (first | (refine sx ?_ ?_ <;> intro h <;> first | (exfalso; omega) | skip) | (refine g_op ?_; refine g_call ?_; refine g_args ?_; (first | refine s_fn (hcl ()) ?_) <;> try first | omega | assumption) | (refine g_op ?_; refine g_dyn ?_; refine g_dargs ?_; first | (refine s_fn (hcl ()) ?_ <;> try first | omega | assumption)) | refine ny ?_ | refine WA_block ?_))
      all_goals (try (exfalso; omega))
      all_goals ((refine r_es hQ ?_; try with_reducible rfl))
      all_goals (exact congrArg (V.int .i64) (fdx_at hlt hj hf).symm)
    | false =>
      rw [hf] at hcl
      (have FX := And.intro hlen hget; repeat' (first | (refine sx ?_ ?_ <;> intro h <;> first | (exfalso; omega) | skip) | (refine g_op ?_; refine g_call ?_; refine g_args ?_; (first | refine s_fn (hcl ()) ?_) <;> try first | omega | assumption) | (refine g_op ?_; refine g_dyn ?_; refine g_dargs ?_; first | (refine s_fn (hcl ()) ?_ <;> try first | omega | assumption)) | refine ny ?_ | refine WA_block ?_))
      all_goals (try (exfalso; omega))
      all_goals (refine next_ hL (i + 1) ⟨by omega, up_false (f := fun j => f (l.getD j [])) hj hf⟩ (by omega))
  · have e : i = l.length := by omega
    subst e
    have hcl := fun (_ : Unit) => True
    (have FX := And.intro hlen hget; repeat' (first | (refine sx ?_ ?_ <;> intro h <;> first | (exfalso; omega) | skip) | (refine g_op ?_; refine g_call ?_; refine g_args ?_; (first | refine s_fn (hcl ()) ?_) <;> try first | omega | assumption) | (refine g_op ?_; refine g_dyn ?_; refine g_dargs ?_; first | (refine s_fn (hcl ()) ?_ <;> try first | omega | assumption)) | refine ny ?_ | refine WA_block ?_))
    all_goals (try (exfalso; omega))
    all_goals ((refine r_es hQ ?_; try with_reducible rfl))
    all_goals (exact congrArg (V.int .i64) (fdx_no hj).symm)

theorem cf_ts (l : List Txt) (f : Txt → Bool) (g : FuncId) (cs : List V) (m : Mem) (hlb : l.length ≤ 100000) (hc : ∀ i, i < l.length → ∀ M, Sees m M → Gives Try.prog g (.str (l.getD i []) :: cs) M (.bool (f (l.getD i [])))) : Gives Try.prog 128 [.lst (tsV l), .clo (.func g) [] cs] m (.bool (decide (0 ≤ fdx f l))) := by
  refine Gives_in Try.func128 rfl Try.ntmps128 Try.results128 (by kernel_rfl) (by simp) rfl fun Q hQ => ?_
  (repeat' (first | (refine sx ?_ ?_ <;> intro h <;> first | (exfalso; omega) | skip) | (refine g_op ?_; refine g_call ?_; refine g_args ?_; (first | refine s_fn (ix_ts l f g cs _ hlb (fun i hi M hM => hc i hi M ((Sees.lend m []).trans hM))) ?_) <;> try first | omega | assumption) | refine ny ?_ | refine WA_block ?_))
  all_goals ((refine r_es hQ ?_; try with_reducible rfl))
  all_goals (exact congrArg V.bool (by first | rfl | (rw [decide_eq_true (by assumption)]; rfl) | (rw [decide_eq_false (by assumption)]; rfl) | exact (decide_eq_true (by assumption)).symm | exact (decide_eq_false (by assumption)).symm | exact (decide_eq_true (by omega)).symm | exact (decide_eq_false (by omega)).symm))

theorem six_ts (l : List Txt) (s : Txt) (m : Mem) (hlb : l.length ≤ 100000) : Gives Try.prog 168 [.lst (tsV l), .str s] m (.int .i64 (fdx (isT s) l)) := by
  have hlen := tsV_length (l := l)
  have hget := hlen
  refine Gives_in Try.func168 rfl Try.ntmps168 Try.results168 (by kernel_rfl) (by simp) rfl fun Q hQ => ?_
  (have FX := And.intro hlen hget; repeat' (first | (refine sx ?_ ?_ <;> intro h <;> first | (exfalso; omega) | skip) | refine ny ?_ | refine WA_block ?_))
  refine WA_while (σ := Nat) [0, 1, 6, 7, 8] (fun i => [.lst (tsV l), .str s, .lst (tsV l), .int .i64 l.length, .int .i64 i]) (fun _ => lend m ++ []) (fun i => i ≤ l.length ∧ ∀ j, j < i → isT s (l.getD j []) = false) (fun i => l.length - i) 0 ⟨Nat.zero_le _, fun j h => absurd h (Nat.not_lt_zero _)⟩ tv_ rfl ?_
  rintro i ⟨hi, hj⟩ L hL
  simp only [zipT]
  clear FX
  rcases Nat.lt_or_ge i l.length with hlt | hge
  · have hget := tsV_get hlt
    have hd : isT s (l.getD i []) = decide (l.getD i [] = s) := rfl
    generalize hx : l.getD i [] = x at *
    by_cases he : s = x
    · (have FX := And.intro hlen hget; repeat' (first | (refine sx ?_ ?_ <;> intro h <;> first | (exfalso; omega) | skip) | refine ny ?_ | refine WA_block ?_))
      all_goals (try (exfalso; first | omega | contradiction))
      all_goals ((refine r_es hQ ?_; try with_reducible rfl))
      all_goals (exact congrArg (V.int .i64) (fdx_at hlt hj (by rw [hx, hd]; exact decide_eq_true he.symm)).symm)
    · (have FX := And.intro hlen hget; repeat' (first | (refine sx ?_ ?_ <;> intro h <;> first | (exfalso; omega) | skip) | refine ny ?_ | refine WA_block ?_))
      all_goals (try (exfalso; first | omega | contradiction))
      all_goals (refine next_ hL (i + 1) ⟨by omega, up_false (f := fun j => isT s (l.getD j [])) hj (show isT s (l.getD i []) = false by rw [hx, hd]; exact decide_eq_false fun h => he h.symm)⟩ (by omega))
  · have e : i = l.length := by omega
    subst e
    (have FX := And.intro hlen hget; repeat' (first | (refine sx ?_ ?_ <;> intro h <;> first | (exfalso; omega) | skip) | refine ny ?_ | refine WA_block ?_))
    all_goals (try (exfalso; omega))
    all_goals ((refine r_es hQ ?_; try with_reducible rfl))
    all_goals (exact congrArg (V.int .i64) (fdx_no hj).symm)

theorem sct_ts (l : List Txt) (s : Txt) (m : Mem) (hlb : l.length ≤ 100000) : Gives Try.prog 161 [.lst (tsV l), .str s] m (.bool (decide (0 ≤ fdx (isT s) l))) := by
  refine Gives_in Try.func161 rfl Try.ntmps161 Try.results161 (by kernel_rfl) (by simp) rfl fun Q hQ => ?_
  (repeat' (first | (refine sx ?_ ?_ <;> intro h <;> first | (exfalso; omega) | skip) | (refine g_op ?_; refine g_call ?_; refine g_args ?_; (first | refine s_fn (six_ts l s _ hlb) ?_) <;> try first | omega | assumption) | refine ny ?_ | refine WA_block ?_))
  all_goals ((refine r_es hQ ?_; try with_reducible rfl))
  all_goals (exact congrArg V.bool (by first | rfl | (rw [decide_eq_true (by assumption)]; rfl) | (rw [decide_eq_false (by assumption)]; rfl) | exact (decide_eq_true (by assumption)).symm | exact (decide_eq_false (by assumption)).symm | exact (decide_eq_true (by omega)).symm | exact (decide_eq_false (by omega)).symm))

theorem gsmall1_c (n most : Int) (hb : -1000000000 ≤ most ∧ most ≤ 1000000000) (M : Mem) (k : Nat) (st : Sta) (hk : M[k]? = some (.cells st 3 1 [[.int .i64 most]])) : Gives Try.prog 119 [.int .i64 n, .ptr k 0 0] M (.bool (!decide (-most ≤ n ∧ n ≤ most))) := by
  have hk := (Sees.lend M []).1 _ _ _ _ _ hk
  obtain ⟨st', hk⟩ := hk
  refine Gives_in Try.func119 rfl Try.ntmps119 Try.results119 (by kernel_rfl) (by simp) rfl fun Q hQ => ?_
  (have FX := hk; repeat' (first | (refine sx ?_ ?_ <;> intro h <;> first | (exfalso; omega) | skip) | (refine g_op ?_; refine g_call ?_; refine g_args ?_; (first | refine s_fn (gwithin_c _ _ _ _) ?_) <;> try first | omega | assumption) | refine ny ?_ | refine WA_block ?_))
  all_goals ((refine r_es hQ ?_; try with_reducible rfl))
  all_goals (exact congrArg V.bool (by first | exact (congrArg not (decide_eq_true (by omega))).symm | exact (congrArg not (decide_eq_false (by omega))).symm | exact congrArg not (decide_eq_decide.2 (by omega))))
def smallP (most : Int) (l : List Int) : Prop := ∀ i, i < l.length → -most ≤ l.getD i 0 ∧ l.getD i 0 ≤ most
instance (most : Int) (l : List Int) : Decidable (smallP most l) := inferInstanceAs (Decidable (∀ i, i < l.length → _))
theorem small_fdx (most : Int) (l : List Int) : (!decide (0 ≤ fdx (fun n => !decide (-most ≤ n ∧ n ≤ most)) l)) = decide (smallP most l) := by
  rcases fdx_cases (fun n => !decide (-most ≤ n ∧ n ≤ most)) l 0 with ⟨h1, h2⟩ | ⟨i, h1, h2, h3, _⟩
  · rw [h1, decide_eq_false (by omega)]
    refine (decide_eq_true fun i hi => ?_).symm
    have := h2 i hi
    simpa using this
  · rw [h2, decide_eq_true (by omega)]
    refine (decide_eq_false fun h => ?_).symm
    have := h i h1
    have h4 : (!decide (-most ≤ l.getD i 0 ∧ l.getD i 0 ≤ most)) = true := h3
    rw [decide_eq_true this] at h4
    cases h4

theorem gsmall_c (most : Int) (hb : -1000000000 ≤ most ∧ most ≤ 1000000000) (l : List Int) (m : Mem) (hlb : l.length ≤ 100000) : Gives Try.prog 80 [.int .i64 most, .lst (nsV l)] m (.bool (decide (smallP most l))) := by
  rw [← small_fdx]
  refine Gives_in Try.func80 rfl Try.ntmps80 Try.results80 (by kernel_rfl) (by simp) rfl fun Q hQ => ?_
  (repeat' (first | (refine sx ?_ ?_ <;> intro h <;> first | (exfalso; omega) | skip) | (refine g_op ?_; refine g_call ?_; refine g_args ?_; (first | refine s_fn (cf_ns l (fun n => !decide (-most ≤ n ∧ n ≤ most)) _ _ _ hlb (fun i hi M hM => (hM.at (at_last _ _)).elim fun st h => gsmall1_c _ most hb M _ st h)) ?_) <;> try first | omega | assumption) | refine ny ?_ | refine WA_block ?_))
  all_goals ((refine r_es hQ ?_; try with_reducible rfl))
  all_goals (exact congrArg V.bool (by first | rfl | (rw [decide_eq_true (by assumption)]; rfl) | (rw [decide_eq_false (by assumption)]; rfl) | exact (decide_eq_true (by assumption)).symm | exact (decide_eq_false (by assumption)).symm | exact (decide_eq_true (by omega)).symm | exact (decide_eq_false (by omega)).symm))
/-- .. of a slice of the caller's own -/
theorem gsmall_s (most : Int) (hb : -1000000000 ≤ most ∧ most ≤ 1000000000) (l : List Int) (hlb : l.length ≤ 100000) (m : Mem) (k : Nat) (st : Sta) (hk : m[k]? = some (.cells st 3 1 (nsV l))) (n : Nat) (hn : n = l.length) : Gives Try.prog 80 [.int .i64 most, .sl k n] m (.bool (decide (smallP most l))) := by
  subst hn
  refine Gives_fz hk rfl ?_
  have h : [V.int .i64 most, V.sl k l.length].map (frzV k (nsV l)) = [.int .i64 most, .lst (nsV l)] := by
    have : (nsV l).take l.length = nsV l := by rw [← nsV_length (l := l)]; exact List.take_length
    simp [frzV, nsV_length, this]
  rw [h]
  exact gsmall_c most hb l _ hlb
end Go.Proofs.Ytaoakololkcepaa
/- contracts: the checks of measures, effects, names before -/
namespace Go.Proofs.Ytaoakololkcepaa
open Go.RowKit
attribute [local irreducible] WA WOs WDs WAn qThen qBlock tput
set_option maxHeartbeats 1000000
set_option maxRecDepth 20000
set_option linter.unusedSimpArgs false
set_option linter.unusedVariables false
/-- names with their numbers -/
def nmF (k : Nat) : List Txt → Mp
  | [] => []
  | s :: r => (s, .int .i64 (k : Int)) :: nmF (k + 1) r
def nmM (ns : List Txt) : Mp := nmF 0 ns
theorem nmF_len : ∀ (k : Nat) (ns : List Txt), (nmF k ns).length = ns.length
  | _, [] => rfl
  | k, _ :: r => by simp [nmF, nmF_len (k + 1) r]
theorem nmF_snoc (s : Txt) : ∀ (k : Nat) (ns : List Txt), nmF k (ns ++ [s]) = nmF k ns ++ [(s, .int .i64 ((k + ns.length : Nat) : Int))]
  | k, [] => by simp [nmF]
  | k, t :: r => by
    simp only [List.cons_append, nmF, nmF_snoc s (k + 1) r, List.length_cons]
    have : k + 1 + r.length = k + (r.length + 1) := by omega
    rw [this]
theorem mput_new : ∀ {l : Mp} {s : Txt} {v : V}, mget l s = none → mput l s v = l ++ [(s, v)]
  | [], _, _, _ => rfl
  | p :: r, s, v, h => by
    unfold mget at h
    split at h
    · cases h
    · rename_i hn
      unfold mput
      rw [if_neg hn, mput_new h]; rfl
theorem mget_nmF (s : Txt) : ∀ (k : Nat) (ns : List Txt), (mget (nmF k ns) s).isSome = ns.any (isT s)
  | _, [] => rfl
  | k, t :: r => by
    simp only [nmF, mget, List.any_cons, isT]
    by_cases h : t = s
    · rw [if_pos h, decide_eq_true h]; rfl
    · rw [if_neg h, decide_eq_false h]
      simpa [isT] using mget_nmF s (k + 1) r
theorem mget_nm {ns : List Txt} {s : Txt} : (mget (nmM ns) s).isSome = decide (0 ≤ fdx (isT s) ns) := by rw [← fdx_any]; exact mget_nmF s 0 ns
theorem mget_nm_some {ns : List Txt} {s : Txt} (h : 0 ≤ fdx (isT s) ns) : ∃ u, mget (nmM ns) s = some u := Option.isSome_iff_exists.1 (by rw [mget_nm]; exact decide_eq_true h)
theorem mget_nm_none {ns : List Txt} {s : Txt} (h : ¬ 0 ≤ fdx (isT s) ns) : mget (nmM ns) s = none := by
  have := mget_nm (ns := ns) (s := s)
  rw [decide_eq_false h] at this
  simpa using this
def addE (ns : List Txt) (s : Txt) : Int := if ¬ nameP s then 4 else if 0 ≤ fdx (isT s) ns then 5 else 0
theorem fdx_map {α β : Type} (g : α → β) (f : β → Bool) (l : List α) : fdx f (l.map g) = fdx (fun x => f (g x)) l := by
  unfold fdx; rw [List.findIdx?_map]; rfl
theorem CallW_obj {P : Program} {f : FuncId} {fn : Func} {c : Code} {n : Nat} {rs : Array ResultVar} {vs : List V} {b : Nat} {blk0 blk' : Blk} {v : V} (hf : P.funcs[f]? = some fn) (hb : fn.body = some c) (hN : fn.ntmps = n) (hr : fn.results = rs) (hg : isGo P f = true) (hn : vs.length ≤ n)
    (h : ∀ (M : Mem), M[b]? = some blk0 → ∀ (Q : Exit → List (Nat × V) → Mem → Prop), (∀ e t m', (e = .normal ∨ e = .ret) → resV P t m' rs.toList = some v → m' = M.set b blk' → Q e t m') → WA P n c (argT 0 vs) M Q) : CallW P f vs b blk0 blk' v := by
  subst hN; subst hr
  intro M hM
  refine CallA_introD hf hb hg hn (h M hM _ ?_)
  intro e t m' he hres hm'
  refine ⟨he, ?_⟩
  rw [hres]
  exact ⟨rfl, by rw [hm']⟩
theorem r_esM {P : Program} {e : Exit} {t : List (Nat × V)} {m M' : Mem} {v v' : V} {rs : List ResultVar} {Q : Exit → List (Nat × V) → Mem → Prop} (hQ : ∀ e t m', (e = .normal ∨ e = .ret) → resV P t m' rs = some v → m' = M' → Q e t m') (h : v' = v) (hm : m = M') (he : e = .normal ∨ e = .ret := by first | exact .inl rfl | exact .inr rfl | fail) (hr : resV P t m rs = some v' := by first | exact rv_ | fail) : Q e t m := hQ e t m he (h ▸ hr) hm

theorem gadd_w (ns : List Txt) (s : Txt) (hs : s.length ≤ 1000) (hl : ns.length ≤ 1000) (b : Nat) : CallW Try.prog 136 [.mp b, .str s] b (MapB (nmM ns)) (MapB (nmM (if addE ns s = 0 then ns ++ [s] else ns))) (.int .i64 (addE ns s)) := by
  refine CallW_obj Try.func136 rfl Try.ntmps136 Try.results136 (by kernel_rfl) (by simp) fun M hM Q hQ => ?_
  unfold addE at *
  by_cases h1 : nameP s
  · rw [if_neg (by simpa using h1)] at *
    (repeat' (first | (refine sx ?_ ?_ <;> intro h <;> first | (exfalso; omega) | skip) | (refine g_op ?_; refine g_call ?_; refine g_args ?_; (first | refine s_fn (gisname_c s hs _) ?_) <;> try first | omega | assumption) | refine ny ?_ | refine WA_block ?_))
    all_goals (try (exfalso; first | omega | contradiction))
    by_cases h2 : 0 ≤ fdx (isT s) ns
    · rw [if_pos h2] at *
      obtain ⟨u, hu⟩ := mget_nm_some h2
      (refine s_look (KT := 9) (E := 3) (z := .int .i64 0) hM ?_ rfl lk_ lk_ (by kernel_rfl) (by kernel_rfl) (by kernel_rfl) rfl)
      rw [hu]
      simp only [lookV, if_true, Option.getD_some, Option.isSome_some]
      (repeat' (first | (refine sx ?_ ?_ <;> intro h <;> first | (exfalso; omega) | skip) | (refine g_op ?_; refine g_call ?_; refine g_args ?_; (first | refine s_fn (gisname_c s hs _) ?_) <;> try first | omega | assumption) | refine ny ?_ | refine WA_block ?_))
      all_goals (refine r_esM hQ rfl ?_)
      all_goals (rw [if_neg (by decide)]; exact (set_same hM).symm)
    · rw [if_neg h2] at *
      have hu := mget_nm_none h2
      (refine s_look (KT := 9) (E := 3) (z := .int .i64 0) hM ?_ rfl lk_ lk_ (by kernel_rfl) (by kernel_rfl) (by kernel_rfl) rfl)
      rw [hu]
      simp only [lookV, if_true, Option.getD_none, Option.isSome_none]
      (repeat' (first | (refine sx ?_ ?_ <;> intro h <;> first | (exfalso; omega) | skip) | (refine g_op ?_; refine g_call ?_; refine g_args ?_; (first | refine s_fn (gisname_c s hs _) ?_) <;> try first | omega | assumption) | refine ny ?_ | refine WA_block ?_))
      refine s_mlen (KT := 9) (E := 3) hM ?_ rfl lk_ (by kernel_rfl)
      rw [show (nmM ns).length = ns.length from nmF_len 0 ns]
      (repeat' (first | (refine sx ?_ ?_ <;> intro h <;> first | (exfalso; omega) | skip) | (refine g_op ?_; refine g_call ?_; refine g_args ?_; (first | refine s_fn (gisname_c s hs _) ?_) <;> try first | omega | assumption) | refine ny ?_ | refine WA_block ?_))
      refine s_upd (KT := 9) (E := 3) (s := s) (v := .int .i64 (ns.length : Int)) hM ?_ (.inl rfl) rfl lk_ lk_ lk_ rfl (by kernel_rfl) (by kernel_rfl)
      rw [mput_new hu]
      (repeat' (first | (refine sx ?_ ?_ <;> intro h <;> first | (exfalso; omega) | skip) | (refine g_op ?_; refine g_call ?_; refine g_args ?_; (first | refine s_fn (gisname_c s hs _) ?_) <;> try first | omega | assumption) | refine ny ?_ | refine WA_block ?_))
      all_goals (refine r_esM hQ rfl ?_)
      all_goals (rw [if_pos rfl]; unfold nmM; rw [nmF_snoc, Nat.zero_add])
  · rw [if_pos h1] at *
    (repeat' (first | (refine sx ?_ ?_ <;> intro h <;> first | (exfalso; omega) | skip) | (refine g_op ?_; refine g_call ?_; refine g_args ?_; (first | refine s_fn (gisname_c s hs _) ?_) <;> try first | omega | assumption) | refine ny ?_ | refine WA_block ?_))
    all_goals (try (exfalso; first | omega | contradiction))
    all_goals (refine r_esM hQ rfl ?_)
    all_goals (rw [if_neg (by decide)]; exact (set_same hM).symm)
def lSta : Sta → Sta
  | .ro => .ro
  | _ => .lent
theorem lend_get2 {M : Mem} {k : Nat} {st : Sta} {ty sz : Nat} {es : List (List V)} (h : M[k]? = some (.cells st ty sz es)) (X : Mem) : (lend M ++ X)[k]? = some (.cells (lSta st) ty sz es) := by
  have hlt : k < (lend M).length := by
    have := (List.getElem?_eq_some_iff.1 h).1
    simpa [lend] using this
  rw [List.getElem?_append_left hlt]
  simp only [lend, List.getElem?_map, h, Option.map_some]
  cases st <;> rfl
theorem lend_obj2 {M : Mem} {k : Nat} {st : Sta} {vs : List V} {φ : Nat → Obj → List Value → Prop} (h : M[k]? = some (.obj st vs φ)) (X : Mem) : (lend M ++ X)[k]? = some (.obj (lSta st) vs φ) := by
  have hlt : k < (lend M).length := by
    have := (List.getElem?_eq_some_iff.1 h).1
    simpa [lend] using this
  rw [List.getElem?_append_left hlt]
  simp only [lend, List.getElem?_map, h, Option.map_some]
  cases st <;> rfl

theorem gnumber1_c (a : AdR) (s : Txt) (M : Mem) (k : Nat) (st : Sta) (hk : M[k]? = some (.cells st 9 1 [[.str s]])) : Gives Try.prog 145 [.agg (adV a), .ptr k 0 0] M (.bool (isA s a)) := by
  have hk := lend_get2 hk
  unfold adV isA
  refine Gives_in Try.func145 rfl Try.ntmps145 Try.results145 (by kernel_rfl) (by simp) rfl fun Q hQ => ?_
  (have FX := hk; repeat' (first | (refine sx ?_ ?_ <;> intro h <;> first | (exfalso; omega) | skip) | refine ny ?_ | refine WA_block ?_))
  all_goals ((refine r_es hQ ?_; try with_reducible rfl))
  all_goals (exact congrArg V.bool (by first | rfl | (rw [decide_eq_true (by assumption)]; rfl) | (rw [decide_eq_false (by assumption)]; rfl) | exact (decide_eq_true (by assumption)).symm | exact (decide_eq_false (by assumption)).symm | exact (decide_eq_true (by omega)).symm | exact (decide_eq_false (by omega)).symm))

theorem gnumber_c (l : List AdR) (s : Txt) (m : Mem) (hlb : l.length ≤ 100000) : Gives Try.prog 124 [.lst (adsV l), .str s] m (.int .i64 (fdx (isA s) l)) := by
  refine Gives_in Try.func124 rfl Try.ntmps124 Try.results124 (by kernel_rfl) (by simp) rfl fun Q hQ => ?_
  (repeat' (first | (refine sx ?_ ?_ <;> intro h <;> first | (exfalso; omega) | skip) | (refine g_op ?_; refine g_call ?_; refine g_args ?_; (first | refine s_fn (ix_ads l (isA s) _ _ _ hlb (fun i hi M hM => (hM.at (at_last _ _)).elim fun st h => gnumber1_c _ s M _ st h)) ?_) <;> try first | omega | assumption) | refine ny ?_ | refine WA_block ?_))
  all_goals ((refine r_es hQ ?_; try with_reducible rfl))

theorem gcheckafter_c (ads : List AdR) (l : List Txt) (m : Mem) (hlb : ads.length ≤ 100000) : Gives Try.prog 138 [.lst (tsV l), .lst (adsV ads)] m (.int .i64 (afErr ads l)) := by
  have hln := tsV_length (l := l)
  have hga := hln
  have hti := hln
  have hsl := hln
  have hal := hln
  unfold afErr
  refine Gives_in Try.func138 rfl Try.ntmps138 Try.results138 (by kernel_rfl) (by simp) rfl fun Q hQ => ?_
  (have FX := And.intro hln (And.intro hga (And.intro hti (And.intro hsl hal))); repeat' (first | (refine sx ?_ ?_ <;> intro h <;> first | (exfalso; omega) | skip) | (refine g_op ?_; refine g_call ?_; refine g_args ?_; (first | refine s_fn (gnumber_c ads _ _ hlb) ?_ | refine s_fn (sct_ts _ _ _ ?_) ?_) <;> try first | omega | assumption) | refine ny ?_ | refine WA_block ?_))
  all_goals (try (exfalso; omega))
  all_goals try
    ((refine r_es hQ ?_; try with_reducible rfl)
     refine congrArg (V.int .i64) ?_
     rw [if_pos (by omega)]
     done)
  have hl12 : l.length ≤ 12 := by omega
  rw [if_neg (by omega)] at hQ
  refine WA_while (σ := Nat) [0, 1, 10, 11, 12] (fun i => [.lst (tsV l), .lst (adsV ads), .lst (tsV l), .int .i64 l.length, .int .i64 i]) (fun _ => lend m ++ []) (fun i => i ≤ l.length ∧ ∀ j, j < i → afErrAt ads l j = 0) (fun i => l.length - i) 0 ⟨Nat.zero_le _, fun j h => absurd h (Nat.not_lt_zero _)⟩ tv_ rfl ?_
  rintro i ⟨hi1, hi2⟩ K hK
  simp only [zipT]
  clear FX hga hti hsl hal
  rcases Nat.lt_or_ge i l.length with hi | hi
  · have hga := tsV_get hi
    have hti : ((i : Int) - ((0 : Nat) : Int)).toNat = i := by omega
    have hsl := tsV_take l i
    have hal := fun n h => tsV_all (l := l) (n := n) h
    have hat : afErrAt ads l i = if fdx (isA (l.getD i [])) ads < 0 then 6 else if 0 ≤ fdx (isT (l.getD i [])) (l.take i) then 5 else 0 := rfl
    have hlt : (l.take i).length ≤ 100000 := by rw [List.length_take]; omega
    (have FX := And.intro hln (And.intro hga (And.intro hti (And.intro hsl hal))); repeat' (first | (refine sx ?_ ?_ <;> intro h <;> first | (exfalso; omega) | skip) | (refine g_op ?_; refine g_call ?_; refine g_args ?_; (first | refine s_fn (gnumber_c ads _ _ hlb) ?_ | refine s_fn (sct_ts _ _ _ ?_) ?_) <;> try first | omega | assumption) | refine ny ?_ | refine WA_block ?_))
    all_goals (try (exfalso; omega))
    all_goals try
      ((refine r_es hQ ?_; try with_reducible rfl)
       refine congrArg (V.int .i64) (fE_is hi hi2 (hat.trans ?_) (by decide)).symm
       first | (rw [if_pos (by omega)]; done) | (rw [if_neg (by omega), if_pos (by omega)]; done))
    all_goals (refine next_ hK (i + 1) ⟨by omega, up_zero hi2 (hat.trans (by rw [if_neg (by omega), if_neg (by omega)]))⟩ (by omega))
  · obtain rfl : i = l.length := by omega
    have hga := hln
    have hti := hln
    have hsl := hln
    have hal := hln
    (have FX := And.intro hln (And.intro hga (And.intro hti (And.intro hsl hal))); repeat' (first | (refine sx ?_ ?_ <;> intro h <;> first | (exfalso; omega) | skip) | (refine g_op ?_; refine g_call ?_; refine g_args ?_; (first | refine s_fn (gnumber_c ads _ _ hlb) ?_ | refine s_fn (sct_ts _ _ _ ?_) ?_) <;> try first | omega | assumption) | refine ny ?_ | refine WA_block ?_))
    all_goals (try (exfalso; omega))
    all_goals ((refine r_es hQ ?_; try with_reducible rfl))
    all_goals (exact congrArg (V.int .i64) (fE_zero.2 hi2).symm)
end Go.Proofs.Ytaoakololkcepaa
/- contracts: the checks of measures and of effects -/
namespace Go.Proofs.Ytaoakololkcepaa
open Go.RowKit
attribute [local irreducible] WA WOs WDs WAn qThen qBlock tput
set_option maxHeartbeats 1000000
set_option maxRecDepth 20000
set_option linter.unusedSimpArgs false
set_option linter.unusedVariables false
theorem small_1 (most a : Int) : decide (smallP most [a]) = decide (-most ≤ a ∧ a ≤ most) := by
  refine decide_eq_decide.2 ⟨fun h => h 0 (by simp), fun h i hi => ?_⟩
  obtain rfl : i = 0 := by simp at hi; omega
  exact h
theorem small_3 (most a b c : Int) : decide (smallP most [a, b, c]) = decide ((-most ≤ a ∧ a ≤ most) ∧ (-most ≤ b ∧ b ≤ most) ∧ (-most ≤ c ∧ c ≤ most)) := by
  refine decide_eq_decide.2 ⟨fun h => ⟨h 0 (by simp), h 1 (by simp), h 2 (by simp)⟩, fun h i hi => ?_⟩
  rcases i with _ | _ | _ | i
  · exact h.1
  · exact h.2.1
  · exact h.2.2
  · simp at hi; omega
theorem gsmall_1 (most : Int) (hb : -1000000000 ≤ most ∧ most ≤ 1000000000) (a : Int) (m : Mem) (k : Nat) {st : Sta} (hk : m[k]? = some (.cells st 3 1 [[.int .i64 a]]) := by first | exact ev_ | fail) : Gives Try.prog 80 [.int .i64 most, .sl k 1] m (.bool (decide (-most ≤ a ∧ a ≤ most))) := by
  rw [← small_1]; exact gsmall_s most hb [a] (by simp) m k st hk 1 rfl
theorem gsmall_3 (most : Int) (hb : -1000000000 ≤ most ∧ most ≤ 1000000000) (a b c : Int) (m : Mem) (k : Nat) {st : Sta} (hk : m[k]? = some (.cells st 3 1 [[.int .i64 a], [.int .i64 b], [.int .i64 c]]) := by first | exact ev_ | fail) : Gives Try.prog 80 [.int .i64 most, .sl k 3] m (.bool (decide ((-most ≤ a ∧ a ≤ most) ∧ (-most ≤ b ∧ b ≤ most) ∧ (-most ≤ c ∧ c ≤ most)))) := by
  rw [← small_3]; exact gsmall_s most hb [a, b, c] (by simp) m k st hk 3 rfl
section
variable {P : Program} {N : Nat} {t : List (Nat × V)} {m m' : Mem} {Q : List (Nat × V) → Mem → Prop} {ops : Array Oper} {rest : List Oper} {k : Option Nat} {ty : TypeId} {pos : String} {af : Array Edge}
theorem s_mk {T k0 : Nat} (h : WOs P N ops rest (tput t k (.mp k0)) m' Q) (hd : dOkB N k = true := by first | exact rfl | fail) (hk : m.length = k0 := by first | (simp only [ml, List.length_cons, List.length_nil, Nat.add_assoc, Nat.reduceAdd, Nat.zero_add, Nat.add_zero] <;> with_reducible exact rfl) | fail) (hm : m ++ [MapB []] = m' := by first | exact ev_ | fail) : WOs P N ops (⟨k, .makeMap T none, ty, pos, af, none⟩ :: rest) t m Q := by
  subst hk; subst hm; exact s_mkmap h hd
theorem d_upd {kd : Nat → Kd} {is : List El} {LL : Lim} {i : Nat} {T : TypeId} {x y u : Operand} {b : Nat} {s : List UInt8} {l l' : Mp} {KT E : TypeId} {v : V} (hput : mput l s v = l') (h : WDs P N ops kd LL is (tput t k .any) m' Q) (hT : P.underlying T = some (.map KT E)) (hK : P.underlying KT = some .string)
    (hi : ops[i]? = some ⟨k, .mapUpdate T x y u, ty, pos, af, none⟩ := by first | exact rfl | fail) (hw : kd i = .w := by first | exact rfl | fail) (hx : evO t x = .mp b := by first | exact lk_ | fail) (hb : m[b]? = some (MapB l) := by first | exact ev_ | fail) (hd : dOkB N k = true := by first | exact rfl | fail)
    (hk : evO t y = .str s := by first | exact lk_ | fail) (hu : evO t u = v := by first | exact lk_ | fail) (hvo : mvOk v = true := by first | exact rfl | fail) (hm : m.set b (MapB l') = m' := by first | exact ev_ | fail) : DG P N ops kd LL i is t m Q := by
  subst hput; subst hm
  refine WDs_one hi rfl ⟨dOk_b hd, ?_⟩
  show kd i = .w ∧ XOp P t m _ _
  exact ⟨hw, x_upd hx hk hu hvo hb hT hK h (.inl rfl)⟩
end
def mNames (l : List MsR) : List Txt := l.map MsR.name
theorem fdx_names (s : Txt) (l : List MsR) : fdx (isT s) (mNames l) = fdx (isM s) l := by unfold mNames; rw [fdx_map]; rfl
theorem mNames_succ {l : List MsR} {i : Nat} (h : i < l.length) : mNames (l.take (i + 1)) = mNames (l.take i) ++ [(l.getD i msz).name] := by
  rw [List.take_succ_eq_append_getElem h]
  unfold mNames
  rw [List.map_append]
  have : l.getD i msz = l[i] := by rw [List.getD_eq_getElem?_getD, List.getElem?_eq_getElem h]; rfl
  rw [this]; rfl
theorem mNames_len (l : List MsR) : (mNames l).length = l.length := by simp [mNames]
theorem msErr_zero {b : List MsR} {x : MsR} (h : msErr b x = 0) : nameP x.name ∧ ¬ 0 ≤ fdx (isM x.name) b ∧ (-100000 ≤ x.val ∧ x.val ≤ 100000) ∧ (-100000 ≤ x.low ∧ x.low ≤ 100000) ∧ (-100000 ≤ x.high ∧ x.high ≤ 100000) ∧ x.low ≤ x.high := by
  unfold msErr at h
  split at h
  · simp at h
  · split at h
    · simp at h
    · split at h
      · simp at h
      · split at h
        · simp at h
        · rename_i h1 h2 h3 h4
          exact ⟨Classical.not_not.1 h1, h2, by omega, by omega, by omega, by omega⟩

theorem gcheckms_ok (l : List MsR) (hz : mssErr l = 0) (hn : ∀ i, i < l.length → (l.getD i msz).name.length ≤ 1000) (m : Mem) : CallA Try.prog 135 [.lst (mssV l)] m (fun v mo => v = .tup [.mp m.length, .int .i64 0] ∧ mo = some (m ++ [MapB (nmM (mNames l))])) := by
  have hln := mssV_length (l := l)
  have hga := hln
  have hl12 : l.length ≤ 12 := by
    unfold mssErr at hz
    split at hz
    · simp at hz
    · omega
  have hall : ∀ i, i < l.length → msErrAt l i = 0 := by
    unfold mssErr at hz
    rw [if_neg (by omega)] at hz
    exact fE_zero.1 hz
  have hadd := hga
  refine CallA_inO Try.func135 rfl Try.ntmps135 Try.results135 (by kernel_rfl) (by simp) fun Q hQ => ?_
  (have FX := And.intro hln hga; repeat' (first | (refine sx ?_ ?_ <;> intro h <;> first | (exfalso; omega) | skip) | (refine g_op ?_; refine g_call ?_; refine g_args ?_; (first | refine s_fn (gsmall_3 100000 (by decide) _ _ _ _ _) ?_ | refine s_fnW (hadd _) ?_) <;> try first | omega | assumption) | refine ny ?_ | refine WA_block ?_))
  all_goals (try (exfalso; omega))
  refine s_mk ?_
  (have FX := And.intro hln hga; repeat' (first | (refine sx ?_ ?_ <;> intro h <;> first | (exfalso; omega) | skip) | (refine g_op ?_; refine g_call ?_; refine g_args ?_; (first | refine s_fn (gsmall_3 100000 (by decide) _ _ _ _ _) ?_ | refine s_fnW (hadd _) ?_) <;> try first | omega | assumption) | refine ny ?_ | refine WA_block ?_))
  refine WA_whileK (σ := Nat) [4, 12, 13, 14] (fun i => [.mp ((lend m).length), .lst (mssV l), .int .i64 l.length, .int .i64 i]) (fun i => [MapB (nmM (mNames (l.take i)))]) 1 (fun i => i ≤ l.length) (fun i => l.length - i) 0 (Nat.zero_le _) tv_ rfl (fun _ => rfl) (by intro s s' _ _; simp [conB, conS, V.keeps, V.plain, Blk.flat, flatL, plainL, V.flat]) (by intro s s' _ _; simp [conB, MapB, Blk.flat]) ?_
  rintro i hi1 K hK
  simp only [zipT]
  clear FX hga hadd
  rcases Nat.lt_or_ge i l.length with hi | hi
  · have hga := mssV_get hi
    obtain ⟨z1, z2, z3, z4, z5, z6⟩ := msErr_zero (hall i hi)
    have hnx := mNames_succ hi
    have hadd := fun b => gadd_w (mNames (l.take i)) (l.getD i msz).name (hn i hi) (by rw [mNames_len, List.length_take]; omega) b
    have hae : addE (mNames (l.take i)) (l.getD i msz).name = 0 := by
      unfold addE
      rw [if_neg (by simpa using z1), fdx_names, if_neg z2]
    rw [hae, if_pos rfl, ← hnx] at hadd
    generalize l.getD i msz = x at *
    obtain ⟨nm, va, lo, hg⟩ := x
    unfold msV at hga
    dsimp only at z3 z4 z5 z6 hga hadd
    (have FX := And.intro hln hga; repeat' (first | (refine sx ?_ ?_ <;> intro h <;> first | (exfalso; omega) | skip) | (refine g_op ?_; refine g_call ?_; refine g_args ?_; (first | refine s_fn (gsmall_3 100000 (by decide) _ _ _ _ _) ?_ | refine s_fnW (hadd _) ?_) <;> try first | omega | assumption) | refine ny ?_ | refine WA_block ?_))
    all_goals (try (exfalso; omega))
    all_goals (refine nextL_ hK (i + 1) hi (by omega))
  · obtain rfl : i = l.length := by omega
    have hga := hln
    have hadd := hln
    rw [List.take_of_length_le (Nat.le_refl _)]
    (have FX := And.intro hln hga; repeat' (first | (refine sx ?_ ?_ <;> intro h <;> first | (exfalso; omega) | skip) | (refine g_op ?_; refine g_call ?_; refine g_args ?_; (first | refine s_fn (gsmall_3 100000 (by decide) _ _ _ _ _) ?_ | refine s_fnW (hadd _) ?_) <;> try first | omega | assumption) | refine ny ?_ | refine WA_block ?_))
    all_goals (try (exfalso; omega))
    all_goals (refine hQ _ _ _ (by first | exact .inl rfl | exact .inr rfl) _ rv_ ⟨_, rfl, by rw [lend_len], rfl⟩)
theorem gcheckms_bad (l : List MsR) (hz : mssErr l ≠ 0) (hn : ∀ i, i < l.length → (l.getD i msz).name.length ≤ 1000) (m : Mem) : Gives Try.prog 135 [.lst (mssV l)] m (.tup [.nilmap, .int .i64 (mssErr l)]) := by
  have hln := mssV_length (l := l)
  have hga := hln
  have hadd := hga
  refine Gives_in Try.func135 rfl Try.ntmps135 Try.results135 (by kernel_rfl) (by simp) rfl fun Q hQ => ?_
  unfold mssErr at *
  (have FX := And.intro hln hga; repeat' (first | (refine sx ?_ ?_ <;> intro h <;> first | (exfalso; omega) | skip) | (refine g_op ?_; refine g_call ?_; refine g_args ?_; (first | refine s_fn (gsmall_3 100000 (by decide) _ _ _ _ _) ?_ | refine s_fnW (hadd _) ?_) <;> try first | omega | assumption) | refine ny ?_ | refine WA_block ?_))
  all_goals (try (exfalso; omega))
  all_goals try
    (refine r_es hQ ?_
     rw [if_pos (by omega)]
     done)
  have hl12 : l.length ≤ 12 := by omega
  rw [if_neg (by omega)] at hz hQ
  refine s_mk ?_
  (have FX := And.intro hln hga; repeat' (first | (refine sx ?_ ?_ <;> intro h <;> first | (exfalso; omega) | skip) | (refine g_op ?_; refine g_call ?_; refine g_args ?_; (first | refine s_fn (gsmall_3 100000 (by decide) _ _ _ _ _) ?_ | refine s_fnW (hadd _) ?_) <;> try first | omega | assumption) | refine ny ?_ | refine WA_block ?_))
  refine WA_whileK (σ := Nat) [4, 12, 13, 14] (fun i => [.mp ((lend m).length), .lst (mssV l), .int .i64 l.length, .int .i64 i]) (fun i => [MapB (nmM (mNames (l.take i)))]) 1 (fun i => i ≤ l.length ∧ ∀ j, j < i → msErrAt l j = 0) (fun i => l.length - i) 0 ⟨Nat.zero_le _, fun j h => absurd h (Nat.not_lt_zero _)⟩ tv_ rfl (fun _ => rfl) (by intro s s' _ _; simp [conB, conS, V.keeps, V.plain, Blk.flat, flatL, plainL, V.flat]) (by intro s s' _ _; simp [conB, MapB, Blk.flat]) ?_
  rintro i ⟨hi1, hi2⟩ K hK
  simp only [zipT]
  clear FX hga hadd
  rcases Nat.lt_or_ge i l.length with hi | hi
  · have hga := mssV_get hi
    have hat : msErrAt l i = msErr (l.take i) (l.getD i msz) := rfl
    have hnx := mNames_succ hi
    have hadd := fun b => gadd_w (mNames (l.take i)) (l.getD i msz).name (hn i hi) (by rw [mNames_len, List.length_take]; omega) b
    have hae : addE (mNames (l.take i)) (l.getD i msz).name = if ¬ nameP (l.getD i msz).name then 4 else if 0 ≤ fdx (isM (l.getD i msz).name) (l.take i) then 5 else 0 := by
      unfold addE
      rw [fdx_names]
    unfold msErr at hat
    generalize l.getD i msz = x at *
    obtain ⟨nm, va, lo, hg⟩ := x
    unfold msV at hga
    dsimp only at hga hadd hat hae hnx
    by_cases h1 : nameP nm ∧ ¬ 0 ≤ fdx (isM nm) (l.take i)
    · rw [if_neg (by simpa using h1.1), if_neg h1.2] at hat hae
      rw [hae, if_pos rfl, ← hnx] at hadd
      (have FX := And.intro hln hga; repeat' (first | (refine sx ?_ ?_ <;> intro h <;> first | (exfalso; omega) | skip) | (refine g_op ?_; refine g_call ?_; refine g_args ?_; (first | refine s_fn (gsmall_3 100000 (by decide) _ _ _ _ _) ?_ | refine s_fnW (hadd _) ?_) <;> try first | omega | assumption) | refine ny ?_ | refine WA_block ?_))
      all_goals (try (exfalso; omega))
      all_goals try
        (refine r_es hQ ?_
         have he := fE_is hi hi2 (hat.trans (show _ = (2 : Int) by rw [if_pos (by omega)])) (by decide)
         rw [he]
         done)
      all_goals try
        (refine r_es hQ ?_
         have he := fE_is hi hi2 (hat.trans (show _ = (9 : Int) by rw [if_neg (by omega), if_pos (by omega)])) (by decide)
         rw [he]
         done)
      all_goals (refine nextL_ hK (i + 1) ⟨hi, up_zero hi2 (hat.trans (by rw [if_neg (by omega), if_neg (by omega)]))⟩ (by omega))
    · have he : ∃ e : Int, e ≠ 0 ∧ msErrAt l i = e ∧ addE (mNames (l.take i)) nm = e := by
        by_cases h2 : nameP nm
        · rw [if_neg (by simpa using h2), if_pos (Classical.not_not.1 fun h => h1 ⟨h2, h⟩)] at hat hae
          exact ⟨5, by decide, hat, hae⟩
        · rw [if_pos h2] at hat hae
          exact ⟨4, by decide, hat, hae⟩
      obtain ⟨e, e0, e1, e2⟩ := he
      rw [e2, if_neg e0] at hadd
      rw [fE_is hi hi2 e1 e0] at hQ
      clear hat hae
      (have FX := And.intro hln hga; repeat' (first | (refine sx ?_ ?_ <;> intro h <;> first | (exfalso; omega) | skip) | (refine g_op ?_; refine g_call ?_; refine g_args ?_; (first | refine s_fn (gsmall_3 100000 (by decide) _ _ _ _ _) ?_ | refine s_fnW (hadd _) ?_) <;> try first | omega | assumption) | refine ny ?_ | refine WA_block ?_))
      all_goals (try (exfalso; omega))
      all_goals (refine r_es hQ ?_; try with_reducible rfl)
  · obtain rfl : i = l.length := by omega
    exact absurd (fE_zero.2 hi2) hz
end Go.Proofs.Ytaoakololkcepaa
/- contracts: effects, order of adjustments -/
namespace Go.Proofs.Ytaoakololkcepaa
open Go.RowKit
attribute [local irreducible] WA WOs WDs WAn qThen qBlock tput
set_option maxHeartbeats 1000000
set_option maxRecDepth 20000
set_option linter.unusedSimpArgs false
set_option linter.unusedVariables false

theorem gce1_c (y x : EfR) (M : Mem) (k : Nat) (st : Sta) (hk : M[k]? = some (.cells st 101 2 [[.str x.meas, .int .i64 x.by_]])) : Gives Try.prog 160 [.agg (efV y), .ptr k 0 0] M (.bool (isF x.meas y)) := by
  have hk := lend_get2 hk
  unfold efV isF
  refine Gives_in Try.func160 rfl Try.ntmps160 Try.results160 (by kernel_rfl) (by simp) rfl fun Q hQ => ?_
  (have FX := hk; repeat' (first | (refine sx ?_ ?_ <;> intro h <;> first | (exfalso; omega) | skip) | refine ny ?_ | refine WA_block ?_))
  all_goals ((refine r_es hQ ?_; try with_reducible rfl))
  all_goals (exact congrArg V.bool (by first | rfl | (rw [decide_eq_true (by assumption)]; rfl) | (rw [decide_eq_false (by assumption)]; rfl) | exact (decide_eq_true (by assumption)).symm | exact (decide_eq_false (by assumption)).symm | exact (decide_eq_true (by omega)).symm | exact (decide_eq_false (by omega)).symm))
theorem mget_nm_m {l : List MsR} {s : Txt} : (mget (nmM (mNames l)) s).isSome = decide (0 ≤ fdx (isM s) l) := by rw [mget_nm, fdx_names]

theorem gcheckeffects_c (mm : List MsR) (l : List EfR) (M : Mem) (k : Nat) (st : Sta) (hk : M[k]? = some (.obj st [] (mapφ (nmM (mNames mm))))) : Gives Try.prog 137 [.lst (efsV l), .mp k] M (.int .i64 (efErr mm l)) := by
  have hln := efsV_length (l := l)
  have hga := hln
  have hti := hln
  have hsl := hln
  have hal := hln
  have hko := lend_obj2 hk
  unfold efErr
  refine Gives_in Try.func137 rfl Try.ntmps137 Try.results137 (by kernel_rfl) (by simp) rfl fun Q hQ => ?_
  (have FX := And.intro hln (And.intro hga (And.intro hti (And.intro hsl hal))); repeat' (first | (refine sx ?_ ?_ <;> intro h <;> first | (exfalso; omega) | skip) | (refine g_op ?_; refine g_call ?_; refine g_args ?_; (first | refine s_fn (hcf _ ?_) ?_ | refine s_fn (gsmall_1 1000 (by decide) _ _ _) ?_) <;> try first | omega | assumption) | refine ny ?_ | refine WA_block ?_))
  all_goals (try (exfalso; omega))
  all_goals try
    ((refine r_es hQ ?_; try with_reducible rfl)
     refine congrArg (V.int .i64) ?_
     rw [if_pos (by omega)]
     done)
  have hl12 : l.length ≤ 12 := by omega
  rw [if_neg (by omega)] at hQ
  refine WA_whileK (σ := Nat) (L := M) [0, 1, 12, 13, 14] (fun i => [.lst (efsV l), .mp k, .lst (efsV l), .int .i64 l.length, .int .i64 i]) (fun _ => []) 0 (fun i => i ≤ l.length ∧ ∀ j, j < i → efErrAt mm l j = 0) (fun i => l.length - i) 0 ⟨Nat.zero_le _, fun j h => absurd h (Nat.not_lt_zero _)⟩ tv_ rfl (fun _ => rfl) (by intro s s' _ _; simp [conB, conS, V.keeps, V.plain, Blk.flat, flatL, plainL, V.flat]) (by intro s s' _ _; simp [conB, conS, V.keeps, V.plain, Blk.flat, flatL, plainL, V.flat]) ?_
  rintro i ⟨hi1, hi2⟩ K hK
  simp only [zipT]
  clear FX hga hti hsl hal
  rcases Nat.lt_or_ge i l.length with hi | hi
  · have hga := efsV_get hi
    have hti : ((i : Int) - ((0 : Nat) : Int)).toNat = i := by omega
    have hsl := efsV_take l i
    have hal := fun n h => efsV_all (l := l) (n := n) h
    have hat : efErrAt mm l i = if fdx (isM (l.getD i efz).meas) mm < 0 then 6 else if 0 ≤ fdx (isF (l.getD i efz).meas) (l.take i) then 5 else
      if ¬ (-1000 ≤ (l.getD i efz).by_ ∧ (l.getD i efz).by_ ≤ 1000) then 2 else if (l.getD i efz).by_ = 0 then 11 else 0 := rfl
    have hlt : (l.take i).length ≤ 100000 := by rw [List.length_take]; omega
    have hmg := mget_nm_m (l := mm) (s := (l.getD i efz).meas)
    generalize l.getD i efz = x at *
    obtain ⟨nm, by_⟩ := x
    unfold efV at hga
    dsimp only at hga hat hmg
    have hcf := fun (m : Mem) (k : Nat) (h : ∃ st, m[k]? = some (.cells st 101 2 [[.str nm, .int .i64 by_]])) => cf_efs (l.take i) (isF nm) 160 [.ptr k 0 0] m hlt (fun i hi M hM => h.elim fun st h => (hM.at h).elim fun st h => gce1_c _ ⟨nm, by_⟩ M k st h)
    (have FX := And.intro hln (And.intro hga (And.intro hti (And.intro hsl hal))); repeat' (first | (refine sx ?_ ?_ <;> intro h <;> first | (exfalso; omega) | skip) | (refine g_op ?_; refine g_call ?_; refine g_args ?_; (first | refine s_fn (hcf _ ?_) ?_ | refine s_fn (gsmall_1 1000 (by decide) _ _ _) ?_) <;> try first | omega | assumption) | refine ny ?_ | refine WA_block ?_))
    all_goals (try (exfalso; omega))
    refine s_look (KT := 9) (E := 3) (z := .int .i64 0) (hko _) ?_ rfl lk_ lk_ (by kernel_rfl) (by kernel_rfl) (by kernel_rfl) rfl
    by_cases h1 : 0 ≤ fdx (isM nm) mm
    · rw [decide_eq_true h1] at hmg
      obtain ⟨u, hu⟩ := Option.isSome_iff_exists.1 hmg
      rw [hu]
      simp only [lookV, if_true, Option.getD_some, Option.isSome_some]
      rw [if_neg (by omega)] at hat
      (have FX := And.intro hln (And.intro hga (And.intro hti (And.intro hsl hal))); repeat' (first | (refine sx ?_ ?_ <;> intro h <;> first | (exfalso; omega) | skip) | (refine g_op ?_; refine g_call ?_; refine g_args ?_; (first | refine s_fn (hcf _ _ ?_) ?_ | refine s_fn (gsmall_1 1000 (by decide) _ _ _) ?_) <;> try first | omega | assumption) | refine ny ?_ | refine WA_block ?_))
      all_goals (try (exfalso; omega))
      all_goals try (exact ⟨_, ev_⟩)
      all_goals try
        ((refine r_es hQ ?_; try with_reducible rfl)
         refine congrArg (V.int .i64) (fE_is hi hi2 (hat.trans ?_) (by decide)).symm
         first | (rw [if_pos (by omega)]; done) | (rw [if_neg (by omega), if_pos (by omega)]; done) | (rw [if_neg (by omega), if_neg (by omega), if_pos (by omega)]; done))
      all_goals (refine nextL_ hK (i + 1) ⟨by omega, up_zero hi2 (hat.trans (by rw [if_neg (by omega), if_neg (by omega), if_neg (by omega)]))⟩ (by omega))
    · rw [decide_eq_false h1] at hmg
      have hu : mget (nmM (mNames mm)) nm = none := by simpa using hmg
      rw [hu]
      simp only [lookV, if_true, Option.getD_none, Option.isSome_none]
      rw [if_pos (by omega)] at hat
      (have FX := And.intro hln (And.intro hga (And.intro hti (And.intro hsl hal))); repeat' (first | (refine sx ?_ ?_ <;> intro h <;> first | (exfalso; omega) | skip) | (refine g_op ?_; refine g_call ?_; refine g_args ?_; (first | refine s_fn (hcf _ _ ?_) ?_ | refine s_fn (gsmall_1 1000 (by decide) _ _ _) ?_) <;> try first | omega | assumption) | refine ny ?_ | refine WA_block ?_))
      all_goals (try (exfalso; omega))
      all_goals
        ((refine r_es hQ ?_; try with_reducible rfl)
         exact congrArg (V.int .i64) (fE_is hi hi2 hat (by decide)).symm)
  · obtain rfl : i = l.length := by omega
    have hga := hln
    have hti := hln
    have hsl := hln
    have hal := hln
    have hcf := hln
    (have FX := And.intro hln (And.intro hga (And.intro hti (And.intro hsl hal))); repeat' (first | (refine sx ?_ ?_ <;> intro h <;> first | (exfalso; omega) | skip) | refine ny ?_ | refine WA_block ?_))
    all_goals (try (exfalso; omega))
    all_goals ((refine r_es hQ ?_; try with_reducible rfl))
    all_goals (exact congrArg (V.int .i64) (fE_zero.2 hi2).symm)
end Go.Proofs.Ytaoakololkcepaa
/- contracts: the order of adjustments -/
namespace Go.Proofs.Ytaoakololkcepaa
open Go.RowKit
attribute [local irreducible] WA WOs WDs WAn qThen qBlock tput
set_option maxHeartbeats 1000000
set_option maxRecDepth 20000
set_option linter.unusedSimpArgs false
set_option linter.unusedVariables false
def dnM (ns : List Txt) : Mp := ns.map fun s => (s, .bool true)
theorem mget_dn (ns : List Txt) (s : Txt) : (mget (dnM ns) s).getD (.bool false) = .bool (hasT ns s) := by
  induction ns with
  | nil => rfl
  | cons t r ih =>
    simp only [dnM, List.map_cons, mget, hasT, List.any_cons, isT] at ih ⊢
    by_cases h : t = s
    · rw [if_pos h, decide_eq_true h]; rfl
    · rw [if_neg h, decide_eq_false h, ih]; rfl
theorem mget_dn_no {ns : List Txt} {s : Txt} (h : hasT ns s = false) : mget (dnM ns) s = none := by
  induction ns with
  | nil => rfl
  | cons t r ih =>
    simp only [dnM, List.map_cons, mget, hasT, List.any_cons, isT, Bool.or_eq_false_iff, decide_eq_false_iff_not] at h ih ⊢
    rw [if_neg h.1]
    exact ih (by simpa [hasT, isT] using h.2)
theorem dnM_snoc (ns : List Txt) (s : Txt) : dnM (ns ++ [s]) = dnM ns ++ [(s, .bool true)] := by simp [dnM]
theorem look_dn (ns : List Txt) (s : Txt) : lookV false (mget (dnM ns) s) (.bool false) = .bool (hasT ns s) := mget_dn ns s

theorem go11_c (ns : List Txt) (s : Txt) (M : Mem) (k km : Nat) (st st2 : Sta) (hk : M[k]? = some (.cells st 172 1 [[.mp km]])) (hm : M[km]? = some (.obj st2 [] (mapφ (dnM ns)))) : Gives Try.prog 141 [.str s, .ptr k 0 0] M (.bool (!hasT ns s)) := by
  have hk := lend_get2 hk
  have hm := lend_obj2 hm
  refine Gives_in Try.func141 rfl Try.ntmps141 Try.results141 (by kernel_rfl) (by simp) rfl fun Q hQ => ?_
  (have FX := hk; repeat' (first | (refine sx ?_ ?_ <;> intro h <;> first | (exfalso; omega) | skip) | refine ny ?_ | refine WA_block ?_))
  (refine s_look (KT := 9) (E := 4) (z := .bool false) (hm _) ?_ rfl lk_ lk_ (by kernel_rfl) (by kernel_rfl) (by kernel_rfl) rfl)
  rw [look_dn]
  (have FX := hk; repeat' (first | (refine sx ?_ ?_ <;> intro h <;> first | (exfalso; omega) | skip) | refine ny ?_ | refine WA_block ?_))
  all_goals ((refine r_es hQ ?_; try with_reducible rfl))
theorem fdx_not (ns : List Txt) (l : List Txt) : (!decide (0 ≤ fdx (fun s => !hasT ns s) l)) = l.all (hasT ns) := by
  rw [← fdx_any, List.all_eq_not_any_not]

theorem go1_c (ns : List Txt) (a : AdR) (hla : a.after.length ≤ 1000) (M : Mem) (k km : Nat) (st st2 : Sta) (hk : M[k]? = some (.cells st 172 1 [[.mp km]])) (hm : M[km]? = some (.obj st2 [] (mapφ (dnM ns)))) : Gives Try.prog 140 [.agg (adV a), .ptr k 0 0] M (.bool (rdyA ns a)) := by
  have hk0 := hk
  have hm0 := hm
  have hk := lend_get2 hk
  have hm := lend_obj2 hm
  have hcf : ∀ m : Mem, (∃ X, m = lend M ++ X) → Gives Try.prog 128 [.lst (tsV a.after), .clo (.func 141) [] [.ptr k 0 0]] m (.bool (decide (0 ≤ fdx (fun s => !hasT ns s) a.after))) := by
    rintro m ⟨X, rfl⟩
    refine cf_ts a.after (fun s => !hasT ns s) 141 [.ptr k 0 0] _ (by omega) fun i hi M' hM => ?_
    obtain ⟨st3, h3⟩ := hM.1 _ _ _ _ _ (hk X)
    obtain ⟨st4, h4⟩ := hM.2 _ _ _ _ (hm X)
    exact go11_c ns _ M' k km st3 st4 h3 h4
  have hr : rdyA ns a = (!hasT ns a.name && !decide (0 ≤ fdx (fun s => !hasT ns s) a.after)) := by rw [fdx_not]; rfl
  rw [hr]
  unfold adV
  obtain ⟨nm, ef, le, mo, pa, af⟩ := a
  dsimp only at hcf ⊢
  clear hr
  refine Gives_in Try.func140 rfl Try.ntmps140 Try.results140 (by kernel_rfl) (by simp) rfl fun Q hQ => ?_
  (have FX := hk; repeat' (first | (refine sx ?_ ?_ <;> intro h <;> first | (exfalso; omega) | skip) | (refine g_op ?_; refine g_call ?_; refine g_args ?_; (first | refine s_fn (hcf _ ⟨_, rfl⟩) ?_) <;> try first | omega | assumption) | refine ny ?_ | refine WA_block ?_))
  (refine s_look (KT := 9) (E := 4) (z := .bool false) (hm _) ?_ rfl lk_ lk_ (by kernel_rfl) (by kernel_rfl) (by kernel_rfl) rfl)
  rw [look_dn]
  cases hn : hasT ns nm with
  | true =>
    (have FX := hk; repeat' (first | (refine sx ?_ ?_ <;> intro h <;> first | (exfalso; omega) | skip) | (refine g_op ?_; refine g_call ?_; refine g_args ?_; (first | refine s_fn (hcf _ ⟨_, rfl⟩) ?_) <;> try first | omega | assumption) | refine ny ?_ | refine WA_block ?_))
    all_goals ((refine r_es hQ ?_; try with_reducible rfl))
    all_goals (rw [hn]; rfl)
  | false =>
    (have FX := hk; repeat' (first | (refine sx ?_ ?_ <;> intro h <;> first | (exfalso; omega) | skip) | (refine g_op ?_; refine g_call ?_; refine g_args ?_; (first | refine s_fn (hcf _ ⟨_, rfl⟩) ?_) <;> try first | omega | assumption) | refine ny ?_ | refine WA_block ?_))
    all_goals ((refine r_es hQ ?_; try with_reducible rfl))
    all_goals (rw [hn]; first | (rw [decide_eq_true (by assumption)]; rfl) | (rw [decide_eq_false (by assumption)]; rfl))
theorem goix_c (ads : List AdR) (ns : List Txt) (hla : ads.length ≤ 1000) (hlb : ∀ i, i < ads.length → (ads.getD i adz).after.length ≤ 1000) (m : Mem) (k : Nat) {km : Nat} {st st2 : Sta} (hk : m[k]? = some (.cells st 172 1 [[.mp km]]) := by first | exact ev_ | fail) (hm : m[km]? = some (.obj st2 [] (mapφ (dnM ns))) := by first | exact ev_ | fail) :
    Gives Try.prog 139 [.lst (adsV ads), .clo (.func 140) [] [.ptr k 0 0]] m (.int .i64 (fdx (rdyA ns) ads)) := by
  refine ix_ads ads (rdyA ns) 140 [.ptr k 0 0] m (by omega) fun i hi M' hM => ?_
  obtain ⟨st3, h3⟩ := hM.1 _ _ _ _ _ hk
  obtain ⟨st4, h4⟩ := hM.2 _ _ _ _ hm
  exact go1_c ns _ (hlb i hi) M' k km st3 st4 h3 h4
def nuV (l : List Nat) : List (List V) := l.map fun (n : Nat) => [V.int .i64 (n : Int)]
theorem nuV_length {l : List Nat} : (nuV l).length = l.length := by simp [nuV]
theorem nuV_get {l : List Nat} {i : Nat} (h : i < l.length) : (nuV l)[i]? = some [V.int .i64 ((l.getD i 0 : Nat) : Int)] := by
  unfold nuV; rw [List.getElem?_map, lst_get (d := 0) h]; rfl
theorem nuV_plain (l : List Nat) : plainLL (nuV l) = true := plainLL_of fun e he => by obtain ⟨x, _, rfl⟩ := List.mem_map.1 he; rfl
theorem nuV_snoc (l : List Nat) (n : Nat) : nuV (l ++ [n]) = nuV l ++ [[V.int .i64 (n : Int)]] := by simp [nuV]
def nuSt (k : Nat) : List Nat → TV
  | [] => .v .nilsl
  | _ :: r => .sl k (r.length + 1)
def nuE : List Nat → List TB
  | [] => []
  | p :: r => [.cells .own 3 1 ((nuV (p :: r)).map (List.map TV.v))]
def goE (b : BnR) (out : List Nat) : List TB := .cells .own 25 2 [[.v (.lst (mssV b.ms)), .v (.lst (adsV b.ads))]] :: .obj .own [] (mapφ (dnM (outN b.ads out))) :: .cells .own 172 1 [[.mp 1]] :: nuE out
def goS (out : List Nat) : List TV := [.ptr 0 0 0, nuSt 3 out, .ptr 2 0 0]
theorem tvs_ok (k : Nat) (l : List (List V)) : (l.map (List.map TV.v)).all (List.all · (TV.okT k)) = true := by
  simp [TV.okT]
theorem goE_ok {b : BnR} {out : List Nat} : (goE b out).all (TB.ok (goE b out).length) = true := by
  unfold goE
  cases out with
  | nil => simp [TB.ok, TV.okT, nuE]
  | cons p r => simp only [nuE, List.all_cons, TB.ok, TV.okT, List.all_nil, Bool.and_true, Bool.and_self, tvs_ok, List.length_cons, List.length_nil]; decide
theorem goS_ok {b : BnR} {out : List Nat} : (goS out).all (TV.okT (goE b out).length) = true := by
  unfold goE goS
  cases out with
  | nil => simp [TV.okT, nuE, nuSt]
  | cons p r => simp [TV.okT, nuE, nuSt]
theorem uB7_111_6 {N : Nat} {l : List Oper} {t : List (Nat × V)} {m : Mem} {Q : Exit → List (Nat × V) → Mem → Prop} (h : RgN Try.prog N l t m Q (fun i => if i == 7 then .w else if i == 0 || i == 2 || i == 6 then .q else .p) [.one 0, .one 1, .one 2, .one 3, .one 4, .one 5, .one 6, .one 7]) : WA Try.prog N (.region 6 l.toArray true) t m Q := d_rgN h
theorem gorder_c (b : BnR) (hla : b.ads.length ≤ 1000) (hlb : ∀ i, i < b.ads.length → (b.ads.getD i adz).after.length ≤ 1000) (m : Mem) : Gives Try.prog 111 [.agg (bnV b)] m (.lst (nuV (ordB b.ads))) := by
  have hln := adsV_length (l := b.ads)
  have hga := hln
  have hll := hln
  have hlt := hln
  have hix := hln
  suffices key : CallA Try.prog 111 [.agg (bnV b)] m (fun v' mo => v' = oV (nuV (ordB b.ads)) ∧ mo = none) from Gives_weak key (wk_oV _)
  unfold bnV
  refine CallA_in Try.func111 rfl Try.ntmps111 Try.results111 (by kernel_rfl) (by simp) fun Q hQ => ?_
  (have FX := And.intro hln (And.intro hga (And.intro hll (And.intro hlt hix))); repeat' (first | (refine sx ?_ ?_ <;> intro h <;> first | (exfalso; omega) | skip) | (refine g_op ?_; refine g_call ?_; refine g_args ?_; (first | refine s_fn (goix_c b.ads _ hla hlb _ _) ?_) <;> try first | omega | assumption) | refine ny ?_ | refine WA_block ?_ | (refine uB7_111_6 ?_; refine ⟨by kernel_rfl, ?_⟩) | ((first | refine grp_cons (fun _ => goix_c b.ads _ hla hlb _ _) ?_) <;> try first | omega | assumption) | (refine g_d ?_; refine d_args ?_; (first | refine d_fn (goix_c b.ads _ hla hlb _ _) ?_ | refine d_fnQ (fun _ => goix_c b.ads _ hla hlb _ _) ?_) <;> try first | omega | assumption) | (refine g_d ?_; (first | refine d_fnY (goix_c b.ads _ hla hlb _ _) ?_) <;> try first | omega | assumption)))
  refine s_mk ?_
  (have FX := And.intro hln (And.intro hga (And.intro hll (And.intro hlt hix))); repeat' (first | (refine sx ?_ ?_ <;> intro h <;> first | (exfalso; omega) | skip) | (refine g_op ?_; refine g_call ?_; refine g_args ?_; (first | refine s_fn (goix_c b.ads _ hla hlb _ _) ?_) <;> try first | omega | assumption) | refine ny ?_ | refine WA_block ?_ | (refine uB7_111_6 ?_; refine ⟨by kernel_rfl, ?_⟩) | ((first | refine grp_cons (fun _ => goix_c b.ads _ hla hlb _ _) ?_) <;> try first | omega | assumption) | (refine g_d ?_; refine d_args ?_; (first | refine d_fn (goix_c b.ads _ hla hlb _ _) ?_ | refine d_fnQ (fun _ => goix_c b.ads _ hla hlb _ _) ?_) <;> try first | omega | assumption) | (refine g_d ?_; (first | refine d_fnY (goix_c b.ads _ hla hlb _ _) ?_) <;> try first | omega | assumption)))
  refine WA_whileJ (σ := Nat × List Nat) (L := lend m) [1, 3, 4] (fun s => goS s.2) (fun s => goE b s.2) (fun s => ordF b.ads s.1 s.2 = ordB b.ads ∧ leftN b.ads s.2 < s.1 ∧ s.2.length + leftN b.ads s.2 ≤ b.ads.length) (fun s => s.1) (b.ads.length + 1, []) [0, 1, 2] ⟨rfl, by have := leftN_le b.ads []; dsimp only; omega, by have := leftN_le b.ads []; dsimp only [List.length_nil]; omega⟩ ?_ rfl rfl (by decide) (by decide) (fun _ _ => goS_ok (b := b)) (fun _ _ => goE_ok) ?_
  · exact tv_
  rintro ⟨f, out⟩ ⟨hf, hlf, hol⟩ B ⟨D, hB⟩ K hK
  dsimp only at hf hlf hol
  dsimp only
  clear FX hga hll hlt hix
  obtain ⟨f, rfl⟩ : ∃ f', f = f' + 1 := ⟨f - 1, by omega⟩
  have hn0 : nxtI b.ads out = fdx (rdyA (outN b.ads out)) b.ads := rfl
  unfold ordF at hf
  rw [hn0] at hf
  rcases fdx_cases (rdyA (outN b.ads out)) b.ads adz with ⟨h1, _⟩ | ⟨i, hi, h1, h2, _⟩
  · rw [h1, if_pos (by decide)] at hf
    rw [← hf] at hQ
    have hga := h1
    have hix := h1
    have hll := hln
    have hlt := hln
    clear hK hn0
    cases out with
    | nil =>
      have e0 : oV (nuV []) = V.nilsl := rfl
      rw [e0] at hQ
      simp only [goS, goE, nuSt, nuE]
      simp only [List.map_cons, List.map_nil, TB.inst, TV.inst, tv_map, zipT, List.cons_append, List.nil_append, Nat.add_zero]
      (have FX := And.intro hln (And.intro hga (And.intro hll (And.intro hlt hix))); repeat' (first | (refine sx ?_ ?_ <;> intro h <;> first | (exfalso; omega) | skip) | (refine g_op ?_; refine g_call ?_; refine g_args ?_; (first | refine s_fn (goix_c b.ads _ hla hlb _ _) ?_) <;> try first | omega | assumption) | refine ny ?_ | refine WA_block ?_ | (refine uB7_111_6 ?_; refine ⟨by kernel_rfl, ?_⟩) | ((first | refine grp_cons (fun _ => goix_c b.ads _ hla hlb _ _) ?_) <;> try first | omega | assumption) | (refine g_d ?_; refine d_args ?_; (first | refine d_fn (goix_c b.ads _ hla hlb _ _) ?_ | refine d_fnQ (fun _ => goix_c b.ads _ hla hlb _ _) ?_) <;> try first | omega | assumption) | (refine g_d ?_; (first | refine d_fnY (goix_c b.ads _ hla hlb _ _) ?_) <;> try first | omega | assumption)))
      all_goals (try (exfalso; omega))
      all_goals (refine r_esA hQ (.inl ⟨rfl, rfl, rfl⟩))
    | cons p r =>
      have hrl : (nuV (p :: r)).length = r.length + 1 := nuV_length
      have e0 : oV (nuV (p :: r)) = .lst (nuV (p :: r)) := rfl
      rw [e0] at hQ
      simp only [goS, goE, nuSt, nuE]
      simp only [List.map_cons, List.map_nil, TB.inst, TV.inst, tv_map, zipT, List.cons_append, List.nil_append, Nat.add_zero]
      (have FX := And.intro hln (And.intro hga (And.intro hll (And.intro hlt hix))); repeat' (first | (refine sx ?_ ?_ <;> intro h <;> first | (exfalso; omega) | skip) | (refine g_op ?_; refine g_call ?_; refine g_args ?_; (first | refine s_fn (goix_c b.ads _ hla hlb _ _) ?_) <;> try first | omega | assumption) | refine ny ?_ | refine WA_block ?_ | (refine uB7_111_6 ?_; refine ⟨by kernel_rfl, ?_⟩) | ((first | refine grp_cons (fun _ => goix_c b.ads _ hla hlb _ _) ?_) <;> try first | omega | assumption) | (refine g_d ?_; refine d_args ?_; (first | refine d_fn (goix_c b.ads _ hla hlb _ _) ?_ | refine d_fnQ (fun _ => goix_c b.ads _ hla hlb _ _) ?_) <;> try first | omega | assumption) | (refine g_d ?_; (first | refine d_fnY (goix_c b.ads _ hla hlb _ _) ?_) <;> try first | omega | assumption)))
      all_goals (try (exfalso; omega))
      all_goals (refine r_esA hQ ?_)
      all_goals (refine fin_sl (D := D) (j := 3) hB rfl (by rw [hrl]; exact Nat.le_refl _) (by rw [List.take_of_length_le (by rw [hrl]; exact Nat.le_refl _)]; exact nuV_plain _) ⟨?_, rfl⟩)
      all_goals (rw [List.take_of_length_le (by rw [hrl]; exact Nat.le_refl _)])
  · rw [h1, if_neg (by omega), Int.toNat_natCast] at hf
    have hga := adsV_get hi
    have hix := h1
    have hle := leftN_lt hi h2
    have hnx := hK (f, out ++ [i])
    dsimp only at hnx
    have hno : hasT (outN b.ads out) (b.ads.getD i adz).name = false := by
      unfold rdyA at h2
      simp only [Bool.and_eq_true, Bool.not_eq_true'] at h2
      exact h2.1
    have hon : outN b.ads (out ++ [i]) = outN b.ads out ++ [(b.ads.getD i adz).name] := outN_snoc _ _ _
    have hdn : dnM (outN b.ads (out ++ [i])) = mput (dnM (outN b.ads out)) (b.ads.getD i adz).name (.bool true) := by
      rw [mput_new (mget_dn_no hno), hon, dnM_snoc]
    have hny := fun (_ : Unit) => hnx
    clear hnx hK hon h2 hno
    generalize b.ads.getD i adz = x at *
    obtain ⟨nm, ef, le, mo, pa, af⟩ := x
    unfold adV at hga
    dsimp only at hga hdn
    have hlf2 : leftN b.ads (out ++ [i]) < f := by omega
    have hol2 : (out ++ [i]).length + leftN b.ads (out ++ [i]) ≤ b.ads.length := by rw [List.length_append, List.length_singleton]; omega
    cases out with
    | nil =>
      have hll := h1
      have hlt := h1
      simp only [goS, goE, nuSt, nuE]
      simp only [List.map_cons, List.map_nil, TB.inst, TV.inst, tv_map, zipT, List.cons_append, List.nil_append, Nat.add_zero]
      (have FX := And.intro hln (And.intro hga (And.intro hll (And.intro hlt hix))); repeat' (first | (refine sx ?_ ?_ <;> intro h <;> first | (exfalso; omega) | skip) | (refine g_op ?_; refine g_call ?_; refine g_args ?_; (first | refine s_fn (goix_c b.ads _ hla hlb _ _) ?_) <;> try first | omega | assumption) | refine ny ?_ | refine WA_block ?_ | (refine uB7_111_6 ?_; refine ⟨by kernel_rfl, ?_⟩) | ((first | refine grp_cons (fun _ => goix_c b.ads _ hla hlb _ _) ?_) <;> try first | omega | assumption) | (refine g_d ?_; refine d_args ?_; (first | refine d_fn (goix_c b.ads _ hla hlb _ _) ?_ | refine d_fnQ (fun _ => goix_c b.ads _ hla hlb _ _) ?_) <;> try first | omega | assumption) | (refine g_d ?_; (first | refine d_fnY (goix_c b.ads _ hla hlb _ _) ?_) <;> try first | omega | assumption)))
      all_goals (try (exfalso; omega))
      (refine g_d ?_; refine d_upd (KT := 9) (E := 4) (s := nm) (v := .bool true) hdn.symm ?_ (by kernel_rfl) (by kernel_rfl))
      (have FX := And.intro hln (And.intro hga (And.intro hll (And.intro hlt hix))); repeat' (first | (refine sx ?_ ?_ <;> intro h <;> first | (exfalso; omega) | skip) | (refine g_op ?_; refine g_call ?_; refine g_args ?_; (first | refine s_fn (goix_c b.ads _ hla hlb _ _) ?_) <;> try first | omega | assumption) | refine ny ?_ | refine WA_block ?_ | (refine uB7_111_6 ?_; refine ⟨by kernel_rfl, ?_⟩) | ((first | refine grp_cons (fun _ => goix_c b.ads _ hla hlb _ _) ?_) <;> try first | omega | assumption) | (refine g_d ?_; refine d_args ?_; (first | refine d_fn (goix_c b.ads _ hla hlb _ _) ?_ | refine d_fnQ (fun _ => goix_c b.ads _ hla hlb _ _) ?_) <;> try first | omega | assumption) | (refine g_d ?_; (first | refine d_fnY (goix_c b.ads _ hla hlb _ _) ?_) <;> try first | omega | assumption)))
      all_goals ((refine nextU_ hny (()) [0, 1, 2, 4] (⟨hf, hlf2, hol2⟩) (by omega) ?_ (ht := ?_); (focus (simp only [goE, nuE, nuV, List.map_cons, List.map_nil, TB.inst, TV.inst, tv_map, List.cons_append, List.nil_append]; first | rfl | (simp [ptsV, ptV]; done) | (simp [hpsV, hpV]; done) | (simp [frsV, frV]; done) | (simp [txV]; done) | (simp [prtsV, prtV]; done))); (simp only [goS, nuSt, List.map_cons, List.map_nil, TV.inst, List.getD_cons_zero, List.getD_cons_succ]; exact tv_)))
    | cons p r =>
      have hll : (nuV (p :: r)).length = r.length + 1 := nuV_length
      have hlt : (nuV (p :: r)).take (r.length + 1) = nuV (p :: r) := by rw [List.take_of_length_le (by rw [hll]; exact Nat.le_refl _)]
      simp only [List.length_cons] at hol
      have hns : nuV (p :: (r ++ [i])) = nuV (p :: r) ++ [[V.int .i64 (i : Int)]] := nuV_snoc (p :: r) i
      simp only [goS, goE, nuSt, nuE]
      simp only [List.map_cons, List.map_nil, TB.inst, TV.inst, tv_map, zipT, List.cons_append, List.nil_append, Nat.add_zero]
      (have FX := And.intro hln (And.intro hga (And.intro hll (And.intro hlt hix))); repeat' (first | (refine sx ?_ ?_ <;> intro h <;> first | (exfalso; omega) | skip) | (refine g_op ?_; refine g_call ?_; refine g_args ?_; (first | refine s_fn (goix_c b.ads _ hla hlb _ _) ?_) <;> try first | omega | assumption) | refine ny ?_ | refine WA_block ?_ | (refine uB7_111_6 ?_; refine ⟨by kernel_rfl, ?_⟩) | ((first | refine grp_cons (fun _ => goix_c b.ads _ hla hlb _ _) ?_) <;> try first | omega | assumption) | (refine g_d ?_; refine d_args ?_; (first | refine d_fn (goix_c b.ads _ hla hlb _ _) ?_ | refine d_fnQ (fun _ => goix_c b.ads _ hla hlb _ _) ?_) <;> try first | omega | assumption) | (refine g_d ?_; (first | refine d_fnY (goix_c b.ads _ hla hlb _ _) ?_) <;> try first | omega | assumption)))
      all_goals (try (exfalso; omega))
      (refine g_d ?_; refine d_upd (KT := 9) (E := 4) (s := nm) (v := .bool true) hdn.symm ?_ (by kernel_rfl) (by kernel_rfl))
      (have FX := And.intro hln (And.intro hga (And.intro hll (And.intro hlt hix))); repeat' (first | (refine sx ?_ ?_ <;> intro h <;> first | (exfalso; omega) | skip) | (refine g_op ?_; refine g_call ?_; refine g_args ?_; (first | refine s_fn (goix_c b.ads _ hla hlb _ _) ?_) <;> try first | omega | assumption) | refine ny ?_ | refine WA_block ?_ | (refine uB7_111_6 ?_; refine ⟨by kernel_rfl, ?_⟩) | ((first | refine grp_cons (fun _ => goix_c b.ads _ hla hlb _ _) ?_) <;> try first | omega | assumption) | (refine g_d ?_; refine d_args ?_; (first | refine d_fn (goix_c b.ads _ hla hlb _ _) ?_ | refine d_fnQ (fun _ => goix_c b.ads _ hla hlb _ _) ?_) <;> try first | omega | assumption) | (refine g_d ?_; (first | refine d_fnY (goix_c b.ads _ hla hlb _ _) ?_) <;> try first | omega | assumption)))
      all_goals ((refine nextU_ hny (()) [0, 1, 2, 5] (⟨hf, hlf2, hol2⟩) (by omega) ?_ (ht := ?_); (focus (simp only [goE, nuE, hns, List.map_cons, List.map_nil, TB.inst, TV.inst, tv_map, List.cons_append, List.nil_append]; first | rfl | (simp [ptsV, ptV]; done) | (simp [hpsV, hpV]; done) | (simp [frsV, frV]; done) | (simp [txV]; done) | (simp [prtsV, prtV]; done))); (simp only [goS, nuSt, List.cons_append, List.length_append, List.length_cons, List.length_nil, Nat.zero_add, List.map_cons, List.map_nil, TV.inst, List.getD_cons_zero, List.getD_cons_succ]; exact tv_)))
end Go.Proofs.Ytaoakololkcepaa
/- contracts: the check of a bench -/
namespace Go.Proofs.Ytaoakololkcepaa
open Go.RowKit
attribute [local irreducible] WA WOs WDs WAn qThen qBlock tput
set_option maxHeartbeats 1000000
set_option maxRecDepth 20000
set_option linter.unusedSimpArgs false
set_option linter.unusedVariables false
def aNames (l : List AdR) : List Txt := l.map AdR.name
theorem fdx_anames (s : Txt) (l : List AdR) : fdx (isT s) (aNames l) = fdx (isA s) l := by unfold aNames; rw [fdx_map]; rfl
theorem aNames_succ {l : List AdR} {i : Nat} (h : i < l.length) : aNames (l.take (i + 1)) = aNames (l.take i) ++ [(l.getD i adz).name] := by
  rw [List.take_succ_eq_append_getElem h]
  unfold aNames
  rw [List.map_append]
  have : l.getD i adz = l[i] := by rw [List.getD_eq_getElem?_getD, List.getElem?_eq_getElem h]; rfl
  rw [this]; rfl
theorem aNames_len (l : List AdR) : (aNames l).length = l.length := by simp [aNames]
theorem gce_a (mm : List MsR) (l : List EfR) (M : Mem) (k : Nat) {st : Sta} (hk : M[k]? = some (.obj st [] (mapφ (nmM (mNames mm)))) := by first | exact ev_ | fail) : Gives Try.prog 137 [.lst (efsV l), .mp k] M (.int .i64 (efErr mm l)) := gcheckeffects_c mm l M k st hk
theorem gorder_b (b : BnR) (hb : Bl b) (m : Mem) : Gives Try.prog 111 [.agg [.lst (mssV b.ms), .lst (adsV b.ads)]] m (.lst (nuV (ordB b.ads))) := gorder_c b hb.na (fun i hi => hb.aa i hi) m
theorem adErr_eq (mm : List MsR) (ads : List AdR) (i : Nat) : adErr mm ads i = if addE (aNames (ads.take i)) (ads.getD i adz).name ≠ 0 then addE (aNames (ads.take i)) (ads.getD i adz).name else
        if efErr mm (ads.getD i adz).effs ≠ 0 then efErr mm (ads.getD i adz).effs else
        if ¬ (-1000 ≤ (ads.getD i adz).least ∧ (ads.getD i adz).least ≤ 0) ∨ ¬ (0 ≤ (ads.getD i adz).most ∧ (ads.getD i adz).most ≤ 1000) ∨ ¬ (1 ≤ (ads.getD i adz).pass ∧ (ads.getD i adz).pass ≤ 1000) then 2 else afErr ads (ads.getD i adz).after := by
  unfold adErr addE
  rw [fdx_anames]
  generalize ads.getD i adz = x
  by_cases h1 : nameP x.name <;> by_cases h2 : 0 ≤ fdx (isA x.name) (ads.take i) <;> simp only [h1, h2, not_true_eq_false, not_false_eq_true, if_true, if_false, ne_eq, reduceIte, Int.reduceEq]
theorem uB8_110_22 {N : Nat} {l : List Oper} {t : List (Nat × V)} {m : Mem} {Q : Exit → List (Nat × V) → Mem → Prop} (h : RgN Try.prog N l t m Q (fun i => if i == 1 || i == 2 then .a else if i == 0 || i == 4 || i == 5 then .q else .p) [.one 0, .one 3, .one 4, .one 5, .one 1, .one 2, .one 6]) : WA Try.prog N (.region 22 l.toArray true) t m Q := d_rgN h
theorem gcb_bad (b : BnR) (hb : Bl b) (h0 : mssErr b.ms ≠ 0) (m : Mem) : Gives Try.prog 110 [.agg (bnV b)] m (.int .i64 (bnErr b)) := by
  have hcm := fun m => gcheckms_bad b.ms h0 hb.mn m
  have hx0 := h0
  unfold bnErr bnV
  rw [if_pos h0]
  refine Gives_in Try.func110 rfl Try.ntmps110 Try.results110 (by kernel_rfl) (by simp) rfl fun Q hQ => ?_
  (have FX := hx0; repeat' (first | (refine sx ?_ ?_ <;> intro h <;> first | (exfalso; omega) | skip) | (refine g_op ?_; refine g_call ?_; refine g_args ?_; (first | refine s_fn (hcm _) ?_) <;> try first | omega | assumption) | refine ny ?_ | refine WA_block ?_ | (refine uB8_110_22 ?_; refine ⟨by kernel_rfl, ?_⟩) | ((first | refine grp_cons (fun _ => hcm _) ?_) <;> try first | omega | assumption) | (refine g_d ?_; refine d_args ?_; (first | refine d_fn (hcm _) ?_ | refine d_fnQ (fun _ => hcm _) ?_) <;> try first | omega | assumption) | (refine g_d ?_; (first | refine d_fnY (hcm _) ?_) <;> try first | omega | assumption)))
  all_goals (try (exfalso; omega))
  all_goals ((refine r_es hQ ?_; try with_reducible rfl))
theorem gcb_ok (b : BnR) (hb : Bl b) (h0 : mssErr b.ms = 0) (m : Mem) : Gives Try.prog 110 [.agg (bnV b)] m (.int .i64 (bnErr b)) := by
  have hcm := fun m => gcheckms_ok b.ms h0 hb.mn m
  have hla := adsV_length (l := b.ads)
  have hlo := nuV_length (l := ordB b.ads)
  have hga := hla
  have hadd := hla
  have hb1 : b.ads.length ≤ 100000 := by have := hb.na; omega
  unfold bnErr bnV
  rw [if_neg (by omega)]
  refine Gives_in Try.func110 rfl Try.ntmps110 Try.results110 (by kernel_rfl) (by simp) rfl fun Q hQ => ?_
  (have FX := And.intro hla (And.intro hga hlo); repeat' (first | (refine sx ?_ ?_ <;> intro h <;> first | (exfalso; omega) | skip) | (refine g_op ?_; refine g_call ?_; refine g_args ?_; (first | refine s_fn (gce_a b.ms _ _ _) ?_ | refine s_fn (gwithin_c _ _ _ _) ?_ | refine s_fn (gcheckafter_c b.ads _ _ hb1) ?_ | refine s_fn (gorder_b b hb _) ?_ | refine s_fnO (hcm _) ?_ | refine s_fnW (hadd _) ?_) <;> try first | omega | assumption) | refine ny ?_ | refine WA_block ?_ | (refine uB8_110_22 ?_; refine ⟨by kernel_rfl, ?_⟩) | ((first | refine grp_cons (fun _ => gce_a b.ms _ _ _) ?_ | refine grp_cons (fun _ => gwithin_c _ _ _ _) ?_ | refine grp_cons (fun _ => gcheckafter_c b.ads _ _ hb1) ?_ | refine grp_cons (fun _ => gorder_b b hb _) ?_ | refine grp_w (hadd _) ?_) <;> try first | omega | assumption) | (refine g_d ?_; refine d_args ?_; (first | refine d_fn (gce_a b.ms _ _ _) ?_ | refine d_fn (gwithin_c _ _ _ _) ?_ | refine d_fn (gcheckafter_c b.ads _ _ hb1) ?_ | refine d_fn (gorder_b b hb _) ?_ | refine d_fnW (hadd _) ?_ | refine d_fnQ (fun _ => gce_a b.ms _ _ _) ?_ | refine d_fnQ (fun _ => gwithin_c _ _ _ _) ?_ | refine d_fnQ (fun _ => gcheckafter_c b.ads _ _ hb1) ?_ | refine d_fnQ (fun _ => gorder_b b hb _) ?_) <;> try first | omega | assumption) | (refine g_d ?_; (first | refine d_fnY (gce_a b.ms _ _ _) ?_ | refine d_fnY (gwithin_c _ _ _ _) ?_ | refine d_fnY (gcheckafter_c b.ads _ _ hb1) ?_ | refine d_fnY (gorder_b b hb _) ?_) <;> try first | omega | assumption)))
  all_goals (try (exfalso; omega))
  all_goals try
    ((refine r_es hQ ?_; try with_reducible rfl)
     refine congrArg (V.int .i64) ?_
     rw [if_pos (by omega)]
     done)
  have hl12 : b.ads.length ≤ 12 := by omega
  rw [if_neg (by omega)] at hQ
  refine s_mk ?_
  (have FX := And.intro hla (And.intro hga hlo); repeat' (first | (refine sx ?_ ?_ <;> intro h <;> first | (exfalso; omega) | skip) | (refine g_op ?_; refine g_call ?_; refine g_args ?_; (first | refine s_fn (gce_a b.ms _ _ _) ?_ | refine s_fn (gwithin_c _ _ _ _) ?_ | refine s_fn (gcheckafter_c b.ads _ _ hb1) ?_ | refine s_fn (gorder_b b hb _) ?_ | refine s_fnO (hcm _) ?_ | refine s_fnW (hadd _) ?_) <;> try first | omega | assumption) | refine ny ?_ | refine WA_block ?_ | (refine uB8_110_22 ?_; refine ⟨by kernel_rfl, ?_⟩) | ((first | refine grp_cons (fun _ => gce_a b.ms _ _ _) ?_ | refine grp_cons (fun _ => gwithin_c _ _ _ _) ?_ | refine grp_cons (fun _ => gcheckafter_c b.ads _ _ hb1) ?_ | refine grp_cons (fun _ => gorder_b b hb _) ?_ | refine grp_w (hadd _) ?_) <;> try first | omega | assumption) | (refine g_d ?_; refine d_args ?_; (first | refine d_fn (gce_a b.ms _ _ _) ?_ | refine d_fn (gwithin_c _ _ _ _) ?_ | refine d_fn (gcheckafter_c b.ads _ _ hb1) ?_ | refine d_fn (gorder_b b hb _) ?_ | refine d_fnW (hadd _) ?_ | refine d_fnQ (fun _ => gce_a b.ms _ _ _) ?_ | refine d_fnQ (fun _ => gwithin_c _ _ _ _) ?_ | refine d_fnQ (fun _ => gcheckafter_c b.ads _ _ hb1) ?_ | refine d_fnQ (fun _ => gorder_b b hb _) ?_) <;> try first | omega | assumption) | (refine g_d ?_; (first | refine d_fnY (gce_a b.ms _ _ _) ?_ | refine d_fnY (gwithin_c _ _ _ _) ?_ | refine d_fnY (gcheckafter_c b.ads _ _ hb1) ?_ | refine d_fnY (gorder_b b hb _) ?_) <;> try first | omega | assumption)))
  refine WA_whileK (σ := Nat) [1, 3, 5, 26, 27, 28] (fun i => [.ptr (lend m).length 0 0, .mp ((lend m).length + 1), .mp ((lend m).length + 2), .lst (adsV b.ads), .int .i64 b.ads.length, .int .i64 i]) (fun i => [.cells .own 25 2 [[.lst (mssV b.ms), .lst (adsV b.ads)]], MapB (nmM (mNames b.ms)), MapB (nmM (aNames (b.ads.take i)))]) 3 (fun i => i ≤ b.ads.length ∧ ∀ j, j < i → adErr b.ms b.ads j = 0) (fun i => b.ads.length - i) 0 ⟨Nat.zero_le _, fun j h => absurd h (Nat.not_lt_zero _)⟩ tv_ rfl (fun _ => rfl) (by intro s s' _ _; simp [conB, conS, V.keeps, V.plain, Blk.flat, flatL, plainL, V.flat]) (by intro s s' _ _; simp [conB, Blk.flat]) ?_
  rintro i ⟨hi1, hi2⟩ K hK
  simp only [zipT]
  clear FX hga hadd
  rcases Nat.lt_or_ge i b.ads.length with hi | hi
  · have hga := adsV_get hi
    have hnx := aNames_succ hi
    have hadd := fun k => gadd_w (aNames (b.ads.take i)) (b.ads.getD i adz).name (hb.an i hi) (by rw [aNames_len, List.length_take]; omega) k
    have hat : adErr b.ms b.ads i = if addE (aNames (b.ads.take i)) (b.ads.getD i adz).name ≠ 0 then addE (aNames (b.ads.take i)) (b.ads.getD i adz).name else
        if efErr b.ms (b.ads.getD i adz).effs ≠ 0 then efErr b.ms (b.ads.getD i adz).effs else
        if ¬ (-1000 ≤ (b.ads.getD i adz).least ∧ (b.ads.getD i adz).least ≤ 0) ∨ ¬ (0 ≤ (b.ads.getD i adz).most ∧ (b.ads.getD i adz).most ≤ 1000) ∨ ¬ (1 ≤ (b.ads.getD i adz).pass ∧ (b.ads.getD i adz).pass ≤ 1000) then 2 else afErr b.ads (b.ads.getD i adz).after := by
      exact adErr_eq b.ms b.ads i
    generalize b.ads.getD i adz = x at *
    obtain ⟨nm, ef, le, mo, pa, af⟩ := x
    unfold adV at hga
    dsimp only at hga hadd hat hnx
    by_cases h1 : addE (aNames (b.ads.take i)) nm = 0
    · rw [h1, if_pos rfl, ← hnx] at hadd
      rw [if_neg (by omega)] at hat
      (have FX := And.intro hla (And.intro hga hlo); repeat' (first | (refine sx ?_ ?_ <;> intro h <;> first | (exfalso; omega) | skip) | (refine g_op ?_; refine g_call ?_; refine g_args ?_; (first | refine s_fn (gce_a b.ms _ _ _) ?_ | refine s_fn (gwithin_c _ _ _ _) ?_ | refine s_fn (gcheckafter_c b.ads _ _ hb1) ?_ | refine s_fn (gorder_b b hb _) ?_ | refine s_fnO (hcm _) ?_ | refine s_fnW (hadd _) ?_) <;> try first | omega | assumption) | refine ny ?_ | refine WA_block ?_ | (refine uB8_110_22 ?_; refine ⟨by kernel_rfl, ?_⟩) | ((first | refine grp_cons (fun _ => gce_a b.ms _ _ _) ?_ | refine grp_cons (fun _ => gwithin_c _ _ _ _) ?_ | refine grp_cons (fun _ => gcheckafter_c b.ads _ _ hb1) ?_ | refine grp_cons (fun _ => gorder_b b hb _) ?_ | refine grp_w (hadd _) ?_) <;> try first | omega | assumption) | (refine g_d ?_; refine d_args ?_; (first | refine d_fn (gce_a b.ms _ _ _) ?_ | refine d_fn (gwithin_c _ _ _ _) ?_ | refine d_fn (gcheckafter_c b.ads _ _ hb1) ?_ | refine d_fn (gorder_b b hb _) ?_ | refine d_fnW (hadd _) ?_ | refine d_fnQ (fun _ => gce_a b.ms _ _ _) ?_ | refine d_fnQ (fun _ => gwithin_c _ _ _ _) ?_ | refine d_fnQ (fun _ => gcheckafter_c b.ads _ _ hb1) ?_ | refine d_fnQ (fun _ => gorder_b b hb _) ?_) <;> try first | omega | assumption) | (refine g_d ?_; (first | refine d_fnY (gce_a b.ms _ _ _) ?_ | refine d_fnY (gwithin_c _ _ _ _) ?_ | refine d_fnY (gcheckafter_c b.ads _ _ hb1) ?_ | refine d_fnY (gorder_b b hb _) ?_) <;> try first | omega | assumption)))
      all_goals (try (exfalso; omega))
      all_goals try
        (refine r_es hQ ?_
         have he := fE_is hi hi2 (hat.trans (if_pos (by omega))) (by omega)
         rw [if_pos (by rw [he]; omega), he]
         done)
      all_goals try
        (refine r_es hQ ?_
         have he := fE_is hi hi2 (hat.trans ((if_neg (by omega)).trans (if_pos (by omega)))) (by decide)
         rw [if_pos (by rw [he]; decide), he]
         done)
      all_goals try
        (refine r_es hQ ?_
         have he := fE_is hi hi2 (hat.trans ((if_neg (by omega)).trans (if_neg (by omega)))) (by omega)
         rw [if_pos (by rw [he]; omega), he]
         done)
      all_goals (refine nextL_ hK (i + 1) ⟨hi, up_zero hi2 (hat.trans (by rw [if_neg (by omega), if_neg (by omega)]; omega))⟩ (by omega))
    · rw [if_neg h1] at hadd
      have he := fE_is hi hi2 (hat.trans (if_pos h1)) h1
      rw [if_pos (by rw [he]; exact h1), he] at hQ
      (have FX := And.intro hla (And.intro hga hlo); repeat' (first | (refine sx ?_ ?_ <;> intro h <;> first | (exfalso; omega) | skip) | (refine g_op ?_; refine g_call ?_; refine g_args ?_; (first | refine s_fn (gce_a b.ms _ _ _) ?_ | refine s_fn (gwithin_c _ _ _ _) ?_ | refine s_fn (gcheckafter_c b.ads _ _ hb1) ?_ | refine s_fn (gorder_b b hb _) ?_ | refine s_fnO (hcm _) ?_ | refine s_fnW (hadd _) ?_) <;> try first | omega | assumption) | refine ny ?_ | refine WA_block ?_ | (refine uB8_110_22 ?_; refine ⟨by kernel_rfl, ?_⟩) | ((first | refine grp_cons (fun _ => gce_a b.ms _ _ _) ?_ | refine grp_cons (fun _ => gwithin_c _ _ _ _) ?_ | refine grp_cons (fun _ => gcheckafter_c b.ads _ _ hb1) ?_ | refine grp_cons (fun _ => gorder_b b hb _) ?_ | refine grp_w (hadd _) ?_) <;> try first | omega | assumption) | (refine g_d ?_; refine d_args ?_; (first | refine d_fn (gce_a b.ms _ _ _) ?_ | refine d_fn (gwithin_c _ _ _ _) ?_ | refine d_fn (gcheckafter_c b.ads _ _ hb1) ?_ | refine d_fn (gorder_b b hb _) ?_ | refine d_fnW (hadd _) ?_ | refine d_fnQ (fun _ => gce_a b.ms _ _ _) ?_ | refine d_fnQ (fun _ => gwithin_c _ _ _ _) ?_ | refine d_fnQ (fun _ => gcheckafter_c b.ads _ _ hb1) ?_ | refine d_fnQ (fun _ => gorder_b b hb _) ?_) <;> try first | omega | assumption) | (refine g_d ?_; (first | refine d_fnY (gce_a b.ms _ _ _) ?_ | refine d_fnY (gwithin_c _ _ _ _) ?_ | refine d_fnY (gcheckafter_c b.ads _ _ hb1) ?_ | refine d_fnY (gorder_b b hb _) ?_) <;> try first | omega | assumption)))
      all_goals (try (exfalso; omega))
      all_goals ((refine r_es hQ ?_; try with_reducible rfl))
  · obtain rfl : i = b.ads.length := by omega
    have hga := hla
    have hadd := hla
    rw [if_neg (by rw [fE_zero.2 hi2]; decide)] at hQ
    (have FX := And.intro hla (And.intro hga hlo); repeat' (first | (refine sx ?_ ?_ <;> intro h <;> first | (exfalso; omega) | skip) | (refine g_op ?_; refine g_call ?_; refine g_args ?_; (first | refine s_fn (gce_a b.ms _ _ _) ?_ | refine s_fn (gwithin_c _ _ _ _) ?_ | refine s_fn (gcheckafter_c b.ads _ _ hb1) ?_ | refine s_fn (gorder_b b hb _) ?_ | refine s_fnO (hcm _) ?_ | refine s_fnW (hadd _) ?_) <;> try first | omega | assumption) | refine ny ?_ | refine WA_block ?_ | (refine uB8_110_22 ?_; refine ⟨by kernel_rfl, ?_⟩) | ((first | refine grp_cons (fun _ => gce_a b.ms _ _ _) ?_ | refine grp_cons (fun _ => gwithin_c _ _ _ _) ?_ | refine grp_cons (fun _ => gcheckafter_c b.ads _ _ hb1) ?_ | refine grp_cons (fun _ => gorder_b b hb _) ?_ | refine grp_w (hadd _) ?_) <;> try first | omega | assumption) | (refine g_d ?_; refine d_args ?_; (first | refine d_fn (gce_a b.ms _ _ _) ?_ | refine d_fn (gwithin_c _ _ _ _) ?_ | refine d_fn (gcheckafter_c b.ads _ _ hb1) ?_ | refine d_fn (gorder_b b hb _) ?_ | refine d_fnW (hadd _) ?_ | refine d_fnQ (fun _ => gce_a b.ms _ _ _) ?_ | refine d_fnQ (fun _ => gwithin_c _ _ _ _) ?_ | refine d_fnQ (fun _ => gcheckafter_c b.ads _ _ hb1) ?_ | refine d_fnQ (fun _ => gorder_b b hb _) ?_) <;> try first | omega | assumption) | (refine g_d ?_; (first | refine d_fnY (gce_a b.ms _ _ _) ?_ | refine d_fnY (gwithin_c _ _ _ _) ?_ | refine d_fnY (gcheckafter_c b.ads _ _ hb1) ?_ | refine d_fnY (gorder_b b hb _) ?_) <;> try first | omega | assumption)))
    all_goals (try (exfalso; omega))
    all_goals ((refine r_es hQ ?_; try with_reducible rfl))
    all_goals (refine congrArg (V.int .i64) ?_; first | (rw [if_pos (by omega)]; done) | (rw [if_neg (by omega)]; done))
theorem gcheckbench_c (b : BnR) (hb : Bl b) (m : Mem) : Gives Try.prog 110 [.agg (bnV b)] m (.int .i64 (bnErr b)) := by
  by_cases h : mssErr b.ms = 0
  · exact gcb_ok b hb h m
  · exact gcb_bad b hb h m
end Go.Proofs.Ytaoakololkcepaa
/- values behind steps: the plain reading -/
namespace Go.Proofs.Ytaoakololkcepaa
open Go.RowKit
/-- what a step adds to the measure with a name -/
def byL (l : List EfR) (s : Txt) : Int := match l.find? (isF s) with
  | some e => e.by_
  | none => 0
theorem byL_fdx {l : List EfR} {s : Txt} {i : Nat} (hi : i < l.length) (h0 : ∀ j, j < i → (l.getD j efz).meas ≠ s) (h : (l.getD i efz).meas = s) : byL l s = (l.getD i efz).by_ := by
  have h1 : l.find? (isF s) = some (l.getD i efz) := by
    have hg : l.getD i efz = l[i] := by rw [List.getD_eq_getElem?_getD, List.getElem?_eq_getElem hi]; rfl
    rw [hg, List.find?_eq_some_iff_getElem]
    refine ⟨by unfold isF; rw [← hg]; exact decide_eq_true h, i, hi, rfl, fun j hj => ?_⟩
    have := h0 j hj
    rw [List.getD_eq_getElem?_getD, List.getElem?_eq_getElem (by omega)] at this
    simp only [Bool.not_eq_true', isF, decide_eq_false_iff_not]
    exact this
  unfold byL; rw [h1]
theorem byL_none {l : List EfR} {s : Txt} (h0 : ∀ j, j < l.length → (l.getD j efz).meas ≠ s) : byL l s = 0 := by
  have h1 : l.find? (isF s) = none := by
    rw [List.find?_eq_none]
    intro x hx hf
    obtain ⟨j, hj, rfl⟩ := List.getElem_of_mem hx
    have := h0 j hj
    rw [List.getD_eq_getElem?_getD, List.getElem?_eq_getElem hj] at this
    exact this (of_decide_eq_true hf)
  unfold byL; rw [h1]
def stErrAt (ads : List AdR) (l : List Int) (i : Nat) : Int := if (ads.getD i adz).least ≤ l.getD i 0 ∧ l.getD i 0 ≤ (ads.getD i adz).most then 0 else 2
/-- the error of steps -/
def stErr (ads : List AdR) (l : List Int) : Int := if l.length ≠ ads.length then 10 else fE (stErrAt ads l) ads.length
def byN (b : BnR) (k i : Nat) : Int := byL (b.ads.getD k adz).effs (b.ms.getD i msz).name
def valK (b : BnR) (l : List Int) (i : Nat) : Nat → Int
  | 0 => (b.ms.getD i msz).val
  | k + 1 => valK b l i k + l.getD k 0 * byN b k i
/-- the value of a measure behind steps -/
def valP (b : BnR) (l : List Int) (i : Nat) : Int := valK b l i b.ads.length
def valsP (b : BnR) (l : List Int) (n : Nat) : List Int := (List.range n).map (valP b l)
def brkB (b : BnR) (l : List Int) (i : Nat) : Bool := !decide ((b.ms.getD i msz).low ≤ valP b l i ∧ valP b l i ≤ (b.ms.getD i msz).high)
/-- the measures that are broken -/
def brkP (b : BnR) (l : List Int) (n : Nat) : List Nat := (List.range n).filter (brkB b l)
theorem valsP_length (b : BnR) (l : List Int) (n : Nat) : (valsP b l n).length = n := by simp [valsP]
theorem valsP_succ (b : BnR) (l : List Int) (n : Nat) : valsP b l (n + 1) = valsP b l n ++ [valP b l n] := by simp [valsP, List.range_succ]
theorem brkP_succ (b : BnR) (l : List Int) (n : Nat) : brkP b l (n + 1) = if brkB b l n = true then brkP b l n ++ [n] else brkP b l n := by
  unfold brkP
  rw [List.range_succ, List.filter_append]
  by_cases h : brkB b l n = true
  · rw [if_pos h]; simp [h]
  · rw [if_neg h]; simp [h]
theorem stErr_ok {ads : List AdR} {l : List Int} (h : stErr ads l = 0) : l.length = ads.length ∧ ∀ i, i < ads.length → (ads.getD i adz).least ≤ l.getD i 0 ∧ l.getD i 0 ≤ (ads.getD i adz).most := by
  unfold stErr at h
  split at h
  · simp at h
  · rename_i h1
    refine ⟨by omega, fun i hi => ?_⟩
    have h2 := fE_zero.1 h i hi
    unfold stErrAt at h2
    split at h2
    · assumption
    · simp at h2
/-- what is known of a right bench, for sums -/
structure Bnd (b : BnR) : Prop where
  fm : b.ms.length ≤ 12
  fa : b.ads.length ≤ 12
  va : ∀ i, i < b.ms.length → (-100000 ≤ (b.ms.getD i msz).val ∧ (b.ms.getD i msz).val ≤ 100000) ∧ (-100000 ≤ (b.ms.getD i msz).low ∧ (b.ms.getD i msz).low ≤ (b.ms.getD i msz).high) ∧ (b.ms.getD i msz).high ≤ 100000
  by_ : ∀ k i, -1000 ≤ byN b k i ∧ byN b k i ≤ 1000
  le : ∀ k, k < b.ads.length → -1000 ≤ (b.ads.getD k adz).least ∧ (b.ads.getD k adz).least ≤ 0
  mo : ∀ k, k < b.ads.length → 0 ≤ (b.ads.getD k adz).most ∧ (b.ads.getD k adz).most ≤ 1000
  pa : ∀ k, k < b.ads.length → 1 ≤ (b.ads.getD k adz).pass ∧ (b.ads.getD k adz).pass ≤ 1000
theorem mul_bd {x y a c : Int} (ha : 0 ≤ a) (h1 : -a ≤ x ∧ x ≤ a) (h2 : -c ≤ y ∧ y ≤ c) : -(a * c) ≤ x * y ∧ x * y ≤ a * c := by
  have hx : x.natAbs ≤ a.natAbs := by omega
  have hy : y.natAbs ≤ c.natAbs := by omega
  have hc : 0 ≤ c := by omega
  have h := Nat.mul_le_mul hx hy
  rw [← Int.natAbs_mul, ← Int.natAbs_mul] at h
  have : 0 ≤ a * c := Int.mul_nonneg ha hc
  omega
theorem valK_bd {b : BnR} (hb : Bnd b) {l : List Int} {i : Nat} (hi : i < b.ms.length) (hl : ∀ k, k < b.ads.length → -1000 ≤ l.getD k 0 ∧ l.getD k 0 ≤ 1000) : ∀ k, k ≤ b.ads.length → -(100000 + 1000000 * (k : Int)) ≤ valK b l i k ∧ valK b l i k ≤ 100000 + 1000000 * (k : Int)
  | 0, _ => by have := (hb.va i hi).1; simp only [valK]; omega
  | k + 1, hk => by
    have ih := valK_bd hb hi hl k (by omega)
    have h1 := mul_bd (a := 1000) (c := 1000) (by decide) (hl k (by omega)) (hb.by_ k i)
    simp only [valK]
    omega
theorem valP_bd {b : BnR} (hb : Bnd b) {l : List Int} {i : Nat} (hi : i < b.ms.length) (hl : ∀ k, k < b.ads.length → -1000 ≤ l.getD k 0 ∧ l.getD k 0 ≤ 1000) : -13000000 ≤ valP b l i ∧ valP b l i ≤ 13000000 := by
  have h := valK_bd hb hi hl b.ads.length (Nat.le_refl _)
  have := hb.fa
  unfold valP
  omega
theorem steps_bd {b : BnR} (hb : Bnd b) {l : List Int} (h : ∀ i, i < b.ads.length → (b.ads.getD i adz).least ≤ l.getD i 0 ∧ l.getD i 0 ≤ (b.ads.getD i adz).most) : ∀ k, k < b.ads.length → -1000 ≤ l.getD k 0 ∧ l.getD k 0 ≤ 1000 := fun k hk => by
  have h1 := h k hk
  have h2 := hb.le k hk
  have h3 := hb.mo k hk
  omega
end Go.Proofs.Ytaoakololkcepaa
/- an opened bench: the plain reading -/
namespace Go.Proofs.Ytaoakololkcepaa
open Go.RowKit
def rowL (mm : List MsR) (l : List EfR) : List Int := mm.map fun x => byL l x.name
def mainL (mm : List MsR) : List EfR → Int
  | [] => -1
  | e :: _ => fdx (isM e.meas) mm
def mainK (mm : List MsR) (l : List EfR) (k : Nat) : Int := if k = 0 then -1 else mainL mm l
theorem mainK_all (mm : List MsR) (l : List EfR) : mainK mm l l.length = mainL mm l := by
  unfold mainK
  cases l with
  | nil => rfl
  | cons e r => rw [if_neg (by simp)]
theorem byL_snoc {l : List EfR} {e : EfR} (h : fdx (isF e.meas) l < 0) (s : Txt) : byL (l ++ [e]) s = if e.meas = s then e.by_ else byL l s := by
  unfold byL
  rw [List.find?_append]
  by_cases hs : e.meas = s
  · rw [if_pos hs]
    have hn : l.find? (isF s) = none := by
      rw [List.find?_eq_none]
      intro x hx hf
      have h1 : l.any (isF s) = true := List.any_eq_true.2 ⟨x, hx, hf⟩
      rw [fdx_any, ← hs, decide_eq_false (by omega)] at h1
      cases h1
    rw [hn]
    simp [isF, hs]
  · rw [if_neg hs]
    cases l.find? (isF s) with
    | none => simp [isF, hs]
    | some x => rfl
theorem rowL_length (mm : List MsR) (l : List EfR) : (rowL mm l).length = mm.length := by simp [rowL]
theorem rowL_nil (mm : List MsR) : nsV (rowL mm []) = List.replicate mm.length [V.int .i64 0] := by
  unfold nsV rowL
  rw [List.map_map]
  refine List.ext_getElem (by simp) fun i h1 h2 => ?_
  simp [byL]
theorem row_set {mm : List MsR} (hu : ∀ i, i < mm.length → ¬ 0 ≤ fdx (isM (mm.getD i msz).name) (mm.take i)) {l : List EfR} {e : EfR} {k : Nat} (hk : k < mm.length) (hf : fdx (isM e.meas) mm = (k : Int)) (hn : fdx (isF e.meas) l < 0) : (rowL mm l).set k e.by_ = rowL mm (l ++ [e]) := by
  obtain ⟨hk1, hk2⟩ : isM e.meas (mm.getD k msz) = true ∧ ∀ j, j < k → isM e.meas (mm.getD j msz) = false := by
    rcases fdx_cases (isM e.meas) mm msz with ⟨h, _⟩ | ⟨i, hi, h1, h2, h3⟩
    · omega
    · obtain rfl : i = k := by omega
      exact ⟨h2, h3⟩
  refine List.ext_getElem (by simp [rowL_length]) fun j h1 h2 => ?_
  rw [List.getElem_set]
  have hj : j < mm.length := by rw [List.length_set, rowL_length] at h1; exact h1
  have hg : mm[j] = mm.getD j msz := by rw [List.getD_eq_getElem?_getD, List.getElem?_eq_getElem hj]; rfl
  simp only [rowL, List.getElem_map]
  rw [byL_snoc hn, hg]
  unfold isM at hk1 hk2
  by_cases hjk : k = j
  · subst hjk
    rw [if_pos rfl, if_pos (of_decide_eq_true hk1).symm]
  · rw [if_neg hjk, if_neg]
    intro he
    rcases Nat.lt_or_ge j k with h | h
    · exact of_decide_eq_false (hk2 j h) he.symm
    · have h3 := hu j hj
      have h4 : (mm.take j).any (isM (mm.getD j msz).name) = true := by
        refine List.any_eq_true.2 ⟨mm.getD k msz, ?_, ?_⟩
        · rw [List.getD_eq_getElem?_getD, List.getElem?_eq_getElem hk]
          exact List.mem_take_iff_getElem.2 ⟨k, by omega, rfl⟩
        · unfold isM
          exact decide_eq_true ((of_decide_eq_true hk1).trans he)
      rw [fdx_any, decide_eq_false h3] at h4
      cases h4
theorem nsV_set (l : List Int) (k : Nat) (n : Int) : nsV (l.set k n) = (nsV l).set k [V.int .i64 n] := by simp [nsV, List.map_set]
def rowsB (mm : List MsR) (ads : List AdR) : List (List Int) := ads.map fun a => rowL mm a.effs
def rwV (l : List (List Int)) : List (List V) := l.map fun r => [V.lst (nsV r)]
def mnsB (mm : List MsR) (ads : List AdR) : List Int := ads.map fun a => mainL mm a.effs
theorem rwV_length {l : List (List Int)} : (rwV l).length = l.length := by simp [rwV]
theorem rwV_get {l : List (List Int)} {i : Nat} (h : i < l.length) : (rwV l)[i]? = some [V.lst (nsV (l.getD i []))] := by
  unfold rwV; rw [List.getElem?_map, lst_get (d := []) h]; rfl
theorem rwV_plain (l : List (List Int)) : plainLL (rwV l) = true := plainLL_of fun e he => by
  obtain ⟨x, _, rfl⟩ := List.mem_map.1 he
  simp [plainL, V.plain, nsV_plain]
theorem rwV_snoc (l : List (List Int)) (r : List Int) : rwV (l ++ [r]) = rwV l ++ [[V.lst (nsV r)]] := by simp [rwV]
theorem nsV_snoc (l : List Int) (n : Int) : nsV (l ++ [n]) = nsV l ++ [[V.int .i64 n]] := by simp [nsV]
/-- an opened bench -/
def bxC (b : BnR) : List V := [.lst (mssV b.ms), .lst (adsV b.ads), .lst (nuV (ordB b.ads)), .lst (rwV (rowsB b.ms b.ads)), .lst (nsV (mnsB b.ms b.ads))]
/-- what is known of a right bench -/
structure Bok (b : BnR) : Prop where
  fm : b.ms.length ≤ 12
  fa : b.ads.length ≤ 12
  me : ∀ i, i < b.ms.length → msErr (b.ms.take i) (b.ms.getD i msz) = 0
  ae : ∀ i, i < b.ads.length → adErr b.ms b.ads i = 0
  cy : b.ads.length ≤ (ordB b.ads).length
theorem bn_ok {b : BnR} (h : bnErr b = 0) : Bok b := by
  unfold bnErr at h
  split at h
  · contradiction
  · rename_i h1
    split at h
    · simp at h
    · split at h
      · contradiction
      · split at h
        · simp at h
        · rename_i h2 h3 h4
          have h1 : mssErr b.ms = 0 := by omega
          have h3 : fE (adErr b.ms b.ads) b.ads.length = 0 := by omega
          unfold mssErr at h1
          split at h1
          · simp at h1
          · exact ⟨by omega, by omega, fE_zero.1 h1, fE_zero.1 h3, by omega⟩
structure Aok (mm : List MsR) (ads : List AdR) (i : Nat) : Prop where
  nm : nameP (ads.getD i adz).name
  nw : ¬ 0 ≤ fdx (isA (ads.getD i adz).name) (ads.take i)
  fe : (ads.getD i adz).effs.length ≤ 12
  ef : ∀ k, k < (ads.getD i adz).effs.length → efErrAt mm (ads.getD i adz).effs k = 0
  le : -1000 ≤ (ads.getD i adz).least ∧ (ads.getD i adz).least ≤ 0
  mo : 0 ≤ (ads.getD i adz).most ∧ (ads.getD i adz).most ≤ 1000
  pa : 1 ≤ (ads.getD i adz).pass ∧ (ads.getD i adz).pass ≤ 1000
  af : afErr ads (ads.getD i adz).after = 0
theorem ad_ok {mm : List MsR} {ads : List AdR} {i : Nat} (h : adErr mm ads i = 0) : Aok mm ads i := by
  unfold adErr at h
  split at h
  · simp at h
  · split at h
    · simp at h
    · split at h
      · contradiction
      · split at h
        · simp at h
        · rename_i h1 h2 h3 h4
          have h3 : efErr mm (ads.getD i adz).effs = 0 := by omega
          unfold efErr at h3
          split at h3
          · simp at h3
          · exact ⟨Classical.not_not.1 h1, h2, by omega, fE_zero.1 h3, by omega, by omega, by omega, h⟩
theorem ef_ok {mm : List MsR} {l : List EfR} {k : Nat} (h : efErrAt mm l k = 0) : 0 ≤ fdx (isM (l.getD k efz).meas) mm ∧ fdx (isF (l.getD k efz).meas) (l.take k) < 0 ∧ (-1000 ≤ (l.getD k efz).by_ ∧ (l.getD k efz).by_ ≤ 1000) ∧ (l.getD k efz).by_ ≠ 0 := by
  unfold efErrAt at h
  split at h
  · simp at h
  · split at h
    · simp at h
    · split at h
      · simp at h
      · split at h
        · simp at h
        · exact ⟨by omega, by omega, by omega, by omega⟩
theorem ms_uniq {b : BnR} (h : Bok b) : ∀ i, i < b.ms.length → ¬ 0 ≤ fdx (isM (b.ms.getD i msz).name) (b.ms.take i) := fun i hi => (msErr_zero (h.me i hi)).2.1
theorem rowL_get {mm : List MsR} {l : List EfR} {i : Nat} (h : i < mm.length) : (rowL mm l).getD i 0 = byL l (mm.getD i msz).name := by
  unfold rowL
  rw [List.getD_eq_getElem?_getD, List.getElem?_map, lst_get (d := msz) h]; rfl
theorem rowsB_get {mm : List MsR} {ads : List AdR} {k : Nat} (h : k < ads.length) : (rowsB mm ads).getD k [] = rowL mm (ads.getD k adz).effs := by
  unfold rowsB
  rw [List.getD_eq_getElem?_getD, List.getElem?_map, lst_get (d := adz) h]; rfl
theorem mnsB_get {mm : List MsR} {ads : List AdR} {k : Nat} (h : k < ads.length) : (mnsB mm ads).getD k 0 = mainL mm (ads.getD k adz).effs := by
  unfold mnsB
  rw [List.getD_eq_getElem?_getD, List.getElem?_map, lst_get (d := adz) h]; rfl
theorem rowsB_length (mm : List MsR) (ads : List AdR) : (rowsB mm ads).length = ads.length := by simp [rowsB]
theorem mnsB_length (mm : List MsR) (ads : List AdR) : (mnsB mm ads).length = ads.length := by simp [mnsB]
theorem byL_bd {l : List EfR} {mm : List MsR} (h : ∀ k, k < l.length → efErrAt mm l k = 0) (s : Txt) : -1000 ≤ byL l s ∧ byL l s ≤ 1000 := by
  unfold byL
  split
  · rename_i e he
    obtain ⟨i, hi, rfl⟩ := List.getElem_of_mem (List.mem_of_find?_eq_some he)
    have := (ef_ok (h i hi)).2.2.1
    rw [List.getD_eq_getElem?_getD, List.getElem?_eq_getElem hi] at this
    exact this
  · decide
theorem bnd_ok {b : BnR} (h : Bok b) : Bnd b where
  fm := h.fm
  fa := h.fa
  va := fun i hi => by
    obtain ⟨_, _, h1, h2, h3, h4⟩ := msErr_zero (h.me i hi)
    exact ⟨h1, ⟨h2.1, h4⟩, h3.2⟩
  by_ := fun k i => by
    unfold byN
    rcases Nat.lt_or_ge k b.ads.length with hk | hk
    · exact byL_bd (ad_ok (h.ae k hk)).ef _
    · have : b.ads.getD k adz = adz := by rw [List.getD_eq_getElem?_getD, List.getElem?_eq_none hk]; rfl
      rw [this]
      simp [adz, byL]
  le := fun k hk => (ad_ok (h.ae k hk)).le
  mo := fun k hk => (ad_ok (h.ae k hk)).mo
  pa := fun k hk => (ad_ok (h.ae k hk)).pa
end Go.Proofs.Ytaoakololkcepaa
/- contracts: steps, values, what is broken -/
namespace Go.Proofs.Ytaoakololkcepaa
open Go.RowKit
attribute [local irreducible] WA WOs WDs WAn qThen qBlock tput
set_option maxHeartbeats 1000000
set_option maxRecDepth 20000
set_option linter.unusedSimpArgs false
set_option linter.unusedVariables false
theorem uB10_108_6 {N : Nat} {l : List Oper} {t : List (Nat × V)} {m : Mem} {Q : Exit → List (Nat × V) → Mem → Prop} (h : RgN Try.prog N l t m Q (fun i => if i == 3 || i == 5 || i == 7 || i == 8 || i == 9 then .q else .p) [.one 0, .one 1, .one 2, .one 3, .one 4, .one 5, .one 6, .one 7, .one 8, .one 9]) : WA Try.prog N (.region 6 l.toArray true) t m Q := d_rgN h
theorem gchecksteps_c (b : BnR) (hfa : b.ads.length ≤ 12) (l : List Int) (m : Mem) : Gives Try.prog 108 [.bp (bxC b) 0, .lst (nsV l)] m (.int .i64 (stErr b.ads l)) := by
  have hla := adsV_length (l := b.ads)
  have hln := nsV_length (l := l)
  have hga := hla
  have hgb := hla
  unfold bxC stErr
  refine Gives_in Try.func108 rfl Try.ntmps108 Try.results108 (by kernel_rfl) (by simp) rfl fun Q hQ => ?_
  (have FX := And.intro hla (And.intro hln (And.intro hga hgb)); repeat' (first | (refine sx ?_ ?_ <;> intro h <;> first | (exfalso; omega) | skip) | (refine g_op ?_; refine g_call ?_; refine g_args ?_; (first | refine s_fn (gwithin_c _ _ _ _) ?_) <;> try first | omega | assumption) | refine ny ?_ | refine WA_block ?_ | (refine uB10_108_6 ?_; refine ⟨by kernel_rfl, ?_⟩) | ((first | refine grp_cons (fun _ => gwithin_c _ _ _ _) ?_) <;> try first | omega | assumption) | (refine g_d ?_; refine d_args ?_; (first | refine d_fn (gwithin_c _ _ _ _) ?_ | refine d_fnQ (fun _ => gwithin_c _ _ _ _) ?_) <;> try first | omega | assumption) | (refine g_d ?_; (first | refine d_fnY (gwithin_c _ _ _ _) ?_) <;> try first | omega | assumption)))
  all_goals (try (exfalso; omega))
  all_goals try
    ((refine r_es hQ ?_; try with_reducible rfl)
     refine congrArg (V.int .i64) ?_
     rw [if_pos (by omega)]
     done)
  have hlb : l.length = b.ads.length := by omega
  rw [if_neg (by omega)] at hQ
  generalize hO : nuV (ordB b.ads) = O at *
  generalize hRW : rwV (rowsB b.ms b.ads) = RW at *
  generalize hMN : nsV (mnsB b.ms b.ads) = MN at *
  refine WA_whileK (σ := Nat) (L := m) [0, 1, 20, 21, 22] (fun i => [.bp [.lst (mssV b.ms), .lst (adsV b.ads), .lst O, .lst RW, .lst MN] 0, .lst (nsV l), .lst (adsV b.ads), .int .i64 b.ads.length, .int .i64 i]) (fun _ => []) 0 (fun i => i ≤ b.ads.length ∧ ∀ j, j < i → stErrAt b.ads l j = 0) (fun i => b.ads.length - i) 0 ⟨Nat.zero_le _, fun j h => absurd h (Nat.not_lt_zero _)⟩ tv_ rfl (fun _ => rfl) (by intro s s' _ _; simp [conB, conS, V.keeps, V.plain, Blk.flat, flatL, plainL, V.flat]) (by intro s s' _ _; simp [conB, conS, V.keeps, V.plain, Blk.flat, flatL, plainL, V.flat]) ?_
  rintro i ⟨hi1, hi2⟩ K hK
  simp only [zipT]
  clear FX hga hgb
  rcases Nat.lt_or_ge i b.ads.length with hi | hi
  · have hga := adsV_get hi
    have hgb := nsV_get (l := l) (i := i) (by omega)
    have hat : stErrAt b.ads l i = if (b.ads.getD i adz).least ≤ l.getD i 0 ∧ l.getD i 0 ≤ (b.ads.getD i adz).most then 0 else 2 := rfl
    generalize b.ads.getD i adz = x at *
    obtain ⟨nm, ef, le, mo, pa, af⟩ := x
    unfold adV at hga
    dsimp only at hga hat
    (have FX := And.intro hla (And.intro hln (And.intro hga hgb)); repeat' (first | (refine sx ?_ ?_ <;> intro h <;> first | (exfalso; omega) | skip) | (refine g_op ?_; refine g_call ?_; refine g_args ?_; (first | refine s_fn (gwithin_c _ _ _ _) ?_) <;> try first | omega | assumption) | refine ny ?_ | refine WA_block ?_ | (refine uB10_108_6 ?_; refine ⟨by kernel_rfl, ?_⟩) | ((first | refine grp_cons (fun _ => gwithin_c _ _ _ _) ?_) <;> try first | omega | assumption) | (refine g_d ?_; refine d_args ?_; (first | refine d_fn (gwithin_c _ _ _ _) ?_ | refine d_fnQ (fun _ => gwithin_c _ _ _ _) ?_) <;> try first | omega | assumption) | (refine g_d ?_; (first | refine d_fnY (gwithin_c _ _ _ _) ?_) <;> try first | omega | assumption)))
    all_goals (try (exfalso; omega))
    all_goals try
      ((refine r_es hQ ?_; try with_reducible rfl)
       refine congrArg (V.int .i64) (fE_is hi hi2 (hat.trans ?_) (by decide)).symm
       rw [if_neg (by omega)]
       done)
    all_goals (refine nextL_ hK (i + 1) ⟨by omega, up_zero hi2 (hat.trans (by rw [if_pos (by omega)]))⟩ (by omega))
  · obtain rfl : i = b.ads.length := by omega
    have hga := hla
    have hgb := hla
    (have FX := And.intro hla (And.intro hln (And.intro hga hgb)); repeat' (first | (refine sx ?_ ?_ <;> intro h <;> first | (exfalso; omega) | skip) | (refine g_op ?_; refine g_call ?_; refine g_args ?_; (first | refine s_fn (gwithin_c _ _ _ _) ?_) <;> try first | omega | assumption) | refine ny ?_ | refine WA_block ?_ | (refine uB10_108_6 ?_; refine ⟨by kernel_rfl, ?_⟩) | ((first | refine grp_cons (fun _ => gwithin_c _ _ _ _) ?_) <;> try first | omega | assumption) | (refine g_d ?_; refine d_args ?_; (first | refine d_fn (gwithin_c _ _ _ _) ?_ | refine d_fnQ (fun _ => gwithin_c _ _ _ _) ?_) <;> try first | omega | assumption) | (refine g_d ?_; (first | refine d_fnY (gwithin_c _ _ _ _) ?_) <;> try first | omega | assumption)))
    all_goals (try (exfalso; omega))
    all_goals ((refine r_es hQ ?_; try with_reducible rfl))
    all_goals (exact congrArg (V.int .i64) (fE_zero.2 hi2).symm)

theorem gvalue_c (b : BnR) (hb : Bnd b) (l : List Int) (hl : l.length = b.ads.length) (hs : ∀ k, k < b.ads.length → -1000 ≤ l.getD k 0 ∧ l.getD k 0 ≤ 1000) (i : Nat) (hi : i < b.ms.length) (m : Mem) : Gives Try.prog 79 [.bp (bxC b) 0, .int .i64 i, .lst (nsV l)] m (.int .i64 (valP b l i)) := by
  have hlm := mssV_length (l := b.ms)
  have hln := nsV_length (l := l)
  have hla := adsV_length (l := b.ads)
  have hlw : (rwV (rowsB b.ms b.ads)).length = b.ads.length := by rw [rwV_length, rowsB_length]
  have hgm := mssV_get hi
  have hga := hla
  have hgb := hla
  have hgc := hla
  have hfa := hb.fa
  have hva := (hb.va i hi).1
  have hv0 : valK b l i 0 = (b.ms.getD i msz).val := rfl
  have hvn : valP b l i = valK b l i b.ads.length := rfl
  generalize b.ms.getD i msz = y at hgm hva hv0
  obtain ⟨ynm, yva, ylo, yhi⟩ := y
  unfold msV at hgm
  dsimp only at hgm hva hv0
  unfold bxC
  generalize hO : nuV (ordB b.ads) = O at *
  generalize hMN : nsV (mnsB b.ms b.ads) = MN at *
  refine Gives_in Try.func79 rfl Try.ntmps79 Try.results79 (by kernel_rfl) (by simp) rfl fun Q hQ => ?_
  (have FX := And.intro hlm (And.intro hln (And.intro hla (And.intro hlw (And.intro hgm (And.intro hga (And.intro hgb hgc)))))); repeat' (first | (refine sx ?_ ?_ <;> intro h <;> first | (exfalso; omega) | skip) | refine ny ?_ | refine WA_block ?_))
  all_goals (try (exfalso; omega))
  refine WA_while (σ := Nat) [0, 1, 7, 19, 20, 21] (fun k => [.bp [.lst (mssV b.ms), .lst (adsV b.ads), .lst O, .lst (rwV (rowsB b.ms b.ads)), .lst MN] 0, .int .i64 i, .int .i64 (valK b l i k), .lst (nsV l), .int .i64 l.length, .int .i64 k]) (fun _ => lend m ++ []) (fun k => k ≤ b.ads.length) (fun k => b.ads.length - k) 0 (Nat.zero_le _) (by rw [hv0]; exact tv_) rfl ?_
  rintro k hk1 L hL
  simp only [zipT]
  clear FX hga hgb hgc
  have hbd := valK_bd hb hi hs k hk1
  rcases Nat.lt_or_ge k b.ads.length with hk | hk
  · have hga := nsV_get (l := l) (i := k) (by omega)
    have hgb := rwV_get (l := rowsB b.ms b.ads) (i := k) (by rw [rowsB_length]; exact hk)
    rw [rowsB_get hk] at hgb
    have hgc := nsV_get (l := rowL b.ms (b.ads.getD k adz).effs) (i := i) (by rw [rowL_length]; exact hi)
    rw [rowL_get hi] at hgc
    have hlr : (nsV (rowL b.ms (b.ads.getD k adz).effs)).length = b.ms.length := by rw [nsV_length, rowL_length]
    have hgc : (nsV (rowL b.ms (b.ads.getD k adz).effs))[i]? = some [V.int .i64 (byN b k i)] ∧ (nsV (rowL b.ms (b.ads.getD k adz).effs)).length = b.ms.length := ⟨hgc, hlr⟩
    have hbx := hb.by_ k i
    have hsk := hs k hk
    have hmb := mul_bd (a := 1000) (c := 1000) (by decide) hsk hbx
    have hsu : valK b l i (k + 1) = valK b l i k + l.getD k 0 * byN b k i := rfl
    generalize nsV (rowL b.ms (b.ads.getD k adz).effs) = RL at *
    generalize byN b k i = by' at *
    generalize l.getD k 0 = sk at *
    generalize hvk : valK b l i k = vk at *
    (have FX := And.intro hlm (And.intro hln (And.intro hla (And.intro hlw (And.intro hgm (And.intro hga (And.intro hgb hgc)))))); repeat' (first | (refine sx ?_ ?_ <;> intro h <;> first | (exfalso; omega) | skip) | refine ny ?_ | refine WA_block ?_))
    all_goals (try (exfalso; omega))
    all_goals (refine next_ hL (k + 1) hk (by omega) (by rw [hsu]; exact tv_))
  · obtain rfl : k = b.ads.length := by omega
    have hga := hla
    have hgb := hla
    have hgc := hla
    rw [hvn] at hQ
    (have FX := And.intro hlm (And.intro hln (And.intro hla (And.intro hlw (And.intro hgm (And.intro hga (And.intro hgb hgc)))))); repeat' (first | (refine sx ?_ ?_ <;> intro h <;> first | (exfalso; omega) | skip) | refine ny ?_ | refine WA_block ?_))
    all_goals (try (exfalso; omega))
    all_goals ((refine r_es hQ ?_; try with_reducible rfl))
end Go.Proofs.Ytaoakololkcepaa
