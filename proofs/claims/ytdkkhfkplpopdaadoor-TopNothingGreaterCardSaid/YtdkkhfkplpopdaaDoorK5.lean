/- contracts: systems of differences -/
import Derived.Test.YtdkkhfkplpopdaaDoorK1
import Derived.Test.YtdkkhfkplpopdaaDoorYA
set_option linter.unusedSimpArgs false
set_option linter.unusedVariables false
namespace Go.Proofs.YtdkkhfkplpopdaaDoor
open Go.RowKit
attribute [local irreducible] WA WOs WDs WAn qThen qBlock tput
set_option maxHeartbeats 1000000
set_option maxRecDepth 20000
set_option linter.unusedSimpArgs false
set_option linter.unusedVariables false
def nsV (l : List Int) : List (List V) := l.map fun n : Int => [V.int .i64 n]
theorem nsV_length {l : List Int} : (nsV l).length = l.length := by simp [nsV]
theorem nsV_get {l : List Int} {i : Nat} (h : i < l.length) : (nsV l)[i]? = some [V.int .i64 (l.getD i 0)] := by
  simp [nsV, List.getElem?_eq_getElem h, List.getD_eq_getElem?_getD]
theorem nsV_plain (l : List Int) : plainLL (nsV l) = true := by
  induction l with
  | nil => rfl
  | cons d r ih => simpa [nsV, plainLL, plainL, V.plain] using ih
theorem nsV_set (l : List Int) (k : Nat) (n : Int) : nsV (l.set k n) = (nsV l).set k [V.int .i64 n] := by simp [nsV, List.map_set]
abbrev cI (l : List Int) : Blk := .cells .own 3 1 (nsV l)
theorem cI_flat (l : List Int) : (cI l).flat = true := by simp [Blk.flat, plainL, V.plain, nsV]
/-- a bound as it comes -/
structure BI where
  f : Int
  t : Int
  m : Int
def bi0 : BI := ⟨0, 0, 0⟩
def biV (l : List BI) : List (List V) := l.map fun b => [V.int .i64 b.f, .int .i64 b.t, .int .i64 b.m]
theorem biV_length {l : List BI} : (biV l).length = l.length := by simp [biV]
theorem biV_get {l : List BI} {i : Nat} (h : i < l.length) : (biV l)[i]? = some [V.int .i64 (l.getD i bi0).f, .int .i64 (l.getD i bi0).t, .int .i64 (l.getD i bi0).m] := by
  simp [biV, List.getElem?_eq_getElem h, List.getD_eq_getElem?_getD]
def biE (n : Int) (b : BI) : Int := if (0 ≤ b.f ∧ b.f ≤ n - 1) ∧ (0 ≤ b.t ∧ b.t ≤ n - 1) then (if -1000000000 ≤ b.m ∧ b.m ≤ 1000000000 then 0 else 2) else 6
def fsE (n : Int) : List BI → Int
  | [] => 0
  | b :: r => if biE n b = 0 then fsE n r else biE n b
theorem fsE_at {n : Int} : ∀ {l : List BI} {i : Nat}, i < l.length → (∀ j, j < i → biE n (l.getD j bi0) = 0) → biE n (l.getD i bi0) ≠ 0 → fsE n l = biE n (l.getD i bi0)
  | b :: r, 0, _, _, h => by
    simp only [List.getD_cons_zero] at h ⊢
    rw [fsE, if_neg h]
  | b :: r, i + 1, hi, hj, h => by
    have h0 := hj 0 (by omega)
    simp only [List.getD_cons_zero, List.getD_cons_succ] at h0 h ⊢
    rw [fsE, if_pos h0]
    exact fsE_at (by simpa using hi) (fun j hj' => by simpa using hj (j + 1) (by omega)) h
theorem fsE_no {n : Int} : ∀ {l : List BI}, (∀ j, j < l.length → biE n (l.getD j bi0) = 0) → fsE n l = 0
  | [], _ => rfl
  | b :: r, h => by
    have h0 := h 0 (by simp)
    simp only [List.getD_cons_zero] at h0
    rw [fsE, if_pos h0]
    exact fsE_no fun j hj => by simpa using h (j + 1) (by simpa using hj)
theorem fsE_0 {n : Int} : ∀ {l : List BI}, fsE n l = 0 → ∀ b ∈ l, biE n b = 0
  | b :: r, h, c, hc => by
    rw [fsE] at h
    split at h
    · rename_i h0
      rcases List.mem_cons.1 hc with rfl | hc
      · exact h0
      · exact fsE_0 h c hc
    · contradiction
def syE (n : Int) (l : List BI) : Int := if 1 ≤ n ∧ n ≤ 60 then (if 200 < l.length then 8 else fsE n l) else 2

theorem qsystem_c (n : Int) (l : List BI) (m : Mem) : Gives Tryd.prog 11 [.int .i64 n, .lst (biV l)] m (.int .i64 (syE n l)) := by
  have hlen := biV_length (l := l)
  have hget := hlen
  refine Gives_in Tryd.func11 rfl Tryd.ntmps11 Tryd.results11 (by kernel_rfl) (by simp) rfl fun Q hQ => ?_
  (have FX := And.intro hlen hget; repeat' (first | (refine sx ?_ ?_ <;> intro h <;> first | (exfalso; omega) | skip) | (refine g_op ?_; refine g_call ?_; refine g_args ?_; (first | refine s_fn (bwithin_c _ _ _ _) ?_) <;> try first | omega | assumption) | refine ny ?_ | refine WA_block ?_))
  · (refine r_es hQ ?_; try with_reducible rfl)
    unfold syE
    rw [if_pos (by assumption), if_pos (by omega)]
  · refine WA_while (σ := Nat) [0, 1, 5] (fun i => [.int .i64 n, .lst (biV l), .int .i64 i]) (fun _ => lend m ++ []) (fun i => i ≤ l.length ∧ ∀ j, j < i → biE n (l.getD j bi0) = 0) (fun i => l.length - i) 0 ⟨Nat.zero_le _, fun j h => absurd h (Nat.not_lt_zero _)⟩ tv_ rfl ?_
    rintro i ⟨hi, hj⟩ L hL
    simp only [zipT]
    clear FX hget
    have hsy : syE n l = fsE n l := by unfold syE; rw [if_pos (by omega), if_neg (by omega)]
    rw [hsy] at hQ
    rcases Nat.lt_or_ge i l.length with hlt | hge
    · have hget := biV_get hlt
      have hat := fsE_at hlt hj
      have hb : biE n (l.getD i bi0) = if (0 ≤ (l.getD i bi0).f ∧ (l.getD i bi0).f ≤ n - 1) ∧ (0 ≤ (l.getD i bi0).t ∧ (l.getD i bi0).t ≤ n - 1) then (if -1000000000 ≤ (l.getD i bi0).m ∧ (l.getD i bi0).m ≤ 1000000000 then 0 else 2) else 6 := rfl
      have hnx : biE n (l.getD i bi0) = 0 → ∀ j, j < i + 1 → biE n (l.getD j bi0) = 0 := fun h j hj2 => by
        rcases Nat.lt_or_ge j i with q | q
        · exact hj j q
        · obtain rfl : j = i := by omega
          exact h
      generalize l.getD i bi0 = b at *
      generalize biE n b = e at *
      (have FX := And.intro hlen hget; repeat' (first | (refine sx ?_ ?_ <;> intro h <;> first | (exfalso; omega) | skip) | (refine g_op ?_; refine g_call ?_; refine g_args ?_; (first | refine s_fn (bwithin_c _ _ _ _) ?_) <;> try first | omega | assumption) | refine ny ?_ | refine WA_block ?_))
      all_goals (try (exfalso; omega))
      all_goals first
        | (refine next_ hL (i + 1) ⟨by omega, hnx ?_⟩ (by omega)
           rw [hb, if_pos (by omega), if_pos (by omega)])
        | ((refine r_es hQ ?_; try with_reducible rfl)
           first
           | (rw [if_pos (by omega), if_neg (by omega)] at hb
              rw [hat (by omega), hb])
           | (rw [if_neg (by omega)] at hb
              rw [hat (by omega), hb]))
    · obtain rfl : i = l.length := by omega
      have hget := hlen
      (have FX := And.intro hlen hget; repeat' (first | (refine sx ?_ ?_ <;> intro h <;> first | (exfalso; omega) | skip) | (refine g_op ?_; refine g_call ?_; refine g_args ?_; (first | refine s_fn (bwithin_c _ _ _ _) ?_) <;> try first | omega | assumption) | refine ny ?_ | refine WA_block ?_))
      all_goals (try (exfalso; omega))
      (refine r_es hQ ?_; try with_reducible rfl)
      rw [fsE_no hj]
  · (refine r_es hQ ?_; try with_reducible rfl)
    unfold syE
    rw [if_neg (by assumption)]
/-- bounds that are right -/
def bdV (l : List BdR) : List (List V) := l.map fun b => [V.int .i64 (b.from_ : Int), .int .i64 (b.to : Int), .int .i64 b.most]
theorem bdV_length {l : List BdR} : (bdV l).length = l.length := by simp [bdV]
theorem bdV_get {l : List BdR} {i : Nat} (h : i < l.length) : (bdV l)[i]? = some [V.int .i64 ((l.getD i bd0).from_ : Int), .int .i64 ((l.getD i bd0).to : Int), .int .i64 (l.getD i bd0).most] := by
  simp [bdV, List.getElem?_eq_getElem h, List.getD_eq_getElem?_getD]
def mosts (l : List BdR) : Prop := ∀ k, k < l.length → -1000000000 ≤ (l.getD k bd0).most ∧ (l.getD k bd0).most ≤ 1000000000

theorem nsystem_c (n : Nat) (l : List BdR) (h1 : 1 ≤ n) (h2 : n ≤ 60) (h3 : l.length ≤ 200) (ho : okBs n l) (hm : mosts l) (m : Mem) : Gives Tryd.prog 27 [.int .i64 n, .lst (bdV l)] m (.int .i64 0) := by
  have hlen := bdV_length (l := l)
  have hget := hlen
  have hbb := hlen
  refine Gives_in Tryd.func27 rfl Tryd.ntmps27 Tryd.results27 (by kernel_rfl) (by simp) rfl fun Q hQ => ?_
  (have FX := And.intro hlen (And.intro hget hbb); repeat' (first | (refine sx ?_ ?_ <;> intro h <;> first | (exfalso; omega) | skip) | (refine g_op ?_; refine g_call ?_; refine g_args ?_; (first | refine s_fn (nwithin_c _ _ _ _) ?_) <;> try first | omega | assumption) | refine ny ?_ | refine WA_block ?_))
  all_goals (try (exfalso; omega))
  refine WA_whileP (σ := Nat) (M := lend m) [0, 1, 15, 16, 17] (fun i => [.int .i64 n, .lst (bdV l), .lst (bdV l), .int .i64 l.length, .int .i64 i]) (fun _ => []) 0 (fun i => i ≤ l.length) (fun i => l.length - i) 0 (Nat.zero_le _) tv_ rfl (fun _ => rfl) (by intro s s' _ _; simp [conB, conS, V.keeps, V.plain, Blk.flat, flatL, plainL, V.flat]) (fun _ _ _ _ => trivial) ?_
  rintro i hi K hK
  simp only [zipT]
  clear FX hget hbb
  rcases Nat.lt_or_ge i l.length with hlt | hge
  · have hget := bdV_get hlt
    have hbb : ((l.getD i bd0).from_ < n ∧ (l.getD i bd0).to < n) ∧ -1000000000 ≤ (l.getD i bd0).most ∧ (l.getD i bd0).most ≤ 1000000000 := ⟨ho i hlt, hm i hlt⟩
    (have FX := And.intro hlen (And.intro hget hbb); repeat' (first | (refine sx ?_ ?_ <;> intro h <;> first | (exfalso; omega) | skip) | (refine g_op ?_; refine g_call ?_; refine g_args ?_; (first | refine s_fn (nwithin_c _ _ _ _) ?_) <;> try first | omega | assumption) | refine ny ?_ | refine WA_block ?_))
    all_goals (try (exfalso; omega))
    all_goals (exact nextP_ hK (i + 1) (by omega) (by omega) (hm := rfl))
  · obtain rfl : i = l.length := by omega
    have hget := hlen
    have hbb := hlen
    (have FX := And.intro hlen (And.intro hget hbb); repeat' (first | (refine sx ?_ ?_ <;> intro h <;> first | (exfalso; omega) | skip) | (refine g_op ?_; refine g_call ?_; refine g_args ?_; (first | refine s_fn (nwithin_c _ _ _ _) ?_) <;> try first | omega | assumption) | refine ny ?_ | refine WA_block ?_))
    all_goals (try (exfalso; omega))
    all_goals (refine r_es hQ ?_; try with_reducible rfl)
/-- which bound lowered each unknown last -/
def byK (l : List BdR) (x y : List Int) : Nat → List Int
  | 0 => y
  | k + 1 => if (rlxK l x k).getD (l.getD k bd0).from_ 0 + (l.getD k bd0).most < (rlxK l x k).getD (l.getD k bd0).to 0 then (byK l x y k).set (l.getD k bd0).to (k : Int) else byK l x y k
theorem byK_len (l : List BdR) (x y : List Int) : ∀ k, (byK l x y k).length = y.length
  | 0 => rfl
  | k + 1 => by rw [byK]; split <;> simp [byK_len l x y k]
def lowB (x : List Int) (b : Int) : Prop := ∀ v, b ≤ x.getD v 0 ∧ x.getD v 0 ≤ 0
theorem rlx_low {x : List Int} {c : BdR} {b : Int} (h : lowB x b) (hm : -1000000000 ≤ c.most) : lowB (rlx x c) (b - 1000000000) := by
  intro v
  have h1 := h v
  have h2 := h c.from_
  have h3 := h c.to
  unfold rlx
  split
  · rw [getD_setI]
    split <;> omega
  · omega
theorem rlxK_low {l : List BdR} {x : List Int} (hm : mosts l) {b : Int} (h : lowB x b) : ∀ k, k ≤ l.length → lowB (rlxK l x k) (b - 1000000000 * (k : Int))
  | 0, _ => by rw [rlxK]; simpa using h
  | k + 1, hk => by
    have h1 := rlx_low (c := l.getD k bd0) (rlxK_low hm h k (by omega)) (hm k (by omega)).1
    rw [rlxK]
    intro v
    have := h1 v
    constructor <;> omega
theorem uK5_28_5 {N : Nat} {l : List Oper} {t : List (Nat × V)} {m : Mem} {Q : Exit → List (Nat × V) → Mem → Prop} (h : RgN Tryd.prog N l t m Q (fun i => if i == 2 || i == 4 || i == 6 then .q else .p) [.one 0, .one 1, .one 2, .one 3, .one 4, .one 5, .one 6, .one 7, .one 8]) : WA Tryd.prog N (.region 5 l.toArray true) t m Q := d_rgN h
theorem uK5_28_7 {N : Nat} {l : List Oper} {t : List (Nat × V)} {m : Mem} {Q : Exit → List (Nat × V) → Mem → Prop} (h : RgT Tryd.prog N l t m Q 3 (fun i => if i == 9 || i == 11 then .f else if i == 2 || i == 5 then .q else .p) [.one 0, .one 1, .one 2, .one 3, .one 4, .one 5, .one 6, .one 7, .one 8, .one 9, .one 10, .one 11]) : WA Tryd.prog N (.region 7 l.toArray true) t m Q := d_rgT h
theorem nrelax_c (n : Nat) (l : List BdR) (ho : okBs n l) (hm : mosts l) (hl : l.length ≤ 200) (x y : List Int) (hxl : x.length = n) (hyl : y.length = n) (hlo : lowB x (-100000000000000)) (M : Mem) :
    CallA Tryd.prog 28 [.lst (bdV l), .sl M.length n, .sl (M.length + 1) n] (M ++ [cI x, cI y]) (fun v mo => v = .int .i64 (lowK l x l.length) ∧ ∃ ext, mo = some (M ++ ([cI (rlxK l x l.length), cI (byK l x y l.length)] ++ ext))) := by
  have hlen := bdV_length (l := l)
  have hget := hlen
  have hbb := hlen
  have hx1 := hlen
  have hx2 := hlen
  have hx3 := hlen
  have hx4 := hlen
  have hx5 := hlen
  refine CallA_inD Tryd.func28 rfl Tryd.ntmps28 Tryd.results28 (by kernel_rfl) (by simp) fun Q hQ => ?_
  (have FX := And.intro hlen (And.intro hget (And.intro hbb (And.intro hx1 (And.intro hx2 (And.intro hx3 (And.intro hx4 hx5)))))); repeat' (first | (refine sx ?_ ?_ <;> intro h <;> first | (exfalso; omega) | skip) | refine ny ?_ | refine WA_block ?_ | (refine uK5_28_5 ?_; refine ⟨by kernel_rfl, ?_⟩) | (refine uK5_28_7 ?_; refine ⟨by kernel_rfl, ?_⟩)))
  refine WA_whileP (σ := Nat) (M := M) [0, 1, 2, 7, 11, 12, 13] (fun i => [.lst (bdV l), .sl M.length n, .sl (M.length + 1) n, .int .i64 (lowK l x i), .lst (bdV l), .int .i64 l.length, .int .i64 i]) (fun i => [cI (rlxK l x i), cI (byK l x y i)]) 2 (fun i => i ≤ l.length) (fun i => l.length - i) 0 (Nat.zero_le _) tv_ rfl (fun _ => rfl) (by intro s s' _ _; simp [conB, conS, V.keeps, V.plain, Blk.flat, flatL, plainL, V.flat]) (fun _ _ _ _ => ⟨.inl (cI_flat _), .inl (cI_flat _), trivial⟩) ?_
  rintro i hi K hK
  simp only [zipT]
  clear FX hget hbb hx1 hx2 hx3 hx4 hx5
  rcases Nat.lt_or_ge i l.length with hlt | hge
  · have hget := bdV_get hlt
    have hbb : ((l.getD i bd0).from_ < n ∧ (l.getD i bd0).to < n) ∧ -1000000000 ≤ (l.getD i bd0).most ∧ (l.getD i bd0).most ≤ 1000000000 := ⟨ho i hlt, hm i hlt⟩
    have hlw := rlxK_low hm hlo i (by omega)
    have hL1 : (rlxK l x i).length = n := by rw [rlxK_len]; exact hxl
    have hL2 : (byK l x y i).length = n := by rw [byK_len]; exact hyl
    have hx1 := nsV_get (l := rlxK l x i) (i := (l.getD i bd0).from_) (by omega)
    have hx2 := nsV_get (l := rlxK l x i) (i := (l.getD i bd0).to) (by omega)
    have hx3 : (nsV (rlxK l x i)).length = n := by rw [nsV_length]; exact hL1
    have hx4 : (nsV (byK l x y i)).length = n := by rw [nsV_length]; exact hL2
    have hx5 := nsV_get (l := byK l x y i) (i := (l.getD i bd0).to) (by omega)
    have b1 := hlw (l.getD i bd0).from_
    have b2 := hlw (l.getD i bd0).to
    have e1 : rlxK l x (i + 1) = if (rlxK l x i).getD (l.getD i bd0).from_ 0 + (l.getD i bd0).most < (rlxK l x i).getD (l.getD i bd0).to 0 then (rlxK l x i).set (l.getD i bd0).to ((rlxK l x i).getD (l.getD i bd0).from_ 0 + (l.getD i bd0).most) else rlxK l x i := rfl
    have e2 : lowK l x (i + 1) = if (rlxK l x i).getD (l.getD i bd0).from_ 0 + (l.getD i bd0).most < (rlxK l x i).getD (l.getD i bd0).to 0 then ((l.getD i bd0).to : Int) else lowK l x i := rfl
    have e3 : byK l x y (i + 1) = if (rlxK l x i).getD (l.getD i bd0).from_ 0 + (l.getD i bd0).most < (rlxK l x i).getD (l.getD i bd0).to 0 then (byK l x y i).set (l.getD i bd0).to (i : Int) else byK l x y i := rfl
    have hnx := hK (i + 1)
    rw [e1, e2, e3] at hnx
    clear hK e1 e2 e3 hlw
    generalize lowK l x i = lo at *
    generalize byK l x y i = yi at *
    generalize rlxK l x i = xi at *
    generalize l.getD i bd0 = b at *
    generalize xi.getD b.from_ 0 = p at *
    generalize xi.getD b.to 0 = q at *
    (have FX := And.intro hlen (And.intro hget (And.intro hbb (And.intro hx1 (And.intro hx2 (And.intro hx3 (And.intro hx4 hx5)))))); repeat' (first | (refine sx ?_ ?_ <;> intro h <;> first | (exfalso; omega) | skip) | refine ny ?_ | refine WA_block ?_ | (refine uK5_28_5 ?_; refine ⟨by kernel_rfl, ?_⟩) | (refine uK5_28_7 ?_; refine ⟨by kernel_rfl, ?_⟩)))
    all_goals (try (exfalso; omega))
    · have hc : p + b.most < q := by assumption
      simp only [if_pos hc] at hnx
      rw [← nsV_set, ← nsV_set]
      exact hnx _ _ [_] tv_ rfl (by omega) (by omega)
    · have hc : ¬ p + b.most < q := by assumption
      simp only [if_neg hc] at hnx
      exact hnx _ _ [_] tv_ rfl (by omega) (by omega)
  · obtain rfl : i = l.length := by omega
    have hget := hlen
    have hbb := hlen
    have hx1 := hlen
    have hx2 := hlen
    have hx3 := hlen
    have hx4 := hlen
    have hx5 := hlen
    (have FX := And.intro hlen (And.intro hget (And.intro hbb (And.intro hx1 (And.intro hx2 (And.intro hx3 (And.intro hx4 hx5)))))); repeat' (first | (refine sx ?_ ?_ <;> intro h <;> first | (exfalso; omega) | skip) | refine ny ?_ | refine WA_block ?_ | (refine uK5_28_5 ?_; refine ⟨by kernel_rfl, ?_⟩) | (refine uK5_28_7 ?_; refine ⟨by kernel_rfl, ?_⟩)))
    all_goals (try (exfalso; omega))
    all_goals (exact hQ _ _ _ (by first | exact .inl rfl | exact .inr rfl) _ rfl ⟨rfl, [], by rw [List.append_nil]⟩)
end Go.Proofs.YtdkkhfkplpopdaaDoor
