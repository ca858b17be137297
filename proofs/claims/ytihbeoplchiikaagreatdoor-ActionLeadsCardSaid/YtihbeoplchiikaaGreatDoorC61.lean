/- contracts: sets of bits, lists of numbers, copies of leads -/
import Derived.Test.YtihbeoplchiikaaGreatDoorYN
import Derived.Test.YtihbeoplchiikaaGreatDoorGA
import Derived.Test.YtihbeoplchiikaaGreatDoorYE
import Derived.Laws.MathBits
set_option linter.unusedSimpArgs false
set_option linter.unusedVariables false
namespace Go.Proofs.YtihbeoplchiikaaGreatDoor
open Go.RowKit
attribute [local irreducible] WA WOs WDs WAn qThen qBlock tput
set_option maxHeartbeats 1000000
set_option maxRecDepth 20000
set_option linter.unusedSimpArgs false
set_option linter.unusedVariables false
/-- the least member -/
def tz (x : Nat) : Nat := (mem x).headD 0
theorem shr58 {m : Mem} {z : Int} (h : 0 ≤ z) : evB Tryz.prog m .shr 137 (.int .u64 z) (.int .u64 58) = some (True, .int .u64 (z / 288230376151711744), m) := by
  have e : z.fdiv (2 ^ (min (58 : Int).toNat IntKind.u64.bits)) = z / 288230376151711744 := by
    rw [Int.fdiv_eq_ediv_of_nonneg z (by decide)]
    rfl
  have q : evEq Tryz.prog .shr 137 (.int .u64 z) (.int .u64 58) = none := rfl
  unfold evB
  rw [q]
  simp only [evBin, e]
  simp
def tabN : List Nat := [0, 1, 56, 2, 57, 49, 28, 3, 61, 58, 42, 50, 38, 29, 17, 4, 62, 47, 59, 36, 45, 43, 51, 22, 53, 39, 33, 30, 24, 18, 12, 5, 63, 55, 48, 27, 60, 41, 37, 16, 46, 35, 44, 21, 52, 32, 23, 11, 54, 26, 40, 15, 34, 20, 31, 10, 25, 14, 19, 9, 13, 8, 7, 6]
def tabV : List V := [.int .u8 0, .int .u8 1, .int .u8 56, .int .u8 2, .int .u8 57, .int .u8 49, .int .u8 28, .int .u8 3, .int .u8 61, .int .u8 58, .int .u8 42, .int .u8 50, .int .u8 38, .int .u8 29, .int .u8 17, .int .u8 4, .int .u8 62, .int .u8 47, .int .u8 59, .int .u8 36, .int .u8 45, .int .u8 43, .int .u8 51, .int .u8 22, .int .u8 53, .int .u8 39, .int .u8 33, .int .u8 30, .int .u8 24, .int .u8 18, .int .u8 12, .int .u8 5, .int .u8 63, .int .u8 55, .int .u8 48, .int .u8 27, .int .u8 60, .int .u8 41, .int .u8 37, .int .u8 16, .int .u8 46, .int .u8 35, .int .u8 44, .int .u8 21, .int .u8 52, .int .u8 32, .int .u8 23, .int .u8 11, .int .u8 54, .int .u8 26, .int .u8 40, .int .u8 15, .int .u8 34, .int .u8 20, .int .u8 31, .int .u8 10, .int .u8 25, .int .u8 14, .int .u8 19, .int .u8 9, .int .u8 13, .int .u8 8, .int .u8 7, .int .u8 6]
theorem gval_1 : gval 1 = .bp tabV 0 := rfl
theorem tab_get {k t : Nat} (h : tabN[k]? = some t) : tabV[k]? = some (V.int .u8 (t : Int)) := by
  have e : tabV = tabN.map fun n : Nat => V.int .u8 (n : Int) := rfl
  rw [e, List.getElem?_map, h]
  rfl
def tIx (x : Nat) : Int := bits .and .u64 (x : Int) (-(x : Int) % 18446744073709551616) * 285870213051353865 % 18446744073709551616 / 288230376151711744
theorem tab_all : ∀ x, x < 32 → x ≠ 0 → 0 ≤ tIx x ∧ tabN[(tIx x).toNat]? = some (tz x) := by decide +kernel

theorem mtz64_w (x : Nat) (h0 : 1 ≤ x) (hx : x < 32) (k t : Nat) (hk0 : tIx x = (k : Int)) (ht : tabN[k]? = some t) (ht2 : t < 64) (m : Mem) : Gives Tryz.prog 85 [.int .u64 x] m (.int .i64 t) := by
  have hw := fun n => IntKind.wrap_u64 (n := n)
  have hs := fun (m : Mem) (z : Int) h => shr58 (m := m) (z := z) h
  have hx1 : bits .and .u64 (x : Int) (-(x : Int) % 18446744073709551616) * 285870213051353865 % 18446744073709551616 / 288230376151711744 = (k : Int) := hk0
  have hg : ([.int .u8 0, .int .u8 1, .int .u8 56, .int .u8 2, .int .u8 57, .int .u8 49, .int .u8 28, .int .u8 3, .int .u8 61, .int .u8 58, .int .u8 42, .int .u8 50, .int .u8 38, .int .u8 29, .int .u8 17, .int .u8 4, .int .u8 62, .int .u8 47, .int .u8 59, .int .u8 36, .int .u8 45, .int .u8 43, .int .u8 51, .int .u8 22, .int .u8 53, .int .u8 39, .int .u8 33, .int .u8 30, .int .u8 24, .int .u8 18, .int .u8 12, .int .u8 5, .int .u8 63, .int .u8 55, .int .u8 48, .int .u8 27, .int .u8 60, .int .u8 41, .int .u8 37, .int .u8 16, .int .u8 46, .int .u8 35, .int .u8 44, .int .u8 21, .int .u8 52, .int .u8 32, .int .u8 23, .int .u8 11, .int .u8 54, .int .u8 26, .int .u8 40, .int .u8 15, .int .u8 34, .int .u8 20, .int .u8 31, .int .u8 10, .int .u8 25, .int .u8 14, .int .u8 19, .int .u8 9, .int .u8 13, .int .u8 8, .int .u8 7, .int .u8 6] : List V)[k]? = some (V.int .u8 (t : Int)) := tab_get ht
  have hg2 := tab_get ht
  have hgv := gval_1
  have hk : k < 64 := by
    have := (List.getElem?_eq_some_iff.1 ht).1
    simpa [tabN] using this
  have hm1 := Nat.mul_one
  refine Gives_in Tryz.func85 rfl Tryz.ntmps85 Tryz.results85 (by kernel_rfl) (by simp) rfl fun Q hQ => ?_
  (have FX := And.intro hw (And.intro hs (And.intro hx1 (And.intro hg (And.intro hgv (And.intro hk (And.intro hm1 hg2)))))); repeat' (first | (refine sx ?_ ?_ <;> intro h <;> first | (exfalso; omega) | skip) | refine ny ?_ | refine WA_block ?_))
  all_goals (try (exfalso; omega))
  all_goals (refine r_es hQ ?_; try with_reducible rfl)
theorem tz_lt (x : Nat) : tz x < 64 := by
  unfold tz
  cases h : mem x with
  | nil => decide
  | cons a r =>
    have : a ∈ mem x := by rw [h]; exact List.mem_cons_self
    have := (List.mem_filter.1 this).1
    have := List.mem_range.1 this
    show a < 64
    omega
theorem mtz64_c (x : Nat) (h0 : 1 ≤ x) (hx : x < 32) (m : Mem) : Gives Tryz.prog 85 [.int .u64 x] m (.int .i64 (tz x)) := by
  obtain ⟨h1, h2⟩ := tab_all x hx (by omega)
  exact mtz64_w x h0 hx _ _ (Int.toNat_of_nonneg h1).symm h2 (tz_lt x) m

theorem mtz_c (x : Nat) (h0 : 1 ≤ x) (hx : x < 32) (m : Mem) : Gives Tryz.prog 56 [.int .u64 x] m (.int .i64 (tz x)) := by
  have htz := fun m => mtz64_c x h0 hx m
  refine Gives_in Tryz.func56 rfl Tryz.ntmps56 Tryz.results56 (by kernel_rfl) (by simp) rfl fun Q hQ => ?_
  (repeat' (first | (refine sx ?_ ?_ <;> intro h <;> first | (exfalso; omega) | skip) | (refine g_op ?_; refine g_call ?_; refine g_args ?_; (first | refine s_fn (htz _) ?_) <;> try first | omega | assumption) | refine ny ?_ | refine WA_block ?_))
  all_goals (refine r_es hQ ?_; try with_reducible rfl)
def nlV (l : List Nat) : List (List V) := l.map fun n : Nat => [V.int .i64 (n : Int)]
theorem nlV_length {l : List Nat} : (nlV l).length = l.length := by simp [nlV]
theorem nlV_get {l : List Nat} {i : Nat} (h : i < l.length) : (nlV l)[i]? = some [V.int .i64 ((l.getD i 0 : Nat) : Int)] := by
  simp [nlV, List.getElem?_eq_getElem h, List.getD_eq_getElem?_getD]
theorem nlV_plain (l : List Nat) : plainLL (nlV l) = true := by
  induction l with
  | nil => rfl
  | cons d r ih => simpa [nlV, plainLL, plainL, V.plain] using ih
theorem nlV_snoc (l : List Nat) (n : Nat) : nlV (l ++ [n]) = nlV l ++ [[V.int .i64 (n : Int)]] := by simp [nlV]
/-- the set without its least member -/
def drp (s : Nat) : Nat := s &&& (s - 1)
theorem mem_step : ∀ s, s < 32 → s ≠ 0 → mem s = tz s :: mem (drp s) ∧ drp s < s ∧ bits .and .u64 (s : Int) ((s : Int) - 1) = (drp s : Int) := by decide +kernel
theorem mem_0 : mem 0 = [] := by decide
def mbS (p : List Nat × Nat) : List TV := [.v (.int .u64 (p.2 : Int)), match p.1 with | [] => .v .nilsl | _ :: r => .sl 0 (r.length + 1)]
def mbE (p : List Nat × Nat) : List TB := match p.1 with
  | [] => []
  | a :: r => [.cells .own 3 1 ((nlV (a :: r)).map (List.map TV.v))]
theorem mbE_ok {p : List Nat × Nat} : (mbE p).all (TB.ok (mbE p).length) = true := by
  obtain ⟨l, s⟩ := p
  cases l with
  | nil => simp [mbE]
  | cons a r => simp only [mbE, List.all_cons, TB.ok, TV.okT, List.all_nil, Bool.and_true, Bool.and_self, tv_ok, List.length_cons, List.length_nil]
theorem mbS_ok {p : List Nat × Nat} : (mbS p).all (TV.okT (mbE p).length) = true := by
  obtain ⟨l, s⟩ := p
  cases l with
  | nil => simp [mbS, TV.okT]
  | cons a r => simp [mbS, mbE, TV.okT]
theorem Gives_of {P : Program} {f : FuncId} {vs : List V} {m : Mem} {v' : V} {R : V → Option Mem → Prop} (h : CallA P f vs m R) (hR : ∀ v mo, R v mo → mo = none ∧ WkV v v') : Gives P f vs m v' := by
  refine ⟨h.1, fun w ρ xs hM hA => (h.2 w ρ xs hM hA).mono ?_⟩
  rintro e w' ⟨v, mo, x, rfl, h1, h2⟩
  obtain ⟨rfl, hw⟩ := hR v mo h1
  rcases h2 with ⟨_, hb, rv⟩ | ⟨m', ρ', e, _⟩
  · exact ⟨v', none, x, rfl, ⟨rfl, rfl⟩, .inl ⟨rfl, hb, hw _ _ _ _ rv⟩⟩
  · cases e

theorem amembers_c (s : Nat) (hs : s < 32) (m : Mem) : Gives Tryz.prog 23 [.int .u64 s] m (.lst (nlV (mem s))) := by
  suffices key : CallA Tryz.prog 23 [.int .u64 s] m (fun v mo => (v = .lst (nlV (mem s)) ∨ mem s = [] ∧ v = .nilsl) ∧ mo = none) from by
    refine Gives_of key ?_
    rintro v mo ⟨h1, rfl⟩
    refine ⟨rfl, ?_⟩
    rcases h1 with rfl | ⟨h2, rfl⟩
    · exact WkV.refl _
    · rw [h2]; exact wk_nil
  have hll := hs
  have hlt := hs
  have hand := hs
  have htz := hs
  refine CallA_in Tryz.func23 rfl Tryz.ntmps23 Tryz.results23 (by kernel_rfl) (by simp) fun Q hQ => ?_
  (have FX := And.intro hll (And.intro hlt hand); repeat' (first | (refine sx ?_ ?_ <;> intro h <;> first | (exfalso; omega) | skip) | (refine g_op ?_; refine g_call ?_; refine g_args ?_; (first | refine s_fn (htz _) ?_) <;> try first | omega | assumption) | refine ny ?_ | refine WA_block ?_))
  refine WA_whileT (σ := List Nat × Nat) (L := lend m) [0, 3] mbS mbE (fun p => p.2 < 32 ∧ p.1 ++ mem p.2 = mem s ∧ p.1.length ≤ 8) (fun p => p.2) ([], s) ⟨hs, rfl, Nat.zero_le _⟩ ?_ rfl (by decide) (fun _ _ => mbS_ok) (fun _ _ => mbE_ok) ?_
  · simp only [mbS, List.map_cons, List.map_nil, TV.inst]
    exact tv_
  rintro ⟨l, u⟩ ⟨hu, hm, h8⟩ B ⟨D, hB⟩ K hK
  dsimp only at hu hm h8
  clear FX hll hlt hand htz
  rcases Nat.eq_zero_or_pos u with rfl | hu0
  · rw [mem_0, List.append_nil] at hm
    subst hm
    have hand := hs
    have htz := hs
    cases hml : mem s with
    | nil =>
      have hll := hs
      have hlt := hs
      simp only [mbS, mbE, hml]
      simp only [List.map_cons, List.map_nil, TB.inst, TV.inst, tv_map, zipT, List.cons_append, List.nil_append, Nat.add_zero]
      (have FX := And.intro hll (And.intro hlt hand); repeat' (first | (refine sx ?_ ?_ <;> intro h <;> first | (exfalso; omega) | skip) | (refine g_op ?_; refine g_call ?_; refine g_args ?_; (first | refine s_fn (htz _) ?_) <;> try first | omega | assumption) | refine ny ?_ | refine WA_block ?_))
      all_goals (try (exfalso; omega))
      refine r_esA hQ (.inl ⟨rfl, .inr ⟨hml, rfl⟩, rfl⟩)
    | cons a r =>
      have hll : (nlV (a :: r)).length = r.length + 1 := nlV_length
      have hlt := hs
      simp only [mbS, mbE, hml]
      simp only [List.map_cons, List.map_nil, TB.inst, TV.inst, tv_map, zipT, List.cons_append, List.nil_append, Nat.add_zero]
      (have FX := And.intro hll (And.intro hlt hand); repeat' (first | (refine sx ?_ ?_ <;> intro h <;> first | (exfalso; omega) | skip) | (refine g_op ?_; refine g_call ?_; refine g_args ?_; (first | refine s_fn (htz _) ?_) <;> try first | omega | assumption) | refine ny ?_ | refine WA_block ?_))
      all_goals (try (exfalso; omega))
      refine r_esA hQ (fin_sl (D := D) (j := 0) hB rfl (by rw [hll]; exact Nat.le_refl _) (by rw [List.take_of_length_le (by rw [hll]; exact Nat.le_refl _)]; exact nlV_plain _) ⟨.inl ?_, rfl⟩)
      rw [List.take_of_length_le (by rw [hll]; exact Nat.le_refl _), hml]
  · obtain ⟨e1, e2, e3⟩ := mem_step u hu (by omega)
    have htz := fun m => mtz_c u hu0 hu m
    have hand := e3
    rw [e1] at hm
    have hm2 : (l ++ [tz u]) ++ mem (drp u) = mem s := by rw [← hm]; simp
    have hln : mem s = [] → False := fun h => by rw [h] at hm; simp at hm
    have h82 : (l ++ [tz u]).length ≤ 8 := by
      have : (mem s).length ≤ 8 := by unfold mem; exact Nat.le_trans (List.length_filter_le _ _) (by simp)
      rw [← hm2] at this
      simp only [List.length_append] at this ⊢
      omega
    have hsn := nlV_snoc l (tz u)
    cases l with
    | nil =>
      rw [List.nil_append] at hsn hm2 h82
      have hll := hs
      have hlt := hs
      simp only [mbS, mbE]
      simp only [List.map_cons, List.map_nil, TB.inst, TV.inst, tv_map, zipT, List.cons_append, List.nil_append, Nat.add_zero]
      (have FX := And.intro hll (And.intro hlt hand); repeat' (first | (refine sx ?_ ?_ <;> intro h <;> first | (exfalso; omega) | skip) | (refine g_op ?_; refine g_call ?_; refine g_args ?_; (first | refine s_fn (htz _) ?_) <;> try first | omega | assumption) | refine ny ?_ | refine WA_block ?_))
      all_goals (try (exfalso; omega))
      have hs0 : nlV [tz u] = [[V.int .i64 (tz u : Int)]] := rfl
      (refine nextU_ hK (([tz u], drp u)) [1] (⟨by dsimp only; omega, hm2, h82⟩) (e2) ?_ (ht := ?_); (focus (simp only [mbE, hs0, List.map_cons, List.map_nil, TB.inst, TV.inst, tv_map, List.cons_append, List.nil_append]; first | rfl | (simp [ptsV, ptV]; done) | (simp [hpsV, hpV]; done) | (simp [frsV, frV]; done) | (simp [txV]; done) | (simp [prtsV, prtV]; done))); (simp only [mbS, List.length_nil, Nat.zero_add, List.map_cons, List.map_nil, TV.inst, List.getD_cons_zero, List.getD_cons_succ]; exact tv_))
    | cons a r =>
      rw [List.cons_append] at hsn hm2 h82
      simp only [List.length_cons] at h8
      have hll : (nlV (a :: r)).length = r.length + 1 := nlV_length
      have hlt : (nlV (a :: r)).take (r.length + 1) = nlV (a :: r) := by rw [List.take_of_length_le (by rw [hll]; exact Nat.le_refl _)]
      simp only [mbS, mbE]
      simp only [List.map_cons, List.map_nil, TB.inst, TV.inst, tv_map, zipT, List.cons_append, List.nil_append, Nat.add_zero]
      (have FX := And.intro hll (And.intro hlt hand); repeat' (first | (refine sx ?_ ?_ <;> intro h <;> first | (exfalso; omega) | skip) | (refine g_op ?_; refine g_call ?_; refine g_args ?_; (first | refine s_fn (htz _) ?_) <;> try first | omega | assumption) | refine ny ?_ | refine WA_block ?_))
      all_goals (try (exfalso; omega))
      (refine nextU_ hK ((a :: (r ++ [tz u]), drp u)) [2] (⟨by dsimp only; omega, hm2, h82⟩) (e2) ?_ (ht := ?_); (focus (simp only [mbE, hsn, List.map_cons, List.map_nil, TB.inst, TV.inst, tv_map, List.cons_append, List.nil_append]; first | rfl | (simp [ptsV, ptV]; done) | (simp [hpsV, hpV]; done) | (simp [frsV, frV]; done) | (simp [txV]; done) | (simp [prtsV, prtV]; done))); (simp only [mbS, List.length_append, List.length_cons, List.length_nil, Nat.zero_add, List.map_cons, List.map_nil, TV.inst, List.getD_cons_zero, List.getD_cons_succ]; exact tv_))
end Go.Proofs.YtihbeoplchiikaaGreatDoor
