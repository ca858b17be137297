import Derived.Test.YtihbeoplchiikaaGreatDoorYC
import Derived.Test.YtihbeoplchiikaaGreatDoorYA
set_option linter.unusedSimpArgs false
set_option linter.unusedVariables false
/- contracts: numbers -/
namespace Go.Proofs.YtihbeoplchiikaaGreatDoor
open Go.RowKit
attribute [local irreducible] WA WOs WDs WAn qThen qBlock tput
set_option maxHeartbeats 1000000
set_option maxRecDepth 20000
set_option linter.unusedSimpArgs false
set_option linter.unusedVariables false
def cmpI (x y : Int) : Int := if x < y then -1 else if y < x then 1 else 0
theorem cmpI_lt {x y : Int} : cmpI x y < 0 ↔ x < y := by unfold cmpI; split <;> (try split) <;> omega
theorem awithin_c (n lo hi : Int) (m : Mem) : Gives Tryz.prog 45 [.int .i64 n, .int .i64 lo, .int .i64 hi] m (.bool (decide (lo ≤ n ∧ n ≤ hi))) := by
  refine Gives_in Tryz.func45 rfl Tryz.ntmps45 Tryz.results45 (by kernel_rfl) (by simp) rfl fun Q hQ => ?_
  (repeat' (first | (refine sx ?_ ?_ <;> intro h <;> first | (exfalso; omega) | skip) | refine ny ?_ | refine WA_block ?_))
  all_goals ((refine r_es hQ ?_; try with_reducible rfl); simp only [V.bool.injEq, decide_eq_true_eq, decide_eq_false_iff_not, eq_comm]; first | omega | (simp; omega) | simp)

theorem bwithin_c (n lo hi : Int) (m : Mem) : Gives Tryz.prog 30 [.int .i64 n, .int .i64 lo, .int .i64 hi] m (.bool (decide (lo ≤ n ∧ n ≤ hi))) := by
  refine Gives_in Tryz.func30 rfl Tryz.ntmps30 Tryz.results30 (by kernel_rfl) (by simp) rfl fun Q hQ => ?_
  (repeat' (first | (refine sx ?_ ?_ <;> intro h <;> first | (exfalso; omega) | skip) | refine ny ?_ | refine WA_block ?_))
  all_goals ((refine r_es hQ ?_; try with_reducible rfl); simp only [V.bool.injEq, decide_eq_true_eq, decide_eq_false_iff_not, eq_comm]; first | omega | (simp; omega) | simp)

theorem babs_c (n : Int) (h1 : -9223372036854775807 ≤ n) (h2 : n ≤ 9223372036854775807) (m : Mem) : Gives Tryz.prog 90 [.int .i64 n] m (.int .i64 (n.natAbs : Int)) := by
  refine Gives_in Tryz.func90 rfl Tryz.ntmps90 Tryz.results90 (by kernel_rfl) (by simp) rfl fun Q hQ => ?_
  (repeat' (first | (refine sx ?_ ?_ <;> intro h <;> first | (exfalso; omega) | skip) | refine ny ?_ | refine WA_block ?_))
  all_goals ((refine r_es hQ ?_; try with_reducible rfl); all_goals (simp only [V.int.injEq, true_and]; omega))

theorem awhole_c (n : Int) (m : Mem) : Gives Tryz.prog 21 [.int .i64 n] m (.agg [.int .i64 n, .int .i64 1]) := by
  refine Gives_in Tryz.func21 rfl Tryz.ntmps21 Tryz.results21 (by kernel_rfl) (by simp) rfl fun Q hQ => ?_
  (repeat' (first | (refine sx ?_ ?_ <;> intro h <;> first | (exfalso; omega) | skip) | refine ny ?_ | refine WA_block ?_))
  all_goals (refine r_es hQ ?_; try with_reducible rfl)

theorem cnan_c (n : Int) (m : Mem) : Gives Tryz.prog 57 [.int .i64 n] m (.bool false) := by
  refine Gives_in Tryz.func57 rfl Tryz.ntmps57 Tryz.results57 (by kernel_rfl) (by simp) rfl fun Q hQ => ?_
  (repeat' (first | (refine sx ?_ ?_ <;> intro h <;> first | (exfalso; omega) | skip) | refine ny ?_ | refine WA_block ?_))
  all_goals ((refine r_es hQ ?_; try with_reducible rfl); try simp)

theorem ccompare_c (x y : Int) (m : Mem) : Gives Tryz.prog 25 [.int .i64 x, .int .i64 y] m (.int .i64 (cmpI x y)) := by
  refine Gives_in Tryz.func25 rfl Tryz.ntmps25 Tryz.results25 (by kernel_rfl) (by simp) rfl fun Q hQ => ?_
  (repeat' (first | (refine sx ?_ ?_ <;> intro h <;> first | (exfalso; omega) | skip) | (refine na ?_; (first | refine nb (cnan_c _) ?_) <;> try first | omega | assumption) | refine ny ?_ | refine WA_block ?_))
  all_goals ((refine r_es hQ ?_; try with_reducible rfl); unfold cmpI; simp only [V.int.injEq, true_and]; repeat (first | rw [if_pos (by assumption)] | rw [if_neg (by assumption)]))
theorem uC1_93_2 {N : Nat} {l : List Oper} {t : List (Nat × V)} {m : Mem} {Q : Exit → List (Nat × V) → Mem → Prop} (h : RgN Tryz.prog N l t m Q (fun _ => .p) [.one 0, .one 1, .one 2, .one 3, .one 4, .one 5]) : WA Tryz.prog N (.region 2 l.toArray true) t m Q := d_rgN h
theorem agcd_c (a b : Int) (h1 : -9223372036854775807 ≤ a) (h2 : a ≤ 9223372036854775807) (h3 : -9223372036854775807 ≤ b) (h4 : b ≤ 9223372036854775807) (m : Mem) : Gives Tryz.prog 93 [.int .i64 a, .int .i64 b] m (.int .i64 (Int.gcd a b)) := by
  refine Gives_in Tryz.func93 rfl Tryz.ntmps93 Tryz.results93 (by kernel_rfl) (by simp) rfl fun Q hQ => ?_
  (repeat' (first | (refine sx ?_ ?_ <;> intro h <;> first | (exfalso; omega) | skip) | refine ny ?_ | refine WA_block ?_ | (refine uC1_93_2 ?_; refine ⟨by kernel_rfl, ?_⟩)))
  refine WA_while (σ := Int × Int) [0, 1] (fun s => [.int .i64 s.1, .int .i64 s.2]) (fun _ => lend m ++ []) (fun s => (-9223372036854775807 ≤ s.1 ∧ s.1 ≤ 9223372036854775807) ∧ (-9223372036854775807 ≤ s.2 ∧ s.2 ≤ 9223372036854775807) ∧ Int.gcd s.1 s.2 = Int.gcd a b) (fun s => s.2.natAbs) (a, b) ⟨⟨h1, h2⟩, ⟨h3, h4⟩, rfl⟩ tv_ rfl ?_
  rintro ⟨p, q⟩ ⟨⟨hp1, hp2⟩, ⟨hq1, hq2⟩, hg⟩ L hL
  dsimp only at hp1 hp2 hq1 hq2 hg
  simp only [zipT]
  (repeat' (first | (refine sx ?_ ?_ <;> intro h <;> first | (exfalso; omega) | skip) | refine ny ?_ | refine WA_block ?_ | (refine uC1_93_2 ?_; refine ⟨by kernel_rfl, ?_⟩)))
  · have hm := tmod_bd p q ⟨hp1, hp2⟩ (by assumption)
    exact next_ hL (q, p.tmod q) ⟨⟨hq1, hq2⟩, hm.1, (gcd_tmod p q).trans hg⟩ hm.2
  all_goals ((refine r_es hQ ?_; try with_reducible rfl); have hq0 : q = 0 := by omega)
  all_goals (subst hq0; rw [← hg]; simp; try omega)
theorem uC1_123_2 {N : Nat} {l : List Oper} {t : List (Nat × V)} {m : Mem} {Q : Exit → List (Nat × V) → Mem → Prop} (h : RgN Tryz.prog N l t m Q (fun _ => .p) [.one 0, .one 1, .one 2, .one 3, .one 4, .one 5]) : WA Tryz.prog N (.region 2 l.toArray true) t m Q := d_rgN h
theorem bgcd_c (a b : Int) (h1 : -9223372036854775807 ≤ a) (h2 : a ≤ 9223372036854775807) (h3 : -9223372036854775807 ≤ b) (h4 : b ≤ 9223372036854775807) (m : Mem) : Gives Tryz.prog 123 [.int .i64 a, .int .i64 b] m (.int .i64 (Int.gcd a b)) := by
  refine Gives_in Tryz.func123 rfl Tryz.ntmps123 Tryz.results123 (by kernel_rfl) (by simp) rfl fun Q hQ => ?_
  (repeat' (first | (refine sx ?_ ?_ <;> intro h <;> first | (exfalso; omega) | skip) | (refine na ?_; (first | refine s_fn (babs_c _ ?_ ?_ _) ?_ | refine d_fn (babs_c _ ?_ ?_ _) ?_ | refine d_fnQ (fun _ => babs_c _ ?_ ?_ _) ?_ | refine grp_cons (fun _ => babs_c _ ?_ ?_ _) ?_) <;> try first | omega | assumption) | refine ny ?_ | refine WA_block ?_ | (refine uC1_123_2 ?_; refine ⟨by kernel_rfl, ?_⟩) | (refine g_d ?_; (first | refine d_fnY (babs_c _ ?_ ?_ _) ?_) <;> try first | omega | assumption)))
  refine WA_while (σ := Int × Int) [0, 1] (fun s => [.int .i64 s.1, .int .i64 s.2]) (fun _ => lend m ++ []) (fun s => (-9223372036854775807 ≤ s.1 ∧ s.1 ≤ 9223372036854775807) ∧ (-9223372036854775807 ≤ s.2 ∧ s.2 ≤ 9223372036854775807) ∧ Int.gcd s.1 s.2 = Int.gcd a b) (fun s => s.2.natAbs) (a, b) ⟨⟨h1, h2⟩, ⟨h3, h4⟩, rfl⟩ tv_ rfl ?_
  rintro ⟨p, q⟩ ⟨⟨hp1, hp2⟩, ⟨hq1, hq2⟩, hg⟩ L hL
  dsimp only at hp1 hp2 hq1 hq2 hg
  simp only [zipT]
  (repeat' (first | (refine sx ?_ ?_ <;> intro h <;> first | (exfalso; omega) | skip) | (refine na ?_; (first | refine s_fn (babs_c _ ?_ ?_ _) ?_ | refine d_fn (babs_c _ ?_ ?_ _) ?_ | refine d_fnQ (fun _ => babs_c _ ?_ ?_ _) ?_ | refine grp_cons (fun _ => babs_c _ ?_ ?_ _) ?_) <;> try first | omega | assumption) | refine ny ?_ | refine WA_block ?_ | (refine uC1_123_2 ?_; refine ⟨by kernel_rfl, ?_⟩) | (refine g_d ?_; (first | refine d_fnY (babs_c _ ?_ ?_ _) ?_) <;> try first | omega | assumption)))
  · have hm := tmod_bd p q ⟨hp1, hp2⟩ (by assumption)
    exact next_ hL (q, p.tmod q) ⟨⟨hq1, hq2⟩, hm.1, (gcd_tmod p q).trans hg⟩ hm.2
  all_goals ((refine r_es hQ ?_; try with_reducible rfl); have hq0 : q = 0 := by omega)
  all_goals (subst hq0; rw [← hg]; simp)
end Go.Proofs.YtihbeoplchiikaaGreatDoor
/- contracts: fractions -/
namespace Go.Proofs.YtihbeoplchiikaaGreatDoor
open Go.RowKit
attribute [local irreducible] WA WOs WDs WAn qThen qBlock tput
set_option maxHeartbeats 1000000
set_option maxRecDepth 20000
set_option linter.unusedSimpArgs false
set_option linter.unusedVariables false
abbrev B64 (n : Int) : Prop := -9223372036854775807 ≤ n ∧ n ≤ 9223372036854775807

theorem acheck_c (n d : Int) (h1 : B64 n) (h2 : B64 d) (m : Mem) : Gives Tryz.prog 68 [.agg [.int .i64 n, .int .i64 d]] m (.int .i64 (frErr n d)) := by
  refine Gives_in Tryz.func68 rfl Tryz.ntmps68 Tryz.results68 (by kernel_rfl) (by simp) rfl fun Q hQ => ?_
  (repeat' (first | (refine sx ?_ ?_ <;> intro h <;> first | (exfalso; omega) | skip) | (refine na ?_; (first | refine s_fn (agcd_c _ _ ?_ ?_ ?_ ?_ _) ?_ | refine nb (awithin_c _ _ _) ?_) <;> try first | omega | assumption) | refine ny ?_ | refine WA_block ?_))
  all_goals ((refine r_es hQ ?_; try with_reducible rfl))
  all_goals (unfold frErr; simp only [V.int.injEq, true_and])
  all_goals first
    | (rw [if_pos (by omega)]; done)
    | (rw [if_neg (by omega)]; first | (rw [if_pos (by omega)]; done) | (rw [if_neg (by omega)]; done))
    | skip

theorem blowest_c (n d : Int) (h1 : B64 n) (h2 : B64 d) (m : Mem) : Gives Tryz.prog 132 [.agg [.int .i64 n, .int .i64 d]] m (.bool (decide (1 ≤ d ∧ (Int.gcd n d : Int) = 1))) := by
  refine Gives_in Tryz.func132 rfl Tryz.ntmps132 Tryz.results132 (by kernel_rfl) (by simp) rfl fun Q hQ => ?_
  (repeat' (first | (refine sx ?_ ?_ <;> intro h <;> first | (exfalso; omega) | skip) | (refine na ?_; (first | refine s_fn (bgcd_c _ _ ?_ ?_ ?_ ?_ _) ?_) <;> try first | omega | assumption) | refine ny ?_ | refine WA_block ?_))
  all_goals ((refine r_es hQ ?_; try with_reducible rfl))
  all_goals (first | exact congrArg V.bool (decide_eq_true (by first | omega | simp_all)).symm | exact congrArg V.bool (decide_eq_false (by first | omega | simp_all)).symm | exact congrArg V.bool (decide_eq_decide.2 (by omega)))

theorem rSmall_c (n d : Int) (m : Mem) : Gives Tryz.prog 104 [.agg [.int .i64 n, .int .i64 d]] m (.bool (decide ((-1000000000 ≤ n ∧ n ≤ 1000000000) ∧ d ≤ 1000000000))) := by
  refine Gives_in Tryz.func104 rfl Tryz.ntmps104 Tryz.results104 (by kernel_rfl) (by simp) rfl fun Q hQ => ?_
  (repeat' (first | (refine sx ?_ ?_ <;> intro h <;> first | (exfalso; omega) | skip) | (refine na ?_; (first | refine nb (bwithin_c _ _ _) ?_) <;> try first | omega | assumption) | refine ny ?_ | refine WA_block ?_))
  all_goals ((refine r_es hQ ?_; try with_reducible rfl))
  all_goals (first | exact congrArg V.bool (decide_eq_true (by first | omega | simp_all)).symm | exact congrArg V.bool (decide_eq_false (by first | omega | simp_all)).symm | exact congrArg V.bool (decide_eq_decide.2 (by omega)))

theorem rcheckfrac_c (n d : Int) (h1 : B64 n) (h2 : B64 d) (m : Mem) : Gives Tryz.prog 130 [.agg [.int .i64 n, .int .i64 d]] m (.int .i64 (frErr n d)) := by
  refine Gives_in Tryz.func130 rfl Tryz.ntmps130 Tryz.results130 (by kernel_rfl) (by simp) rfl fun Q hQ => ?_
  (repeat' (first | (refine sx ?_ ?_ <;> intro h <;> first | (exfalso; omega) | skip) | (refine na ?_; (first | refine nb (blowest_c _ _ h1 h2) ?_ | refine nb (rSmall_c _ _) ?_) <;> try first | omega | assumption) | refine ny ?_ | refine WA_block ?_))
  all_goals ((refine r_es hQ ?_; try with_reducible rfl))
  all_goals (unfold frErr; simp only [V.int.injEq, true_and])
  all_goals first
    | (rw [if_pos (by omega)]; done)
    | (rw [if_neg (by omega)]; first | (rw [if_pos (by omega)]; done) | (rw [if_neg (by omega)]; done))
    | skip

theorem acompare_r (a b c d : Int) (h1 : -1000000000000000000 ≤ a * d ∧ a * d ≤ 1000000000000000000) (h2 : -1000000000000000000 ≤ c * b ∧ c * b ≤ 1000000000000000000) (m : Mem) : Gives Tryz.prog 58 [.agg [.int .i64 a, .int .i64 b], .agg [.int .i64 c, .int .i64 d]] m (.int .i64 (cmpI (a * d) (c * b))) := by
  refine Gives_in Tryz.func58 rfl Tryz.ntmps58 Tryz.results58 (by kernel_rfl) (by simp) rfl fun Q hQ => ?_
  (repeat' (first | (refine sx ?_ ?_ <;> intro h <;> first | (exfalso; omega) | skip) | (refine na ?_; (first | refine nb (ccompare_c _ _) ?_) <;> try first | omega | assumption) | refine ny ?_ | refine WA_block ?_))
  all_goals (refine r_es hQ ?_; try with_reducible rfl)
theorem uC2_105_1 {N : Nat} {l : List Oper} {t : List (Nat × V)} {m : Mem} {Q : Exit → List (Nat × V) → Mem → Prop} (h : RgN Tryz.prog N l t m Q (fun i => if i == 1 || i == 3 || i == 6 || i == 8 then .q else .p) [.one 0, .one 1, .one 2, .one 3, .one 4, .one 5, .one 6, .one 7, .one 8, .one 9, .one 10, .one 11]) : WA Tryz.prog N (.region 1 l.toArray true) t m Q := d_rgN h
theorem bcmp_r (a b c d : Int) (h1 : -1000000000000000000 ≤ a * d ∧ a * d ≤ 1000000000000000000) (h2 : -1000000000000000000 ≤ c * b ∧ c * b ≤ 1000000000000000000) (m : Mem) : Gives Tryz.prog 105 [.agg [.int .i64 a, .int .i64 b], .agg [.int .i64 c, .int .i64 d]] m (.int .i64 (cmpI (a * d) (c * b))) := by
  refine Gives_in Tryz.func105 rfl Tryz.ntmps105 Tryz.results105 (by kernel_rfl) (by simp) rfl fun Q hQ => ?_
  (repeat' (first | (refine sx ?_ ?_ <;> intro h <;> first | (exfalso; omega) | skip) | refine ny ?_ | refine WA_block ?_ | (refine uC2_105_1 ?_; refine ⟨by kernel_rfl, ?_⟩)))
  all_goals ((refine r_es hQ ?_; try with_reducible rfl); unfold cmpI; simp only [V.int.injEq, true_and]; repeat (first | rw [if_pos (by assumption)] | rw [if_neg (by assumption)]))
def cmpQ (p q : Rat) : Int := if p < q then -1 else if q < p then 1 else 0
theorem cmpQ_int (p q : Rat) : cmpI (p.num * q.den) (q.num * p.den) = cmpQ p q := by
  unfold cmpI cmpQ
  by_cases h1 : p < q
  · rw [if_pos h1, if_pos ((cmp_lt p q).2 h1)]
  · rw [if_neg h1, if_neg (fun h => h1 ((cmp_lt p q).1 h))]
    by_cases h2 : q < p
    · rw [if_pos h2, if_pos ((cmp_lt q p).2 h2)]
    · rw [if_neg h2, if_neg (fun h => h2 ((cmp_lt q p).1 h))]
theorem sm_prod {p q : Rat} (hp : sm p) (hq : sm q) : -1000000000000000000 ≤ p.num * (q.den : Int) ∧ p.num * (q.den : Int) ≤ 1000000000000000000 := by
  obtain ⟨a1, a2, a3⟩ := hp
  obtain ⟨b1, b2, b3⟩ := hq
  have := den_pos' q
  exact sm_mul ⟨a1, a2⟩ ⟨by omega, b3⟩
theorem acompare_c (p q : Rat) (hp : sm p) (hq : sm q) (m : Mem) : Gives Tryz.prog 58 [.agg [.int .i64 (Rat.num (p)), .int .i64 ((Rat.den (p) : Nat) : Int)], .agg [.int .i64 (Rat.num (q)), .int .i64 ((Rat.den (q) : Nat) : Int)]] m (.int .i64 (cmpQ p q)) := by
  rw [← cmpQ_int]
  exact acompare_r _ _ _ _ (sm_prod hp hq) (sm_prod hq hp) m
theorem bcmp_c (p q : Rat) (hp : sm p) (hq : sm q) (m : Mem) : Gives Tryz.prog 105 [.agg [.int .i64 (Rat.num (p)), .int .i64 ((Rat.den (p) : Nat) : Int)], .agg [.int .i64 (Rat.num (q)), .int .i64 ((Rat.den (q) : Nat) : Int)]] m (.int .i64 (cmpQ p q)) := by
  rw [← cmpQ_int]
  exact bcmp_r _ _ _ _ (sm_prod hp hq) (sm_prod hq hp) m
theorem B64_num {q : Rat} (h : sm q) : B64 q.num := by obtain ⟨h1, h2, h3⟩ := h; constructor <;> omega
theorem B64_den {q : Rat} (h : sm q) : B64 (q.den : Int) := by obtain ⟨h1, h2, h3⟩ := h; have := den_pos' q; constructor <;> omega
/-- what a fraction brought to lowest terms is bounded by -/
theorem fit_bd {n d : Int} (hd : d ≠ 0) (hn : B64 n) (hd2 : B64 d) : B64 (Rat.divInt n d).num ∧ B64 ((Rat.divInt n d).den : Int) ∧ 1 ≤ (Int.gcd n d : Int) ∧ (Int.gcd n d : Int) ≤ 9223372036854775807 := by
  have hg : 0 < (Int.gcd n d : Int) := by
    have := Int.gcd_pos_iff.2 (Or.inr hd : n ≠ 0 ∨ d ≠ 0)
    omega
  have h1 : (n.tdiv (if d < 0 then -(Int.gcd n d : Int) else Int.gcd n d)).natAbs ≤ n.natAbs := by
    rw [Int.natAbs_tdiv]; exact Nat.div_le_self _ _
  have h2 : (d.tdiv (if d < 0 then -(Int.gcd n d : Int) else Int.gcd n d)).natAbs ≤ d.natAbs := by
    rw [Int.natAbs_tdiv]; exact Nat.div_le_self _ _
  rw [fit_num hd, fit_den hd]
  have h3 : Int.gcd n d ≤ d.natAbs := Nat.le_of_dvd (by omega) (Int.gcd_dvd_natAbs_right n d)
  unfold B64 at *
  omega
end Go.Proofs.YtihbeoplchiikaaGreatDoor
/- contracts: names -/
namespace Go.Proofs.YtihbeoplchiikaaGreatDoor
open Go.RowKit
attribute [local irreducible] WA WOs WDs WAn qThen qBlock tput
set_option maxHeartbeats 1000000
set_option maxRecDepth 20000
set_option linter.unusedSimpArgs false
set_option linter.unusedVariables false
def byt (s : List UInt8) (i : Nat) : Int := ((s.getD i 0).toNat : Int)
def bytB (s : List UInt8) : List (List V) := s.map fun b => [V.int .u8 (b.toNat : Int)]
theorem bytB_length {s : List UInt8} : (bytB s).length = s.length := by simp [bytB]
theorem byt_get {s : List UInt8} {i : Nat} (h : i < s.length) : s[i]? = some (s.getD i 0) := by
  rw [List.getD_eq_getElem?_getD, List.getElem?_eq_getElem h]; rfl
theorem bytB_get {s : List UInt8} {i : Nat} (h : i < s.length) : (bytB s)[i]? = some [V.int .u8 (byt s i)] := by
  unfold bytB byt; rw [List.getElem?_map, byt_get h]; rfl
def letP (c : Int) : Prop := (97 ≤ c ∧ c ≤ 122) ∨ (65 ≤ c ∧ c ≤ 90)
def digP (c : Int) : Prop := 48 ≤ c ∧ c ≤ 57
instance (c : Int) : Decidable (letP c) := inferInstanceAs (Decidable (_ ∨ _))
instance (c : Int) : Decidable (digP c) := inferInstanceAs (Decidable (_ ∧ _))
def okC (s : List UInt8) (i : Nat) : Prop := letP (byt s i) ∨ (i ≠ 0 ∧ (digP (byt s i) ∨ byt s i = 45))
instance (s : List UInt8) (i : Nat) : Decidable (okC s i) := inferInstanceAs (Decidable (_ ∨ _))
/-- is a text a name -/
def nameP (s : List UInt8) : Prop := 1 ≤ s.length ∧ s.length ≤ 12 ∧ ∀ i, i < s.length → okC s i
instance (s : List UInt8) : Decidable (nameP s) := inferInstanceAs (Decidable (_ ∧ _ ∧ _))
theorem nameP_bad {s : List UInt8} {i : Nat} (h : i < s.length) (hn : ¬ okC s i) : decide (nameP s) = false := decide_eq_false fun h1 => hn (h1.2.2 i h)
theorem str_eq_nil {s : List UInt8} : (s = []) ↔ s.length = 0 := by simp

theorem aisname_c (s : List UInt8) (hs : s.length ≤ 1000) (m : Mem) : Gives Tryz.prog 47 [.str s] m (.bool (decide (nameP s))) := by
  have hln := bytB_length (s := s)
  have hgi := hln
  refine Gives_in Tryz.func47 rfl Tryz.ntmps47 Tryz.results47 (by kernel_rfl) (by simp) rfl fun Q hQ => ?_
  (have FX := And.intro hln hgi; repeat' (first | (refine sx ?_ ?_ <;> intro h <;> first | (exfalso; omega) | skip) | refine ny ?_ | refine WA_block ?_))
  refine s_cv ?_ (by first | exact lk_ | fail) (Nat.le_trans hs (by decide))
  change WOs _ _ _ _ ((7, .lst (bytB s)) :: _) _ _
  (have FX := And.intro hln hgi; repeat' (first | (refine sx ?_ ?_ <;> intro h <;> first | (exfalso; omega) | skip) | refine ny ?_ | refine WA_block ?_))
  refine WA_while (σ := Nat) [0, 2, 7, 8, 9] (fun i => [.str s, .bool false, .lst (bytB s), .int .i64 s.length, .int .i64 i]) (fun _ => lend m ++ []) (fun i => i ≤ s.length ∧ ∀ j, j < i → okC s j) (fun i => s.length - i) 0 ⟨Nat.zero_le _, fun j h => absurd h (Nat.not_lt_zero _)⟩ tv_ rfl ?_
  rintro i ⟨hi, hj⟩ L hL
  simp only [zipT]
  clear FX
  rcases Nat.lt_or_ge i s.length with hlt | hge
  · have hgi := bytB_get hlt
    have hok : okC s i ↔ (letP (byt s i) ∨ (i ≠ 0 ∧ (digP (byt s i) ∨ byt s i = 45))) := Iff.rfl
    unfold letP digP at hok
    (have FX := And.intro hln hgi; repeat' (first | (refine sx ?_ ?_ <;> intro h <;> first | (exfalso; omega) | skip) | refine ny ?_ | refine WA_block ?_))
    all_goals (try (exfalso; omega))
    all_goals try
      ((refine r_es hQ ?_; try with_reducible rfl)
       exact congrArg V.bool (nameP_bad hlt (fun h => by have := hok.1 h; omega)).symm)
    all_goals (refine next_ hL (i + 1) ⟨by omega, fun j h => ?_⟩ (by omega))
    all_goals (rcases Nat.lt_or_ge j i with h2 | h2)
    all_goals first
      | exact hj j h2
      | (obtain rfl : j = i := by omega
         exact hok.2 (by omega))
  · have e : i = s.length := by omega
    subst e
    have hgi := hln
    have hnm : nameP s ↔ (1 ≤ s.length ∧ s.length ≤ 12) := ⟨fun h => ⟨h.1, h.2.1⟩, fun h => ⟨h.1, h.2, hj⟩⟩
    have hne : s = [] ↔ s.length = 0 := str_eq_nil
    (have FX := And.intro hln hgi; repeat' (first | (refine sx ?_ ?_ <;> intro h <;> first | (exfalso; omega) | skip) | refine ny ?_ | refine WA_block ?_))
    all_goals (try (exfalso; omega))
    all_goals ((refine r_es hQ ?_; try with_reducible rfl))
    all_goals (clear hQ hL; simp only [hne] at *)
    all_goals first
      | exact congrArg V.bool (decide_eq_true (hnm.2 (by omega))).symm
      | exact congrArg V.bool (decide_eq_false (fun h => by have := hnm.1 h; omega)).symm

theorem bisletter_c (c : Int) (m : Mem) : Gives Tryz.prog 60 [.int .u8 c] m (.bool (decide (letP c))) := by
  refine Gives_in Tryz.func60 rfl Tryz.ntmps60 Tryz.results60 (by kernel_rfl) (by simp) rfl fun Q hQ => ?_
  (repeat' (first | (refine sx ?_ ?_ <;> intro h <;> first | (exfalso; omega) | skip) | refine ny ?_ | refine WA_block ?_))
  all_goals ((refine r_es hQ ?_; try with_reducible rfl); unfold letP)
  all_goals (first | exact congrArg V.bool (decide_eq_true (by first | omega | simp_all)).symm | exact congrArg V.bool (decide_eq_false (by first | omega | simp_all)).symm | exact congrArg V.bool (decide_eq_decide.2 (by omega)))

theorem bisdigit_c (c : Int) (m : Mem) : Gives Tryz.prog 61 [.int .u8 c] m (.bool (decide (digP c))) := by
  refine Gives_in Tryz.func61 rfl Tryz.ntmps61 Tryz.results61 (by kernel_rfl) (by simp) rfl fun Q hQ => ?_
  (repeat' (first | (refine sx ?_ ?_ <;> intro h <;> first | (exfalso; omega) | skip) | refine ny ?_ | refine WA_block ?_))
  all_goals ((refine r_es hQ ?_; try with_reducible rfl); unfold digP)
  all_goals (first | exact congrArg V.bool (decide_eq_true (by first | omega | simp_all)).symm | exact congrArg V.bool (decide_eq_false (by first | omega | simp_all)).symm | exact congrArg V.bool (decide_eq_decide.2 (by omega)))

theorem bisname_c (s : List UInt8) (m : Mem) : Gives Tryz.prog 32 [.str s] m (.bool (decide (nameP s))) := by
  rcases Nat.eq_zero_or_pos s.length with hz | hz
  · have hgi := hz
    refine Gives_in Tryz.func32 rfl Tryz.ntmps32 Tryz.results32 (by kernel_rfl) (by simp) rfl fun Q hQ => ?_
    (have FX := hgi; repeat' (first | (refine sx ?_ ?_ <;> intro h <;> first | (exfalso; omega) | skip) | (refine na ?_; (first | refine nb (bisletter_c _) ?_ | refine nb (bisdigit_c _) ?_) <;> try first | omega | assumption) | refine ny ?_ | refine WA_block ?_))
    all_goals (try (exfalso; omega))
    all_goals ((refine r_es hQ ?_; try with_reducible rfl))
    all_goals (exact congrArg V.bool (decide_eq_false (fun h => by have := h.1; omega)).symm)
  · have hgi : s[0]? = some (s.getD 0 0) := byt_get hz
    have hbd : byt s 0 = ((s.getD 0 0).toNat : Int) := rfl
    have hn0 : nameP s → letP ((s.getD 0 0).toNat : Int) := fun hn => by
      rcases hn.2.2 0 hz with h2 | h2
      · exact h2
      · exact absurd rfl h2.1
    refine Gives_in Tryz.func32 rfl Tryz.ntmps32 Tryz.results32 (by kernel_rfl) (by simp) rfl fun Q hQ => ?_
    (have FX := hgi; repeat' (first | (refine sx ?_ ?_ <;> intro h <;> first | (exfalso; omega) | skip) | (refine na ?_; (first | refine nb (bisletter_c _) ?_ | refine nb (bisdigit_c _) ?_) <;> try first | omega | assumption) | refine ny ?_ | refine WA_block ?_))
    all_goals try
      ((refine r_es hQ ?_; try with_reducible rfl)
       exact congrArg V.bool (decide_eq_false (fun hn => by first | (have h1 := hn.2.1; omega) | exact absurd (hn0 hn) (by assumption))).symm)
    have h0 : letP ((s.getD 0 0).toNat : Int) := by assumption
    have h12 : s.length ≤ 12 := by omega
    refine WA_while (σ := Nat) [0, 2, 3] (fun i => [.str s, .bool false, .int .i64 i]) (fun _ => lend m ++ []) (fun i => i ≤ s.length ∧ ∀ j, j < i → okC s j) (fun i => s.length - i) 0 ⟨Nat.zero_le _, fun j h => absurd h (Nat.not_lt_zero _)⟩ tv_ rfl ?_
    rintro i ⟨hi, hj⟩ L hL
    simp only [zipT]
    clear FX hgi
    rcases Nat.lt_or_ge i s.length with hlt | hge
    · have hgi := byt_get hlt
      have hbi : byt s i = ((s.getD i 0).toNat : Int) := rfl
      have hok : okC s i ↔ (letP ((s.getD i 0).toNat : Int) ∨ (i ≠ 0 ∧ (digP ((s.getD i 0).toNat : Int) ∨ ((s.getD i 0).toNat : Int) = 45))) := Iff.rfl
      have hz0 : i = 0 → letP ((s.getD i 0).toNat : Int) := fun h => by subst h; exact h0
      (have FX := hgi; repeat' (first | (refine sx ?_ ?_ <;> intro h <;> first | (exfalso; omega) | skip) | (refine na ?_; (first | refine nb (bisletter_c _) ?_ | refine nb (bisdigit_c _) ?_) <;> try first | omega | assumption) | refine ny ?_ | refine WA_block ?_))
      all_goals (try (exfalso; omega))
      all_goals try
        ((refine r_es hQ ?_; try with_reducible rfl)
         exact congrArg V.bool (nameP_bad hlt (fun h => by have := hok.1 h; grind)).symm)
      all_goals (refine next_ hL (i + 1) ⟨by omega, fun j h => ?_⟩ (by omega))
      all_goals (rcases Nat.lt_or_ge j i with h2 | h2)
      all_goals first
        | exact hj j h2
        | (obtain rfl : j = i := by omega
           exact hok.2 (by grind))
    · have e : i = s.length := by omega
      subst e
      have hgi := hbd
      (have FX := hgi; repeat' (first | (refine sx ?_ ?_ <;> intro h <;> first | (exfalso; omega) | skip) | (refine na ?_; (first | refine nb (bisletter_c _) ?_ | refine nb (bisdigit_c _) ?_) <;> try first | omega | assumption) | refine ny ?_ | refine WA_block ?_))
      all_goals (try (exfalso; omega))
      all_goals ((refine r_es hQ ?_; try with_reducible rfl))
      all_goals (exact congrArg V.bool (decide_eq_true ⟨hz, h12, hj⟩).symm)
end Go.Proofs.YtihbeoplchiikaaGreatDoor
