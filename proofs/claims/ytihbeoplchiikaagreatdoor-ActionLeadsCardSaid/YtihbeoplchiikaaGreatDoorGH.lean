import Derived.Test.YtihbeoplchiikaaGreatDoorC28
set_option linter.unusedSimpArgs false
set_option linter.unusedVariables false
/- contracts: how many bits a small number has -/
namespace Go.Proofs.YtihbeoplchiikaaGreatDoor
open Go.RowKit
attribute [local irreducible] WA WOs WDs WAn qThen qBlock tput
set_option maxHeartbeats 1000000
set_option maxRecDepth 20000
set_option linter.unusedSimpArgs false
set_option linter.unusedVariables false
theorem evI_str {P : Program} {m : Mem} {T : TypeId} {k : IntKind} {n : Int} {s : List UInt8} {b : UInt8} (hT : strT P T = true) (h : s[n.toNat]? = some b) : evI P m T (.str s) (.int k n) = some (0 ≤ n, .int .u8 b.toNat, m) := by
  simp only [evI, evStrIdx, hT, if_true, h]
theorem u8w {n : Nat} (h : n ≤ 12) : IntKind.u8.wrap ((n : Nat) : Int) = n := by
  have hc : n = 0 ∨ n = 1 ∨ n = 2 ∨ n = 3 ∨ n = 4 ∨ n = 5 ∨ n = 6 ∨ n = 7 ∨ n = 8 ∨ n = 9 ∨ n = 10 ∨ n = 11 ∨ n = 12 := by omega
  rcases hc with rfl | rfl | rfl | rfl | rfl | rfl | rfl | rfl | rfl | rfl | rfl | rfl | rfl <;> rfl
def lenB (n : Nat) : UInt8 := [0, 1, 2, 2, 3, 3, 3, 3, 4, 4, 4, 4, 4].getD n 0

theorem mlen64_c (n : Nat) (h : n ≤ 12) (m : Mem) : Gives Tryz.prog 117 [.int .u64 n] m (.int .i64 ((lenB n).toNat : Int)) := by
  have hw := u8w h
  have hb := hw
  have hc : n = 0 ∨ n = 1 ∨ n = 2 ∨ n = 3 ∨ n = 4 ∨ n = 5 ∨ n = 6 ∨ n = 7 ∨ n = 8 ∨ n = 9 ∨ n = 10 ∨ n = 11 ∨ n = 12 := by omega
  refine Gives_in Tryz.func117 rfl Tryz.ntmps117 Tryz.results117 (by kernel_rfl) (by simp) rfl fun Q hQ => ?_
  (have FX := And.intro hw hb; repeat' (first | (refine sx ?_ ?_ <;> intro h <;> first | (exfalso; omega) | skip) | refine ny ?_ | refine WA_block ?_))
  all_goals (try (exfalso; omega))
  have hlb : (lenB n).toNat ≤ 4 := by rcases hc with rfl | rfl | rfl | rfl | rfl | rfl | rfl | rfl | rfl | rfl | rfl | rfl | rfl <;> decide
  refine g_op ?_
  refine s_ix (v := .int .u8 (lenB n).toNat) ?_ (hx := by first | exact lk_ | fail) (hy := by first | exact lk_ | fail) (hb := fun m => evI_str (b := lenB n) (by kernel_rfl) (by rcases hc with rfl | rfl | rfl | rfl | rfl | rfl | rfl | rfl | rfl | rfl | rfl | rfl | rfl <;> rfl)) (hp := Int.natCast_nonneg n)
  (have FX := And.intro hw hb; repeat' (first | (refine sx ?_ ?_ <;> intro h <;> first | (exfalso; omega) | skip) | refine ny ?_ | refine WA_block ?_))
  all_goals (try (exfalso; omega))
  all_goals (refine r_es hQ ?_; try with_reducible rfl)
  all_goals (rw [Int.zero_add])
end Go.Proofs.YtihbeoplchiikaaGreatDoor
/- contracts: the sort of events, from above -/
namespace Go.Proofs.YtihbeoplchiikaaGreatDoor
open Go.RowKit
attribute [local irreducible] WA WOs WDs WAn qThen qBlock tput
set_option maxHeartbeats 1000000
set_option maxRecDepth 20000
set_option linter.unusedSimpArgs false
set_option linter.unusedVariables false
attribute [local irreducible] smB cut sm
theorem uC31_97_17 {N : Nat} {l : List Oper} {t : List (Nat × V)} {m : Mem} {Q : Exit → List (Nat × V) → Mem → Prop} (h : RgN Tryz.prog N l t m Q (fun i => if i == 8 || i == 12 || i == 13 || i == 15 then .q else .p) [.one 0, .one 1, .one 2, .one 3, .one 4, .one 5, .one 6, .one 7, .one 8, .one 9, .one 10, .one 11, .one 12, .one 13, .one 14, .one 15, .one 16]) : WA Tryz.prog N (.region 17 l.toArray true) t m Q := d_rgN h
theorem pdq_w (b : Nat) (l : List Hp) (hn : NumL l) (hs : ∀ p ∈ l, sm p.2) (h0 : 1 ≤ l.length) (hl : l.length ≤ 12) (lim : Int) : CallW Tryz.prog 97 [.sl b l.length, .int .i64 0, .int .i64 l.length, .int .i64 lim, .clo (.func 74) [] []] b (.cells .own 99 3 (hpsV l)) (.cells .own 99 3 (hpsV (srtH l))) (.tup []) := by
  have h1 : l.length ≤ 1000 := by omega
  refine CallW_in (tvs := [.sl 0 l.length, .v (.int .i64 0), .v (.int .i64 l.length), .v (.int .i64 lim), .v (.clo (.func 74) [] [])]) (v := .tup []) (es' := hpsV (srtH l)) Tryz.func97 rfl Tryz.ntmps97 Tryz.results97 (by kernel_rfl) (by simp) (hpsV_flat _) rfl fun m Q hQ => ?_
  simp only [List.map_cons, List.map_nil, TV.inst]
  (repeat' (first | (refine sx ?_ ?_ <;> intro h <;> first | (exfalso; omega) | skip) | (refine na ?_; (first | refine s_fnW (inssort_w _ l hn hs h0 h1) ?_ | refine d_fnW (inssort_w _ l hn hs h0 h1) ?_ | refine grp_w (inssort_w _ l hn hs h0 h1) ?_) <;> try first | omega | assumption) | refine ny ?_ | refine WA_block ?_ | (refine uC31_97_17 ?_; refine ⟨by kernel_rfl, ?_⟩)))
  refine WA_rounds 1 ?_
  (repeat' (first | (refine sx ?_ ?_ <;> intro h <;> first | (exfalso; omega) | skip) | (refine na ?_; (first | refine s_fnW (inssort_w _ l hn hs h0 h1) ?_ | refine d_fnW (inssort_w _ l hn hs h0 h1) ?_ | refine grp_w (inssort_w _ l hn hs h0 h1) ?_) <;> try first | omega | assumption) | refine ny ?_ | refine WA_block ?_ | (refine uC31_97_17 ?_; refine ⟨by kernel_rfl, ?_⟩)))
  all_goals (try (exfalso; omega))
  all_goals (refine r_esW hQ ?_ ?_ <;> try with_reducible rfl)

theorem mlen_c (n : Nat) (h : n ≤ 12) (m : Mem) : Gives Tryz.prog 98 [.int .u64 n] m (.int .i64 ((lenB n).toNat : Int)) := by
  refine Gives_in Tryz.func98 rfl Tryz.ntmps98 Tryz.results98 (by kernel_rfl) (by simp) rfl fun Q hQ => ?_
  (repeat' (first | (refine sx ?_ ?_ <;> intro h <;> first | (exfalso; omega) | skip) | (refine na ?_; (first | refine nb (mlen64_c n h) ?_) <;> try first | omega | assumption) | refine ny ?_ | refine WA_block ?_))
  all_goals (refine r_es hQ ?_; try with_reducible rfl)

theorem asort_w (b : Nat) (l : List Hp) (hn : NumL l) (hs : ∀ p ∈ l, sm p.2) (h0 : 1 ≤ l.length) (hl : l.length ≤ 12) : CallW Tryz.prog 73 [.sl b l.length, .clo (.func 74) [] []] b (.cells .own 99 3 (hpsV l)) (.cells .own 99 3 (hpsV (srtH l))) (.tup []) := by
  refine CallW_in (tvs := [.sl 0 l.length, .v (.clo (.func 74) [] [])]) (v := .tup []) (es' := hpsV (srtH l)) Tryz.func73 rfl Tryz.ntmps73 Tryz.results73 (by kernel_rfl) (by simp) (hpsV_flat _) rfl fun m Q hQ => ?_
  simp only [List.map_cons, List.map_nil, TV.inst]
  (repeat' (first | (refine sx ?_ ?_ <;> intro h <;> first | (exfalso; omega) | skip) | (refine na ?_; (first | refine nb (mlen_c _ hl) ?_ | refine s_fnW (pdq_w _ l hn hs h0 hl _) ?_) <;> try first | omega | assumption) | refine ny ?_ | refine WA_block ?_))
  all_goals (try (exfalso; omega))
  all_goals (refine r_esW hQ ?_ ?_ <;> try with_reducible rfl)
theorem uC31_108_4 {N : Nat} {l : List Oper} {t : List (Nat × V)} {m : Mem} {Q : Exit → List (Nat × V) → Mem → Prop} (h : RgN Tryz.prog N l t m Q (fun i => if i == 8 || i == 13 || i == 14 then .q else .p) [.one 0, .one 1, .one 2, .one 3, .one 4, .one 5, .one 6, .one 7, .one 8, .one 9, .one 10, .one 11, .one 12, .one 13, .one 14, .one 15, .one 16]) : WA Tryz.prog N (.region 4 l.toArray true) t m Q := d_rgN h
theorem uC31_108_6 {N : Nat} {l : List Oper} {t : List (Nat × V)} {m : Mem} {Q : Exit → List (Nat × V) → Mem → Prop} (h : RgN Tryz.prog N l t m Q (fun i => if i == 15 || i == 17 then .w else if i == 9 || i == 13 then .q else .p) [.one 0, .one 1, .one 2, .one 3, .one 4, .one 5, .one 6, .one 7, .one 8, .one 9, .one 10, .one 11, .one 12, .one 13, .one 14, .one 15, .one 16, .one 17]) : WA Tryz.prog N (.region 6 l.toArray true) t m Q := d_rgN h
theorem insnil_c (m : Mem) : Gives Tryz.prog 108 [.nilsl, .int .i64 0, .int .i64 0, .clo (.func 74) [] []] m (.tup []) := by
  refine Gives_in Tryz.func108 rfl Tryz.ntmps108 Tryz.results108 (by kernel_rfl) (by simp) rfl fun Q hQ => ?_
  (repeat' (first | (refine sx ?_ ?_ <;> intro h <;> first | (exfalso; omega) | skip) | refine ny ?_ | refine WA_block ?_ | (refine uC31_108_4 ?_; refine ⟨by kernel_rfl, ?_⟩) | (refine uC31_108_6 ?_; refine ⟨by kernel_rfl, ?_⟩)))
  refine WA_rounds 1 ?_
  (repeat' (first | (refine sx ?_ ?_ <;> intro h <;> first | (exfalso; omega) | skip) | refine ny ?_ | refine WA_block ?_ | (refine uC31_108_4 ?_; refine ⟨by kernel_rfl, ?_⟩) | (refine uC31_108_6 ?_; refine ⟨by kernel_rfl, ?_⟩)))
  all_goals (try (exfalso; omega))
  all_goals (refine r_es hQ ?_; try with_reducible rfl)
theorem pdqnil_c (lim : Int) (m : Mem) : Gives Tryz.prog 97 [.nilsl, .int .i64 0, .int .i64 0, .int .i64 lim, .clo (.func 74) [] []] m (.tup []) := by
  refine Gives_in Tryz.func97 rfl Tryz.ntmps97 Tryz.results97 (by kernel_rfl) (by simp) rfl fun Q hQ => ?_
  (repeat' (first | (refine sx ?_ ?_ <;> intro h <;> first | (exfalso; omega) | skip) | (refine na ?_; (first | refine nb insnil_c ?_) <;> try first | omega | assumption) | refine ny ?_ | refine WA_block ?_ | (refine uC31_97_17 ?_; refine ⟨by kernel_rfl, ?_⟩) | (refine g_d ?_; (first | refine d_fnY (insnil_c _) ?_) <;> try first | omega | assumption)))
  refine WA_rounds 1 ?_
  (repeat' (first | (refine sx ?_ ?_ <;> intro h <;> first | (exfalso; omega) | skip) | (refine na ?_; (first | refine nb insnil_c ?_) <;> try first | omega | assumption) | refine ny ?_ | refine WA_block ?_ | (refine uC31_97_17 ?_; refine ⟨by kernel_rfl, ?_⟩) | (refine g_d ?_; (first | refine d_fnY (insnil_c _) ?_) <;> try first | omega | assumption)))
  all_goals (try (exfalso; omega))
  all_goals (refine r_es hQ ?_; try with_reducible rfl)
theorem asortnil_c (m : Mem) : Gives Tryz.prog 73 [.nilsl, .clo (.func 74) [] []] m (.tup []) := by
  have hk : ∀ m, Gives Tryz.prog 98 [.int .u64 0] m (.int .i64 ((lenB 0).toNat : Int)) := fun m => mlen_c 0 (by omega) m
  refine Gives_in Tryz.func73 rfl Tryz.ntmps73 Tryz.results73 (by kernel_rfl) (by simp) rfl fun Q hQ => ?_
  (repeat' (first | (refine sx ?_ ?_ <;> intro h <;> first | (exfalso; omega) | skip) | (refine na ?_; (first | refine nb hk ?_ | refine nb (pdqnil_c _) ?_) <;> try first | omega | assumption) | refine ny ?_ | refine WA_block ?_))
  all_goals (try (exfalso; omega))
  all_goals (refine r_es hQ ?_; try with_reducible rfl)
end Go.Proofs.YtihbeoplchiikaaGreatDoor
