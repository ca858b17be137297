/- contracts: numbers of any size, times a digit -/
import Derived.Test.YtdkkhfkplpopdaaDoorK1
import Derived.Test.YtdkkhfkplpopdaaDoorYA
import Derived.Laws.MathBits
import Derived.Laws.Externs
set_option linter.unusedSimpArgs false
set_option linter.unusedVariables false
namespace Go.Proofs.YtdkkhfkplpopdaaDoor
open Go.RowKit
attribute [local irreducible] WA WOs WDs WAn qThen qBlock tput
set_option maxHeartbeats 1000000
set_option maxRecDepth 20000
set_option linter.unusedSimpArgs false
set_option linter.unusedVariables false
theorem shr32 {m : Mem} {z : Int} (h : 0 ≤ z) : evB Tryd.prog m .shr 57 (.int .u64 z) (.int .u64 32) = some (True, .int .u64 (z / 4294967296), m) := by
  have e : z.fdiv (2 ^ (min (32 : Int).toNat IntKind.u64.bits)) = z / 4294967296 := by
    rw [Int.fdiv_eq_ediv_of_nonneg z (by decide)]
    rfl
  have q : evEq Tryd.prog .shr 57 (.int .u64 z) (.int .u64 32) = none := rfl
  unfold evB
  rw [q]
  simp only [evBin, e]
  simp
theorem and32 {z : Int} (h0 : 0 ≤ z) (h1 : z < 18446744073709551616) : bits .and .u64 z 4294967295 = z % 4294967296 := and_low32 z h0 h1
theorem mul_hi (x1 x0 y1 y0 : Int) (b1 : 0 ≤ x1 ∧ x1 ≤ 4294967295) (b2 : 0 ≤ x0 ∧ x0 ≤ 4294967295) (b3 : 0 ≤ y1 ∧ y1 ≤ 4294967295) (b4 : 0 ≤ y0 ∧ y0 ≤ 4294967295) : x1 * y1 + (x1 * y0 + x0 * y0 / 4294967296) / 4294967296 + ((x1 * y0 + x0 * y0 / 4294967296) % 4294967296 + x0 * y1) / 4294967296 = (x1 * 4294967296 + x0) * (y1 * 4294967296 + y0) / 18446744073709551616 := by
  have pA := prod_bound x1 y1 b1.1 b1.2 b3.1 b3.2
  have pB := prod_bound x1 y0 b1.1 b1.2 b4.1 b4.2
  have pC := prod_bound x0 y0 b2.1 b2.2 b4.1 b4.2
  have pD := prod_bound x0 y1 b2.1 b2.2 b3.1 b3.2
  rw [split_mul]
  generalize x1 * y1 = A at *
  generalize x1 * y0 = B at *
  generalize x0 * y0 = C at *
  generalize x0 * y1 = D at *
  omega

theorem mmul64_c (x y : Int) (hx0 : 0 ≤ x) (hx : x < 18446744073709551616) (hy0 : 0 ≤ y) (hy : y < 18446744073709551616) (m : Mem) : Gives Tryd.prog 31 [.int .u64 x, .int .u64 y] m (.tup [.int .u64 (x * y / 18446744073709551616), .int .u64 (x * y % 18446744073709551616)]) := by
  have hsh := fun (m : Mem) (z : Int) h => shr32 (m := m) (z := z) h
  have han := fun (z : Int) h0 h1 => and32 (z := z) h0 h1
  have b1 : 0 ≤ x / 4294967296 ∧ x / 4294967296 ≤ 4294967295 := by omega
  have b2 : 0 ≤ x % 4294967296 ∧ x % 4294967296 ≤ 4294967295 := by omega
  have b3 : 0 ≤ y / 4294967296 ∧ y / 4294967296 ≤ 4294967295 := by omega
  have b4 : 0 ≤ y % 4294967296 ∧ y % 4294967296 ≤ 4294967295 := by omega
  have pA := prod_bound _ _ b1.1 b1.2 b3.1 b3.2
  have pB := prod_bound _ _ b1.1 b1.2 b4.1 b4.2
  have pC := prod_bound _ _ b2.1 b2.2 b4.1 b4.2
  have pD := prod_bound _ _ b2.1 b2.2 b3.1 b3.2
  refine Gives_in Tryd.func31 rfl Tryd.ntmps31 Tryd.results31 (by kernel_rfl) (by simp) rfl fun Q hQ => ?_
  (have FX := And.intro hsh han; repeat' (first | (refine sx ?_ ?_ <;> intro h <;> first | (exfalso; omega) | skip) | refine ny ?_ | refine WA_block ?_))
  all_goals (refine r_es hQ ?_; try with_reducible rfl)
  have e := mul_hi _ _ _ _ b1 b2 b3 b4
  have ex : x / 4294967296 * 4294967296 + x % 4294967296 = x := by omega
  have ey : y / 4294967296 * 4294967296 + y % 4294967296 = y := by omega
  rw [ex, ey] at e
  rw [← e, IntKind.wrap_u64]
theorem real_args {w : World} {ρ : List Re} {m : Mem} {args : List V} {xs : Array Value} (hA : RelAs w ρ m args xs) (ha : detL args = true) : xs = (args.map V.real).toArray := by
  apply Array.ext
  · simp; exact hA.1.symm
  · intro i h1 h2
    have hi : i < args.length := by rw [hA.1]; exact h1
    have e1 : args[i]? = some args[i] := List.getElem?_eq_getElem hi
    have hd := detL_mem ha _ (List.getElem_mem hi)
    have := det_eq (real_rel (w := w) (ρ := ρ) (B := bad m ρ) hd) hd (hA.2 i _ _ e1 (Array.getElem?_eq_getElem h1))
    rw [this]; simp
/-- the sum of two digits and no carry, which the model does at once -/
theorem madd64_x (x y : Int) (hx : 0 ≤ x) (hy : 0 ≤ y) (m : Mem) : ExtA Tryd.prog 34 [.int .u64 x, .int .u64 y, .int .u64 0] m fun v => v = .tup [.int .u64 ((x + y) % 18446744073709551616), .int .u64 ((x + y) / 18446744073709551616)] := by
  intro w ρ xs hM hA
  have hxs : xs = #[.int .u64 x, .int .u64 y, .int .u64 0] := real_args (args := [.int .u64 x, .int .u64 y, .int .u64 0]) hA rfl
  subst hxs
  refine ⟨.tuple #[.int .u64 ((x + y) % 18446744073709551616), .int .u64 ((x + y) / 18446744073709551616)], _, ?_, rfl, ?_⟩
  · rw [run_callFunc_extern Tryd.func34 (by kernel_rfl) (by kernel_rfl) (by kernel_rfl) (e := add64Entry) (by kernel_rfl), run_add64 x y 0 hx hy (by decide) (by decide)]
    simp only [Result.andThen, Int.add_zero]
  · refine .tup _ _ rfl ?_
    intro i c v h1 h2
    match i with
    | 0 => cases h1; cases h2; exact .int _ _
    | 1 => cases h1; cases h2; exact .int _ _
    | i + 2 => simp at h1
def dsV (l : List Nat) : List (List V) := l.map fun d : Nat => [V.int .u64 (d : Int)]
theorem dsV_length {l : List Nat} : (dsV l).length = l.length := by simp [dsV]
theorem dsV_get {l : List Nat} {i : Nat} (h : i < l.length) : (dsV l)[i]? = some [V.int .u64 ((l.getD i 0 : Nat) : Int)] := by
  simp [dsV, List.getElem?_eq_getElem h, List.getD_eq_getElem?_getD]
theorem dsV_plain (l : List Nat) : plainLL (dsV l) = true := by
  induction l with
  | nil => rfl
  | cons d r ih => simpa [dsV, plainLL, plainL, V.plain] using ih
theorem dsV_app (l k : List Nat) : dsV (l ++ k) = dsV l ++ dsV k := by simp [dsV]
/-- a number of any size -/
abbrev natV (v : Nat) : V := .lst (dsV (dig v))
def tmE (l : List Nat) (d i : Nat) : List TB := [.cells .own 57 1 ((dsV (tO l d i)).map (List.map TV.v))]
def tmS (l : List Nat) (d i : Nat) : List TV := [.v (.int .u64 d), .sl 0 i, .v (.int .u64 (tC l d i : Nat)), .v (.lst (dsV l)), .v (.int .i64 l.length), .v (.int .i64 i)]
theorem tmE_ok {l : List Nat} {d i : Nat} : (tmE l d i).all (TB.ok (tmE l d i).length) = true := by
  simp only [tmE, List.all_cons, TB.ok, TV.okT, List.all_nil, Bool.and_true, Bool.and_self, tv_ok, List.length_cons, List.length_nil]
theorem tmS_ok {l : List Nat} {d i : Nat} : (tmS l d i).all (TV.okT (tmE l d i).length) = true := by simp [tmS, tmE, TV.okT]

theorem ntimes_l (l : List Nat) (d : Nat) (hl : ∀ i, l.getD i 0 < 18446744073709551616) (hd : d < 18446744073709551616) (hlb : l.length ≤ 100000) (m : Mem) : Gives Tryd.prog 32 [.lst (dsV l), .int .u64 d] m (.lst (dsV (tmL l d))) := by
  have hlen := dsV_length (l := l)
  have hll := hlen
  have hlt := hlen
  have hmu := hlen
  have hadd := hlen
  have hga := hlen
  have b3 := hlb
  refine CallA_in Tryd.func32 rfl Tryd.ntmps32 Tryd.results32 (by kernel_rfl) (by simp) fun Q hQ => ?_
  (have FX := And.intro hlen (And.intro hll (And.intro hlt (And.intro hga b3))); repeat' (first | (refine sx ?_ ?_ <;> intro h <;> first | (exfalso; omega) | skip) | (refine g_op ?_; refine g_call ?_; refine g_args ?_; (first | refine s_fn (hmu _) ?_ | refine s_ext (hadd _) ?_) <;> try first | omega | assumption) | refine ny ?_ | refine WA_block ?_))
  refine WA_whileJ (σ := Nat) (L := lend m) (X := [.cells .own 57 1 []]) [1, 5, 6, 17, 18, 19] (tmS l d) (tmE l d) (fun i => i ≤ l.length) (fun i => l.length - i) 0 [0] (Nat.zero_le _) ?_ rfl rfl (by decide) (by decide) (fun _ _ => tmS_ok) (fun _ _ => tmE_ok) ?_
  · simp only [tmS, tC, List.map_cons, List.map_nil, TV.inst, List.getD_cons_zero, List.getD_cons_succ]
    exact tv_
  rintro i hi1 B ⟨D, hB⟩ K hK
  clear FX hmu hadd hga b3
  have hll : (dsV (tO l d i)).length = i := by rw [dsV_length, tO_len]
  have hlt : (dsV (tO l d i)).take i = dsV (tO l d i) := List.take_of_length_le (by rw [hll]; exact Nat.le_refl _)
  rcases Nat.lt_or_ge i l.length with hi | hi
  · have hga := dsV_get hi
    have b1 := hl i
    have b2 := tC_lt hl hd i
    have b3 := tC_le hl hd i
    have hsu : dsV (tO l d (i + 1)) = dsV (tO l d i) ++ [[V.int .u64 (((l.getD i 0 * d + tC l d i) % 18446744073709551616 : Nat) : Int)]] := by rw [tO_succ, dsV_app]; rfl
    have hca : tC l d (i + 1) = (l.getD i 0 * d + tC l d i) / 18446744073709551616 := rfl
    have hmu := fun m => mmul64_c (l.getD i 0 : Nat) (d : Nat) (by omega) (by omega) (by omega) (by omega) m
    rw [← Int.natCast_mul] at hmu
    have hadd := fun m => madd64_x (((l.getD i 0 * d : Nat) : Int) % 18446744073709551616) (tC l d i : Nat) (by omega) (by omega) m
    simp only [tmS, tmE]
    simp only [List.map_cons, List.map_nil, TB.inst, TV.inst, tv_map, zipT, List.cons_append, List.nil_append, Nat.add_zero]
    generalize l.getD i 0 * d = p at *
    generalize tC l d i = c at *
    have hca2 : ((tC l d (i + 1) : Nat) : Int) = (p : Int) / 18446744073709551616 + ((p : Int) % 18446744073709551616 + (c : Int)) / 18446744073709551616 := by rw [hca]; omega
    have hsu2 : dsV (tO l d (i + 1)) = dsV (tO l d i) ++ [[V.int .u64 (((p : Int) % 18446744073709551616 + (c : Int)) % 18446744073709551616)]] := by rw [hsu]; congr 4; omega
    (have FX := And.intro hlen (And.intro hll (And.intro hlt (And.intro hga b3))); repeat' (first | (refine sx ?_ ?_ <;> intro h <;> first | (exfalso; omega) | skip) | (refine g_op ?_; refine g_call ?_; refine g_args ?_; (first | refine s_fn (hmu _) ?_ | refine s_ext (hadd _) ?_) <;> try first | omega | assumption) | refine ny ?_ | refine WA_block ?_))
    all_goals ((refine nextU_ hK (i + 1) [2] (hi) (by omega) ?_ (ht := ?_); (focus (simp only [tmE, hsu2, List.map_cons, List.map_nil, TB.inst, TV.inst, tv_map, List.cons_append, List.nil_append]; first | rfl | (simp [ptsV, ptV]; done) | (simp [hpsV, hpV]; done) | (simp [frsV, frV]; done) | (simp [txV]; done) | (simp [prtsV, prtV]; done))); (simp only [tmS, hca2, Int.natCast_add, Int.natCast_one, List.map_cons, List.map_nil, TV.inst, List.getD_cons_zero, List.getD_cons_succ]; exact tv_)))
  · obtain rfl : i = l.length := by omega
    have hmu := hlen
    have hadd := hlen
    have hga := hlen
    have b3 := hlb
    have hc := tC_lt hl hd l.length
    have hfin : 0 < tC l d l.length → dsV (tmL l d) = dsV (tO l d l.length) ++ [[V.int .u64 ((tC l d l.length : Nat) : Int)]] := fun h => by unfold tmL; rw [if_pos h, dsV_app]; rfl
    have hfin0 : ¬ 0 < tC l d l.length → dsV (tmL l d) = dsV (tO l d l.length) := fun h => by unfold tmL; rw [if_neg h]
    simp only [tmS, tmE]
    simp only [List.map_cons, List.map_nil, TB.inst, TV.inst, tv_map, zipT, List.cons_append, List.nil_append, Nat.add_zero]
    generalize tC l d l.length = c at *
    (have FX := And.intro hlen (And.intro hll (And.intro hlt (And.intro hga b3))); repeat' (first | (refine sx ?_ ?_ <;> intro h <;> first | (exfalso; omega) | skip) | (refine g_op ?_; refine g_call ?_; refine g_args ?_; (first | refine s_fn (hmu _) ?_ | refine s_ext (hadd _) ?_) <;> try first | omega | assumption) | refine ny ?_ | refine WA_block ?_))
    · have hln : (dsV (tO l d l.length) ++ [[V.int .u64 (c : Int)]]).length = l.length + 1 := by rw [List.length_append, hll]; rfl
      rw [← hfin (by omega)] at hln
      refine r_esA hQ (fin_sl (D := D) (j := 2) (es := dsV (tmL l d)) hB (by rw [hfin (by omega)]; rfl) (by rw [hln]; exact Nat.le_refl _) (by rw [List.take_of_length_le (by rw [hln]; exact Nat.le_refl _)]; exact dsV_plain _) ⟨?_, rfl⟩)
      rw [List.take_of_length_le (by rw [hln]; exact Nat.le_refl _)]
    · refine r_esA hQ (fin_sl (D := D) (j := 0) hB rfl (by rw [hll]; exact Nat.le_refl _) (by rw [hlt]; exact dsV_plain _) ⟨?_, rfl⟩)
      rw [hlt, hfin0 (by omega)]
theorem ntimes_c (v d : Nat) (hv : 1 ≤ v) (h1 : 1 ≤ d) (hd : d < 18446744073709551616) (hlb : (dig v).length ≤ 100000) (m : Mem) : Gives Tryd.prog 32 [natV v, .int .u64 d] m (natV (v * d)) := by
  have h := ntimes_l (dig v) d (dig_getD_lt v) hd hlb m
  rwa [tmL_dig hv h1 hd] at h
/-- how two numbers compare -/
theorem uK2_24_8 {N : Nat} {l : List Oper} {t : List (Nat × V)} {m : Mem} {Q : Exit → List (Nat × V) → Mem → Prop} (h : RgN Tryd.prog N l t m Q (fun i => if i == 3 || i == 7 then .q else .p) [.one 0, .one 1, .one 2, .one 3, .one 4, .one 5, .one 6, .one 7, .one 8, .one 9]) : WA Tryd.prog N (.region 8 l.toArray true) t m Q := d_rgN h
theorem uK2_24_10 {N : Nat} {l : List Oper} {t : List (Nat × V)} {m : Mem} {Q : Exit → List (Nat × V) → Mem → Prop} (h : RgN Tryd.prog N l t m Q (fun i => if i == 3 || i == 7 then .q else .p) [.one 0, .one 1, .one 2, .one 3, .one 4, .one 5, .one 6, .one 7, .one 8, .one 9]) : WA Tryd.prog N (.region 10 l.toArray true) t m Q := d_rgN h
theorem ncmp_c (v w : Nat) (hlv : (dig v).length ≤ 1000000) (hlw : (dig w).length ≤ 1000000) (m : Mem) : Gives Tryd.prog 24 [natV v, natV w] m (.int .i64 (cmpN v w)) := by
  have hl1 := dsV_length (l := dig v)
  have hl2 := dsV_length (l := dig w)
  have hg1 := hl1
  have hg2 := hl2
  have c1 := fun h => cmp_len (v := v) (w := w) h
  have c2 := fun h => cmp_len (v := w) (w := v) h
  refine Gives_in Tryd.func24 rfl Tryd.ntmps24 Tryd.results24 (by kernel_rfl) (by simp) rfl fun Q hQ => ?_
  (have FX := And.intro hl1 (And.intro hl2 (And.intro hg1 hg2)); repeat' (first | (refine sx ?_ ?_ <;> intro h <;> first | (exfalso; omega) | skip) | refine ny ?_ | refine WA_block ?_ | (refine uK2_24_8 ?_; refine ⟨by kernel_rfl, ?_⟩) | (refine uK2_24_10 ?_; refine ⟨by kernel_rfl, ?_⟩)))
  · (refine r_es hQ ?_; try with_reducible rfl)
    have := c1 (by omega)
    unfold cmpN
    rw [if_pos this]
  · (refine r_es hQ ?_; try with_reducible rfl)
    have := c2 (by omega)
    unfold cmpN
    rw [if_neg (by omega), if_pos this]
  · have hle : (dig v).length = (dig w).length := by omega
    refine WA_while (σ := Nat) [0, 1, 5] (fun i => [.lst (dsV (dig v)), .lst (dsV (dig w)), .int .i64 ((i : Int) - 1)]) (fun _ => lend m ++ []) (fun i => i ≤ (dig v).length ∧ (dig v).drop i = (dig w).drop i) (fun i => i) (dig v).length ⟨Nat.le_refl _, by rw [List.drop_length, hle, List.drop_length]⟩ tv_ rfl ?_
    rintro i ⟨hi, hd⟩ L hL
    simp only [zipT]
    clear FX hg1 hg2
    cases i with
    | zero =>
      have hg1 := hl1
      have hg2 := hl2
      (have FX := And.intro hl1 (And.intro hl2 (And.intro hg1 hg2)); repeat' (first | (refine sx ?_ ?_ <;> intro h <;> first | (exfalso; omega) | skip) | refine ny ?_ | refine WA_block ?_ | (refine uK2_24_8 ?_; refine ⟨by kernel_rfl, ?_⟩) | (refine uK2_24_10 ?_; refine ⟨by kernel_rfl, ?_⟩)))
      all_goals (try (exfalso; omega))
      all_goals (refine r_es hQ ?_; try with_reducible rfl)
      rw [List.drop_zero, List.drop_zero] at hd
      have := dig_inj hd
      subst this
      unfold cmpN
      simp
    | succ i =>
      have hg1 := dsV_get (l := dig v) (i := i) (by omega)
      have hg2 := dsV_get (l := dig w) (i := i) (by omega)
      have a1 := fun h => cmp_at hle (by omega) hd h
      have a2 := fun h => cmp_at hle.symm (by omega) hd.symm h
      have e0 : (((i + 1 : Nat) : Int) - 1) = (i : Int) := by omega
      simp only [e0]
      have hdd : (dig v).getD i 0 = (dig w).getD i 0 → (dig v).drop i = (dig w).drop i := fun h => by
        have x1 := List.drop_eq_getElem_cons (l := dig v) (i := i) (by omega)
        have x2 := List.drop_eq_getElem_cons (l := dig w) (i := i) (by omega)
        rw [x1, x2, hd]
        rw [List.getD_eq_getElem?_getD, List.getD_eq_getElem?_getD, List.getElem?_eq_getElem (by omega), List.getElem?_eq_getElem (by omega)] at h
        simp only [Option.getD_some] at h
        rw [h]
      generalize (dig v).getD i 0 = x at *
      generalize (dig w).getD i 0 = y at *
      (have FX := And.intro hl1 (And.intro hl2 (And.intro hg1 hg2)); repeat' (first | (refine sx ?_ ?_ <;> intro h <;> first | (exfalso; omega) | skip) | refine ny ?_ | refine WA_block ?_ | (refine uK2_24_8 ?_; refine ⟨by kernel_rfl, ?_⟩) | (refine uK2_24_10 ?_; refine ⟨by kernel_rfl, ?_⟩)))
      all_goals (try (exfalso; omega))
      · (refine r_es hQ ?_; try with_reducible rfl)
        have := a1 (by omega)
        unfold cmpN
        rw [if_pos this]
      · (refine r_es hQ ?_; try with_reducible rfl)
        have := a2 (by omega)
        unfold cmpN
        rw [if_neg (by omega), if_pos this]
      · exact next_ hL i ⟨by omega, hdd (by omega)⟩ (by omega)
end Go.Proofs.YtdkkhfkplpopdaaDoor
