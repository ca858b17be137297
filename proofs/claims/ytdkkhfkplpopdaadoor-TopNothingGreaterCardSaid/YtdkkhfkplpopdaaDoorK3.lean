/- contracts: powers, and the parts of a pitch -/
import Derived.Test.YtdkkhfkplpopdaaDoorK2
set_option linter.unusedSimpArgs false
set_option linter.unusedVariables false
namespace Go.Proofs.YtdkkhfkplpopdaaDoor
open Go.RowKit
attribute [local irreducible] WA WOs WDs WAn qThen qBlock tput
set_option maxHeartbeats 1000000
set_option maxRecDepth 20000
set_option linter.unusedSimpArgs false
set_option linter.unusedVariables false
theorem frz_ls {m : Mem} {L n : Nat} {es : List (List V)} (h : plainLL es = true) : frz m L n (.lst es) = some (.lst es) := frz_plain _ _ _ (by simpa [V.plain] using h) (by simp) (by simp) (by simp) (by simp)
theorem frzs_cons {f : V → Option V} {v v' : V} {vs vs' : List V} (h1 : f v = some v') (h2 : frzs f vs = some vs') : frzs f (v :: vs) = some (v' :: vs') := by simp [frzs, h1, h2]
theorem fin_pl {m0 D : Mem} {es : List (List V)} {R : V → Option Mem → Prop} (h : plainLL es = true) (hR : R (.lst es) none) : Fin m0 R (.lst es) (lend m0 ++ D) := .inr ⟨D, _, rfl, frz_plain _ _ _ (by simpa [V.plain] using h) (by simp) (by simp) (by simp) (by simp), hR⟩
def p0 (d base : Nat) : Nat := d * base

theorem npower_c (base n v : Nat) (hb : 1 ≤ base) (hb2 : base < 18446744073709551616) (hv : 1 ≤ v) (hn : n ≤ 50000) (hlb : (dig v).length + n ≤ 100000) (m : Mem) : Gives Tryd.prog 22 [.int .u64 base, .int .i64 n, natV v] m (natV (v * base ^ n)) := by
  have b1 := hn
  have b2 := hn
  have hmu := hn
  have hti := hn
  suffices key : CallA Tryd.prog 22 [.int .u64 base, .int .i64 n, natV v] m (fun v' mo => v' = natV (v * base ^ n) ∧ mo = none) from key
  refine CallA_in Tryd.func22 rfl Tryd.ntmps22 Tryd.results22 (by kernel_rfl) (by simp) fun Q hQ => ?_
  (have FX := And.intro b1 b2; repeat' (first | (refine sx ?_ ?_ <;> intro h <;> first | (exfalso; omega) | skip) | (refine g_op ?_; refine g_call ?_; refine g_args ?_; (first | refine s_fn (hmu _) ?_ | refine s_fn (hti _) ?_) <;> try first | omega | assumption) | refine ny ?_ | refine WA_block ?_))
  refine WA_while (σ := Nat × Nat) [0, 1, 2] (fun s => [.int .u64 base, .int .i64 s.1, natV s.2]) (fun _ => lend m ++ []) (fun s => 1 ≤ s.2 ∧ s.1 ≤ n ∧ s.2 * base ^ s.1 = v * base ^ n ∧ (dig s.2).length + s.1 ≤ 100000) (fun s => s.1) (n, v) ⟨hv, Nat.le_refl _, rfl, hlb⟩ tv_ rfl ?_
  rintro ⟨k, u⟩ ⟨hu, hkn, he, hlu⟩ L hL
  dsimp only at hu hkn he hlu
  simp only [zipT]
  clear FX b1 b2 hmu hti
  rcases Nat.eq_zero_or_pos k with rfl | hk
  · have b1 := hn
    have b2 := hn
    have hmu := hn
    have hti := hn
    (have FX := And.intro b1 b2; repeat' (first | (refine sx ?_ ?_ <;> intro h <;> first | (exfalso; omega) | skip) | (refine g_op ?_; refine g_call ?_; refine g_args ?_; (first | refine s_fn (hmu _) ?_ | refine s_fn (hti _) ?_) <;> try first | omega | assumption) | refine ny ?_ | refine WA_block ?_))
    all_goals (try (exfalso; omega))
    refine r_esA hQ (fin_pl (D := []) (dsV_plain _) ⟨?_, rfl⟩)
    rw [Nat.pow_zero, Nat.mul_one] at he
    rw [he]
  · have b1 := hn
    have b2 := hn
    have hmu := hn
    have hti := hn
    (have FX := And.intro b1 b2; repeat' (first | (refine sx ?_ ?_ <;> intro h <;> first | (exfalso; omega) | skip) | (refine g_op ?_; refine g_call ?_; refine g_args ?_; (first | refine s_fn (hmu _) ?_ | refine s_fn (hti _) ?_) <;> try first | omega | assumption) | refine ny ?_ | refine WA_block ?_))
    all_goals (try (exfalso; omega))
    refine WA_while (σ := Nat × Nat) [0, 1, 2, 7] (fun s => [.int .u64 base, .int .i64 s.2, natV u, .int .u64 s.1]) (fun _ => lend m ++ []) (fun s => (1 ≤ s.1 ∧ s.1 < 18446744073709551616) ∧ s.2 ≤ k ∧ s.1 * base ^ s.2 = base ^ k ∧ (s.2 = k → s.1 = 1)) (fun s => s.2) (1, k) ⟨⟨Nat.le_refl 1, show (1 : Nat) < 18446744073709551616 by decide⟩, Nat.le_refl _, Nat.one_mul _, fun _ => rfl⟩ tv_ rfl ?_
    rintro ⟨d, q⟩ ⟨⟨hd1, hd2⟩, hqk, hq, hd3⟩ L2 hL2
    dsimp only at hd1 hd2 hqk hq hd3
    simp only [zipT]
    clear FX b1 b2 hmu hti
    have hti := fun m => ntimes_c u d hu hd1 hd2 (by omega) m
    have hup := dig_len_mul hu hd1 hd2
    have hu2 : 1 ≤ u * d := Nat.mul_pos hu hd1
    have he2 : u * d * base ^ q = v * base ^ n := by rw [Nat.mul_assoc, hq, he]
    have hmu := fun m => mmul64_c (d : Nat) (base : Nat) (by omega) (by omega) (by omega) (by omega) m
    rw [← Int.natCast_mul] at hmu
    have b1 : d = 1 → d * base < 18446744073709551616 := fun h => by rw [h, Nat.one_mul]; exact hb2
    have b2 : 1 ≤ d * base := Nat.mul_pos hd1 hb
    have hlt : ¬ p0 d base < 18446744073709551616 → q < k := fun h => by
      rcases Nat.lt_or_ge q k with h1 | h1
      · exact h1
      · exact absurd (b1 (hd3 (by omega))) h
    rcases q with _ | j
    · unfold p0 at hlt
      generalize d * base = p at *
      (have FX := And.intro b1 b2; repeat' (first | (refine sx ?_ ?_ <;> intro h <;> first | (exfalso; omega) | skip) | (refine g_op ?_; refine g_call ?_; refine g_args ?_; (first | refine s_fn (hmu _) ?_ | refine s_fn (hti _) ?_) <;> try first | omega | assumption) | refine ny ?_ | refine WA_block ?_))
      all_goals (try (exfalso; omega))
      exact next_ hL (0, u * d) ⟨hu2, Nat.zero_le _, he2, by dsimp only; omega⟩ (by dsimp only; omega)
    · have hqs : d * base * base ^ j = base ^ k := by rw [← hq, Nat.pow_succ, Nat.mul_assoc, Nat.mul_comm base]
      unfold p0 at hlt
      generalize d * base = p at *
      (have FX := And.intro b1 b2; repeat' (first | (refine sx ?_ ?_ <;> intro h <;> first | (exfalso; omega) | skip) | (refine g_op ?_; refine g_call ?_; refine g_args ?_; (first | refine s_fn (hmu _) ?_ | refine s_fn (hti _) ?_) <;> try first | omega | assumption) | refine ny ?_ | refine WA_block ?_))
      all_goals (try (exfalso; omega))
      · exact next_ hL (j + 1, u * d) ⟨hu2, by dsimp only; omega, he2, by dsimp only; omega⟩ (by dsimp only; omega)
      · have hpm : (p : Int) % 18446744073709551616 = p := by omega
        have e1 : ((j + 1 : Nat) : Int) - 1 = (j : Int) := by omega
        rw [hpm, e1]
        exact next_ hL2 (p, j) ⟨⟨b2, by dsimp only; omega⟩, by dsimp only; omega, hqs, fun h => by dsimp only at h; omega⟩ (by dsimp only; omega)
/-- the parts of a pitch -/
def prN (a b c : Int) : Nat := 2 ^ a.toNat * 3 ^ b.toNat * 5 ^ c.toNat
theorem dig_1 : dig 1 = [1] := by rw [dig_s (by decide)]; rw [show 1 / 18446744073709551616 = 0 from rfl, dig_0]
theorem dsV_1 : dsV (dig 1) = [[V.int .u64 1]] := by rw [dig_1]; rfl
theorem dig_len_pow (v d : Nat) (hv : 1 ≤ v) (h1 : 1 ≤ d) (hd : d < 18446744073709551616) : ∀ n : Nat, (dig (v * d ^ n)).length ≤ (dig v).length + n
  | 0 => by rw [Nat.pow_zero, Nat.mul_one]; exact Nat.le_refl _
  | n + 1 => by
    have h := dig_len_pow v d hv h1 hd n
    have h2 := dig_len_mul (v := v * d ^ n) (d := d) (Nat.mul_pos hv (Nat.pow_pos h1)) h1 hd
    rw [Nat.pow_succ, ← Nat.mul_assoc]
    omega
theorem npower_m (base : Nat) (bi x : Int) (v : Nat) (hbi : bi = base) (hb : 1 ≤ base) (hb2 : base < 18446744073709551616) (hv : 1 ≤ v) (hx : x ≤ 400) (hlb : (dig v).length ≤ 10000) (m : Mem) : Gives Tryd.prog 22 [.int .u64 bi, .int .i64 (if 0 > x then 0 else x), natV v] m (natV (v * base ^ x.toNat)) := by
  subst hbi
  have e : (if 0 > x then 0 else x) = (x.toNat : Int) := by split <;> omega
  rw [e]
  exact npower_c base x.toNat v hb hb2 hv (by omega) (by omega) m
theorem prL (a b : Int) (ha : a ≤ 400) (hb : b ≤ 400) : ((dig 1).length ≤ 10000 ∧ (dig (2 ^ a.toNat)).length ≤ 10000 ∧ (dig (2 ^ a.toNat * 3 ^ b.toNat)).length ≤ 10000) ∧ 1 ≤ 2 ^ a.toNat ∧ 1 ≤ 2 ^ a.toNat * 3 ^ b.toNat := by
  have h1 : (dig 1).length = 1 := by rw [dig_1]; rfl
  have p1 : 1 ≤ 2 ^ a.toNat := Nat.pow_pos (by decide)
  have p2 : 1 ≤ 2 ^ a.toNat * 3 ^ b.toNat := Nat.mul_pos p1 (Nat.pow_pos (by decide))
  have h2 := dig_len_pow 1 2 (by decide) (by decide) (by decide) a.toNat
  rw [Nat.one_mul] at h2
  have h3 := dig_len_pow (2 ^ a.toNat) 3 p1 (by decide) (by decide) b.toNat
  exact ⟨⟨by omega, by omega, by omega⟩, p1, p2⟩
theorem uK3_20_5 {N : Nat} {l : List Oper} {t : List (Nat × V)} {m : Mem} {Q : Exit → List (Nat × V) → Mem → Prop} (h : RgN Tryd.prog N l t m Q (fun i => if i == 9 then .w else if i == 7 then .a else if i == 2 || i == 4 || i == 6 then .q else .p) [.one 0, .one 1, .one 2, .one 3, .one 4, .one 5, .one 6, .one 7, .one 8, .one 9]) : WA Tryd.prog N (.region 5 l.toArray true) t m Q := d_rgN h
theorem uK3_20_6 {N : Nat} {l : List Oper} {t : List (Nat × V)} {m : Mem} {Q : Exit → List (Nat × V) → Mem → Prop} (h : RgN Tryd.prog N l t m Q (fun i => if i == 10 then .w else if i == 8 then .a else if i == 2 || i == 4 || i == 5 || i == 7 then .q else .p) [.one 0, .one 1, .one 2, .one 3, .one 4, .one 5, .one 6, .one 7, .one 8, .one 9, .one 10]) : WA Tryd.prog N (.region 6 l.toArray true) t m Q := d_rgN h
theorem nquot_c (a b c : Int) (ha : -400 ≤ a ∧ a ≤ 400) (hb : -400 ≤ b ∧ b ≤ 400) (hc : -400 ≤ c ∧ c ≤ 400) (m : Mem) : Gives Tryd.prog 20 [.agg [.int .i64 a, .int .i64 b, .int .i64 c]] m (.agg [natV (prN a b c), natV (prN (-a) (-b) (-c))]) := by
  have q1 := prL a b ha.2 hb.2
  have q2 := prL (-a) (-b) (by omega) (by omega)
  have h2 := npower_m 2 2 a 1 rfl (by decide) (by decide) (Nat.le_refl _) ha.2 q1.1.1
  have h3 := fun m => npower_m 3 3 b _ rfl (by decide) (by decide) q1.2.1 hb.2 q1.1.2.1 m
  have h5 := fun m => npower_m 5 5 c _ rfl (by decide) (by decide) q1.2.2 hc.2 q1.1.2.2 m
  have k2 := npower_m 2 2 (-a) 1 rfl (by decide) (by decide) (Nat.le_refl _) (by omega) q1.1.1
  have k3 := fun m => npower_m 3 3 (-b) _ rfl (by decide) (by decide) q2.2.1 (by omega) q2.1.2.1 m
  have k5 := fun m => npower_m 5 5 (-c) _ rfl (by decide) (by decide) q2.2.2 (by omega) q2.1.2.2 m
  simp only [Nat.one_mul] at h2 k2
  clear q1 q2
  suffices key : CallA Tryd.prog 20 [.agg [.int .i64 a, .int .i64 b, .int .i64 c]] m (fun v' mo => v' = .agg [natV (prN a b c), natV (prN (-a) (-b) (-c))] ∧ mo = none) from key
  refine CallA_in Tryd.func20 rfl Tryd.ntmps20 Tryd.results20 (by kernel_rfl) (by simp) fun Q hQ => ?_
  (repeat' (first | (refine sx ?_ ?_ <;> intro h <;> first | (exfalso; omega) | skip) | (refine g_op ?_; refine g_call ?_; refine g_args ?_; (first | refine s_fn (h2 _) ?_ | refine s_fn (h3 _) ?_ | refine s_fn (h5 _) ?_ | refine s_fn (k2 _) ?_ | refine s_fn (k3 _) ?_ | refine s_fn (k5 _) ?_) <;> try first | omega | assumption) | refine ny ?_ | refine WA_block ?_ | (refine uK3_20_5 ?_; refine ⟨by kernel_rfl, ?_⟩) | (refine uK3_20_6 ?_; refine ⟨by kernel_rfl, ?_⟩) | ((first | refine grp_cons (fun _ => h2 _) ?_ | refine grp_cons (fun _ => h3 _) ?_ | refine grp_cons (fun _ => h5 _) ?_ | refine grp_cons (fun _ => k2 _) ?_ | refine grp_cons (fun _ => k3 _) ?_ | refine grp_cons (fun _ => k5 _) ?_) <;> try first | omega | assumption) | (refine g_d ?_; refine d_args ?_; (first | refine d_fn (h2 _) ?_ | refine d_fn (h3 _) ?_ | refine d_fn (h5 _) ?_ | refine d_fn (k2 _) ?_ | refine d_fn (k3 _) ?_ | refine d_fn (k5 _) ?_ | refine d_fnQ (fun _ => h2 _) ?_ | refine d_fnQ (fun _ => h3 _) ?_ | refine d_fnQ (fun _ => h5 _) ?_ | refine d_fnQ (fun _ => k2 _) ?_ | refine d_fnQ (fun _ => k3 _) ?_ | refine d_fnQ (fun _ => k5 _) ?_) <;> try first | omega | assumption) | (refine g_d ?_; (first | refine d_fnY (h2 _) ?_ | refine d_fnY (h3 _) ?_ | refine d_fnY (h5 _) ?_ | refine d_fnY (k2 _) ?_ | refine d_fnY (k3 _) ?_ | refine d_fnY (k5 _) ?_) <;> try first | omega | assumption)))
  refine WA_fzM (j := 2) rfl ?_
  simp only [List.map_cons, List.map_nil, frzV, frzC, List.set_cons_succ, List.set_cons_zero, argT, true_and, and_self, List.length_cons, List.length_nil, Nat.zero_add, Nat.le_refl, if_true, Nat.add_left_cancel_iff, Nat.reduceEqDiff, false_and, if_false, List.take_succ_cons, List.take_zero]
  refine WA_fzM (j := 3) rfl ?_
  simp only [List.map_cons, List.map_nil, frzV, frzC, List.set_cons_succ, List.set_cons_zero, argT, true_and, and_self, List.length_cons, List.length_nil, Nat.zero_add, Nat.le_refl, if_true, Nat.add_left_cancel_iff, Nat.reduceEqDiff, false_and, if_false, List.take_succ_cons, List.take_zero]
  rw [← dsV_1]
  refine WA_rounds 4 ?_
  (repeat' (first | (refine sx ?_ ?_ <;> intro h <;> first | (exfalso; omega) | skip) | (refine g_op ?_; refine g_call ?_; refine g_args ?_; (first | refine s_fn (h2 _) ?_ | refine s_fn (h3 _) ?_ | refine s_fn (h5 _) ?_ | refine s_fn (k2 _) ?_ | refine s_fn (k3 _) ?_ | refine s_fn (k5 _) ?_) <;> try first | omega | assumption) | refine ny ?_ | refine WA_block ?_ | (refine uK3_20_5 ?_; refine ⟨by kernel_rfl, ?_⟩) | (refine uK3_20_6 ?_; refine ⟨by kernel_rfl, ?_⟩) | ((first | refine grp_cons (fun _ => h2 _) ?_ | refine grp_cons (fun _ => h3 _) ?_ | refine grp_cons (fun _ => h5 _) ?_ | refine grp_cons (fun _ => k2 _) ?_ | refine grp_cons (fun _ => k3 _) ?_ | refine grp_cons (fun _ => k5 _) ?_) <;> try first | omega | assumption) | (refine g_d ?_; refine d_args ?_; (first | refine d_fn (h2 _) ?_ | refine d_fn (h3 _) ?_ | refine d_fn (h5 _) ?_ | refine d_fn (k2 _) ?_ | refine d_fn (k3 _) ?_ | refine d_fn (k5 _) ?_ | refine d_fnQ (fun _ => h2 _) ?_ | refine d_fnQ (fun _ => h3 _) ?_ | refine d_fnQ (fun _ => h5 _) ?_ | refine d_fnQ (fun _ => k2 _) ?_ | refine d_fnQ (fun _ => k3 _) ?_ | refine d_fnQ (fun _ => k5 _) ?_) <;> try first | omega | assumption) | (refine g_d ?_; (first | refine d_fnY (h2 _) ?_ | refine d_fnY (h3 _) ?_ | refine d_fnY (h5 _) ?_ | refine d_fnY (k2 _) ?_ | refine d_fnY (k3 _) ?_ | refine d_fnY (k5 _) ?_) <;> try first | omega | assumption)))
  refine r_esA hQ (.inr ⟨_, _, rfl, ?_, ⟨rfl, rfl⟩⟩)
  show (frzs (frz _ _ 3) [_, _]).map V.agg = _
  rw [frzs_cons (frz_ls (dsV_plain _)) (frzs_cons (frz_ls (dsV_plain _)) rfl)]
  rfl
end Go.Proofs.YtdkkhfkplpopdaaDoor
